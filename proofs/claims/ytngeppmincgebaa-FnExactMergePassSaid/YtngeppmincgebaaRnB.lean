/-
  Runs: copies, comparisons, marks.
-/
import Derived.Test.YtngeppmincgebaaRnA
namespace Go.Proofs.Ytngeppmincgebaa.Ab
open Go.RowKit
set_option linter.unusedVariables false
set_option linter.unusedSimpArgs false
set_option maxRecDepth 20000
set_option maxHeartbeats 1000000

abbrev Rn := List Rw
abbrev rnT : Ty Rn := lsT rwT
abbrev rnL (rs : List Rn) : V := lstOf rnT rs
/-- The rows of a list of runs: the outer one, then each run's. -/
abbrev rnN (rs : List Rn) : List Reg := ⟨93, 1, nC 1 rs, 0⟩ :: nR rwT 75 rs
def okRn (rs : List Rn) : Prop := rs.length ≤ 1000000000 ∧ ∀ x ∈ rs, x.length ≤ 1000000000
theorem okRn.at {rs : List Rn} (h : okRn rs) {i : Nat} {x : Rn} (hx : rs[i]? = some x) : x.length ≤ 1000000000 := h.2 x (List.mem_of_getElem? hx)

/-! ### Sizes -/
def szG : List Rn → Int → Int
  | [], l => l
  | x :: xs, l => cond (decide (szL x.length l < 0)) (-1) (szG xs (szL x.length l))
def szR (rs : List Rn) (l : Int) : Int := cond (decide (IntKind.i64.wrap (l - rs.length) < 0)) (-1) (szG rs (IntKind.i64.wrap (l - rs.length)))

theorem c_szRun (x : Rn) (l : Int) : Meets Go.Proofs.Try.prog 75 [.agg [rwL x], I l] [] (I (cond (decide (szL x.length l < 0)) (-1) (szL x.length l))) [] false := by
  refine meets_of [4] Go.Proofs.Try.func75 rfl rfl ?_
  simp only [Go.Proofs.Try.ntmps75, List.length_cons, List.length_nil, Nat.reduceAdd, Nat.reduceSub, List.replicate_succ, List.replicate_zero, List.cons_append, List.nil_append]
  repeat' first
    | refine aw_seq ?_
    | refine aw_region ?_
    | refine aw_lex [] ?_
    | (refine isA ?_; refine do_F rfl ?_)
    | (refine isL ?_; refine lex_F rfl (by kernel_rfl) rfl rfl ?_)
    | (refine isLg rfl ?_; refine lex_S rfl (by kernel_rfl) rfl rfl ?_)
    | (refine isAc 15 ?_; refine do_R rfl (st_call rfl (c_szRowS _ _) (.cons (.same rfl) (.cons (.same rfl) .nil)) rfl) rfl ?_)
    | (refine isLc 15 rfl ?_; refine lex_R rfl (by kernel_rfl) rfl (st_call rfl (c_szRowS _ _) (.cons (.same rfl) (.cons (.same rfl) .nil)) rfl) rfl ?_)
    | refine aw_cond rfl (fun _ => ?_) (fun _ => ?_)
    | (refine fin1 rfl rfl ?_; simp only [*, cond_true, cond_false]; done)
    | refine aops_nil ?_
    | refine lex_done _ rfl (by kernel_rfl) ?_
    | refine aw_ct rfl ?_
    | refine aw_cf rfl ?_
    | refine aw_block ?_
    | refine then_n ?_
    | refine aw_skip ?_
    | refine aw_exit ?_
    | refine then_x ?_
    | refine then_r ?_
    | refine block_x ?_
    | refine block_n ?_
    | refine block_r ?_
    | refine aw_ret ?_

theorem c_szRunS (rs : List Rn) (l : Int) (hl : rs.length ≤ 9223372036854775807) : Meets Go.Proofs.Try.prog 29 [rnL rs, I l] [] (I (szR rs l)) [] false := by
  refine meets_of [4] Go.Proofs.Try.func29 rfl rfl ?_
  simp only [Go.Proofs.Try.ntmps29, List.length_cons, List.length_nil, Nat.reduceAdd, Nat.reduceSub, List.replicate_succ, List.replicate_zero, List.cons_append, List.nil_append]
  repeat' first
    | refine aw_seq ?_
    | refine aw_region ?_
    | refine aw_lex [] ?_
    | (refine isA ?_; refine do_F rfl ?_)
    | (refine isL ?_; refine lex_F rfl (by kernel_rfl) rfl rfl ?_)
    | (refine isLg rfl ?_; refine lex_S rfl (by kernel_rfl) rfl rfl ?_)
    | refine aops_nil ?_
    | refine lex_done _ rfl (by kernel_rfl) ?_
    | refine aw_ct rfl ?_
    | refine aw_cf rfl ?_
    | refine aw_block ?_
    | refine then_n ?_
    | refine aw_skip ?_
    | refine aw_exit ?_
    | refine then_x ?_
    | refine then_r ?_
    | refine block_x ?_
    | refine block_n ?_
    | refine block_r ?_
    | refine aw_ret ?_
  refine aw_cond rfl (fun h => ?_) (fun h => ?_)
  · repeat' first
      | refine aw_seq ?_
      | refine aw_region ?_
      | refine aw_lex [] ?_
      | (refine isA ?_; refine do_F rfl ?_)
      | (refine isL ?_; refine lex_F rfl (by kernel_rfl) rfl rfl ?_)
      | (refine isLg rfl ?_; refine lex_S rfl (by kernel_rfl) rfl rfl ?_)
      | exact fin1 rfl rfl (by rw [szR, h]; rfl)
      | refine aops_nil ?_
      | refine lex_done _ rfl (by kernel_rfl) ?_
      | refine aw_ct rfl ?_
      | refine aw_cf rfl ?_
      | refine aw_block ?_
      | refine then_n ?_
      | refine aw_skip ?_
      | refine aw_exit ?_
      | refine then_x ?_
      | refine then_r ?_
      | refine block_x ?_
      | refine block_n ?_
      | refine block_r ?_
      | refine aw_ret ?_
  have hs : szR rs l = szG rs (IntKind.i64.wrap (l - rs.length)) := by rw [szR, h]; rfl
  rw [hs]
  generalize IntKind.i64.wrap (l - rs.length) = l0
  repeat' first
    | refine aw_seq ?_
    | refine aw_region ?_
    | refine aw_lex [] ?_
    | (refine isA ?_; refine do_F rfl ?_)
    | (refine isL ?_; refine lex_F rfl (by kernel_rfl) rfl rfl ?_)
    | (refine isLg rfl ?_; refine lex_S rfl (by kernel_rfl) rfl rfl ?_)
    | refine aops_nil ?_
    | refine lex_done _ rfl (by kernel_rfl) ?_
    | refine aw_ct rfl ?_
    | refine aw_cf rfl ?_
    | refine aw_block ?_
    | refine then_n ?_
    | refine aw_skip ?_
    | refine aw_exit ?_
    | refine then_x ?_
    | refine then_r ?_
    | refine block_x ?_
    | refine block_n ?_
    | refine block_r ?_
    | refine aw_ret ?_
  refine aw_loop (α := { p : Nat × Int // p.1 ≤ rs.length ∧ szG (rs.drop p.1) p.2 = szG rs l0 }) (fun p => ⟨[rnL rs, I p.1.2, .any, .any, .any, I p.1.1, .any, .any, .any, .any, .any, .any, .any, .any, .any, .any, .any, .any, .any, .any, .any, .any, .any, .any, .any, .any, .any], [], 0⟩) (fun p => rs.length - p.1.1) ⟨(0, l0), Nat.zero_le _, rfl⟩ ?_ ?_
  · exact sub0 [] rfl rfl (by decide) .nil (by repeat' first | exact les_nil | refine les_cons ?_ ?_ | exact le_any | exact le_refl rfl | exact le_sl rfl rfl | exact le_ptr rfl)
  · rintro ⟨⟨i, l1⟩, hi, he⟩
    repeat' first
      | refine aw_seq ?_
      | refine aw_region ?_
      | refine aw_lex [] ?_
      | (refine isA ?_; refine do_F rfl ?_)
      | (refine isL ?_; refine lex_F rfl (by kernel_rfl) rfl rfl ?_)
      | (refine isLg rfl ?_; refine lex_S rfl (by kernel_rfl) rfl rfl ?_)
      | refine aops_nil ?_
      | refine lex_done _ rfl (by kernel_rfl) ?_
      | refine aw_ct rfl ?_
      | refine aw_cf rfl ?_
      | refine aw_block ?_
      | refine then_n ?_
      | refine aw_skip ?_
      | refine aw_exit ?_
      | refine then_x ?_
      | refine then_r ?_
      | refine block_x ?_
      | refine block_n ?_
      | refine block_r ?_
      | refine aw_ret ?_
    refine aw_cond rfl (fun h => ?_) (fun h => ?_)
    · have hlt : i < rs.length := by simpa using h
      obtain ⟨z, hz⟩ : ∃ z, rs[i]? = some z := ⟨_, List.getElem?_eq_getElem hlt⟩
      have hd : rs.drop i = z :: rs.drop (i + 1) := by rw [List.drop_eq_getElem_cons hlt]; congr 1; rw [List.getElem?_eq_getElem hlt] at hz; exact Option.some.inj hz
      simp only at he
      rw [hd, szG] at he
      repeat' first
        | refine aw_seq ?_
        | refine aw_region ?_
        | refine aw_lex [] ?_
        | (refine isA ?_; refine do_F rfl ?_)
        | (refine isL ?_; refine lex_F rfl (by kernel_rfl) rfl rfl ?_)
        | (refine isLg rfl ?_; refine lex_S rfl (by kernel_rfl) rfl rfl ?_)
        | (refine isAi ?_; refine do_R rfl (ia_l (t := rnT) (z := z) rfl rfl rfl rfl (Int.natCast_nonneg i) hz) rfl ?_)
        | (refine isLi rfl ?_; refine lex_R rfl (by kernel_rfl) rfl (ia_l (t := rnT) (z := z) rfl rfl rfl rfl (Int.natCast_nonneg i) hz) rfl ?_)
        | (refine isAc 75 ?_; refine do_R rfl (st_call rfl (c_szRun z l1) (.cons (.same rfl) (.cons (.same rfl) .nil)) rfl) rfl ?_)
        | (refine isLc 75 rfl ?_; refine lex_R rfl (by kernel_rfl) rfl (st_call rfl (c_szRun z l1) (.cons (.same rfl) (.cons (.same rfl) .nil)) rfl) rfl ?_)
        | refine aops_nil ?_
        | refine lex_done _ rfl (by kernel_rfl) ?_
        | refine aw_ct rfl ?_
        | refine aw_cf rfl ?_
        | refine aw_block ?_
        | refine then_n ?_
        | refine aw_skip ?_
        | refine aw_exit ?_
        | refine then_x ?_
        | refine then_r ?_
        | refine block_x ?_
        | refine block_n ?_
        | refine block_r ?_
        | refine aw_ret ?_
      cases h1 : decide (szL z.length l1 < 0) with
      | true =>
        rw [h1, cond_true] at he
        repeat' first
          | refine aw_seq ?_
          | refine aw_region ?_
          | refine aw_lex [] ?_
          | (refine isA ?_; refine do_F rfl ?_)
          | (refine isL ?_; refine lex_F rfl (by kernel_rfl) rfl rfl ?_)
          | (refine isLg rfl ?_; refine lex_S rfl (by kernel_rfl) rfl rfl ?_)
          | exact fin1 rfl rfl (by rw [← he])
          | refine aops_nil ?_
          | refine lex_done _ rfl (by kernel_rfl) ?_
          | refine aw_ct rfl ?_
          | refine aw_cf rfl ?_
          | refine aw_block ?_
          | refine then_n ?_
          | refine aw_skip ?_
          | refine aw_exit ?_
          | refine then_x ?_
          | refine then_r ?_
          | refine block_x ?_
          | refine block_n ?_
          | refine block_r ?_
          | refine aw_ret ?_
      | false =>
        rw [h1, cond_false] at he
        simp only [cond_false]
        refine aw_cond rfl (fun h => by rw [h1] at h; cases h) (fun _ => ?_)
        repeat' first
          | refine aw_seq ?_
          | refine aw_region ?_
          | refine aw_lex [] ?_
          | (refine isA ?_; refine do_F rfl ?_)
          | (refine isL ?_; refine lex_F rfl (by kernel_rfl) rfl rfl ?_)
          | (refine isLg rfl ?_; refine lex_S rfl (by kernel_rfl) rfl rfl ?_)
          | refine aops_nil ?_
          | refine lex_done _ rfl (by kernel_rfl) ?_
          | refine aw_ct rfl ?_
          | refine aw_cf rfl ?_
          | refine aw_block ?_
          | refine then_n ?_
          | refine aw_skip ?_
          | refine aw_exit ?_
          | refine then_x ?_
          | refine then_r ?_
          | refine block_x ?_
          | refine block_n ?_
          | refine block_r ?_
          | refine aw_ret ?_
        refine ⟨⟨(i + 1, szL z.length l1), hlt, he⟩, by simp only; omega, ?_⟩
        exact sub0 [] rfl rfl (by decide) .nil (by repeat' first | exact les_nil | refine les_cons ?_ ?_ | exact le_any | exact le_refl rfl | exact le_k (congrArg _ (show ((i + 1 : Nat) : Int) = IntKind.i64.wrap ((i : Int) + 1) by rw [IntKind.wrap_i64]; omega)))
    · have hge : i = rs.length := by
        have : ¬ ((i : Int) < rs.length) := by simpa using h
        omega
      subst hge
      simp only [List.drop_length, szG] at he
      repeat' first
        | refine aw_seq ?_
        | refine aw_region ?_
        | refine aw_lex [] ?_
        | (refine isA ?_; refine do_F rfl ?_)
        | (refine isL ?_; refine lex_F rfl (by kernel_rfl) rfl rfl ?_)
        | (refine isLg rfl ?_; refine lex_S rfl (by kernel_rfl) rfl rfl ?_)
        | exact fin1 rfl rfl (congrArg I he)
        | refine aops_nil ?_
        | refine lex_done _ rfl (by kernel_rfl) ?_
        | refine aw_ct rfl ?_
        | refine aw_cf rfl ?_
        | refine aw_block ?_
        | refine then_n ?_
        | refine aw_skip ?_
        | refine aw_exit ?_
        | refine then_x ?_
        | refine then_r ?_
        | refine block_x ?_
        | refine block_n ?_
        | refine block_r ?_
        | refine aw_ret ?_

theorem szG_ok : ∀ {rs : List Rn} {l : Int}, (∀ x ∈ rs, x.length ≤ 9223372036854775807) → l ≤ 1048576 → 0 ≤ l → decide (szG rs l < 0) = false → ((rs.map List.length).sum : Int) ≤ l ∧ 0 ≤ szG rs l ∧ szG rs l = l - (rs.map List.length).sum
  | [], l, _, _, h0, _ => by simp [szG]; omega
  | x :: xs, l, hx, hl, h0, h => by
    have hxl := hx x (List.mem_cons_self ..)
    have e : szL x.length l = if l - (x.length : Int) < 0 then -1 else l - x.length := by
      unfold szL
      have : IntKind.i64.wrap (l - x.length) = l - x.length := by rw [IntKind.wrap_i64]; omega
      rw [this]
      by_cases hc : l - (x.length : Int) < 0
      · rw [decide_eq_true hc, if_pos hc]; rfl
      · rw [decide_eq_false hc, if_neg hc]; rfl
    rw [szG, e] at h ⊢
    by_cases hc : l - (x.length : Int) < 0
    · rw [if_pos hc] at h
      cases h
    · rw [if_neg hc] at h ⊢
      rw [show decide (l - (x.length : Int) < 0) = false from decide_eq_false hc, cond_false] at h ⊢
      obtain ⟨q1, q2, q3⟩ := szG_ok (fun y hy => hx y (List.mem_cons_of_mem _ hy)) (by omega) (by omega) h
      simp only [List.map_cons, List.sum_cons]
      omega
theorem mem_sum : ∀ {l : List Nat} {x : Nat}, x ∈ l → x ≤ l.sum
  | a :: l, x, h => by
    rw [List.sum_cons]
    rcases List.mem_cons.1 h with rfl | h
    · omega
    · have := mem_sum h; omega
/-- The sum of all lengths. -/
def tot (rs : List Rn) : Nat := (rs.map List.length).sum
theorem szR_ok {rs : List Rn} {l : Int} (hl : rs.length ≤ 9223372036854775807) (hx : ∀ x ∈ rs, x.length ≤ 9223372036854775807) (hl1 : l ≤ 1048576) (h0 : 0 ≤ l) (h : decide (szR rs l < 0) = false) : (rs.length : Int) + tot rs ≤ l ∧ szR rs l = l - rs.length - tot rs := by
  have e : IntKind.i64.wrap (l - rs.length) = l - rs.length := by rw [IntKind.wrap_i64]; omega
  unfold szR at h ⊢
  rw [e] at h ⊢
  by_cases hc : l - (rs.length : Int) < 0
  · rw [decide_eq_true hc] at h; cases h
  · rw [show decide (l - (rs.length : Int) < 0) = false from decide_eq_false hc, cond_false] at h ⊢
    obtain ⟨q1, q2, q3⟩ := szG_ok hx (by omega) (by omega) h
    unfold tot
    omega
theorem okRn_of {rs : List Rn} {l : Int} (hl : l ≤ 1048576) (h : (rs.length : Int) + tot rs ≤ l) : okRn rs := ⟨by omega, fun x hx => by
  have : x.length ≤ tot rs := mem_sum (List.mem_map.2 ⟨x, hx, rfl⟩)
  omega⟩

/-! ### Copies -/
theorem c_toRun (x : Rn) (hl : x.length ≤ 1000000000) : Meets Go.Proofs.Try.prog 76 [.agg [rwL x]] [] (.agg [rwL x]) [] true := by
  refine meets_ofC 2 93 Go.Proofs.Try.func76 rfl rfl ?_
  simp only [Go.Proofs.Try.ntmps76, List.length_cons, List.length_nil, Nat.reduceAdd, Nat.reduceSub, List.replicate_succ, List.replicate_zero, List.cons_append, List.nil_append]
  repeat' first
    | refine aw_seq ?_
    | refine aw_region ?_
    | refine aw_lex [] ?_
    | (refine isA ?_; refine do_F rfl ?_)
    | (refine isL ?_; refine lex_F rfl (by kernel_rfl) rfl rfl ?_)
    | (refine isLg rfl ?_; refine lex_S rfl (by kernel_rfl) rfl rfl ?_)
    | (refine isAc 17 ?_; refine do_R rfl (st_call rfl (c_toRowS _ hl) (.cons (.same rfl) .nil) rfl) rfl ?_)
    | (refine isLc 17 rfl ?_; refine lex_R rfl (by kernel_rfl) rfl (st_call rfl (c_toRowS _ hl) (.cons (.same rfl) .nil) rfl) rfl ?_)
    | exact finC (cell_is rfl rfl rfl rfl rfl) (.same rfl)
    | refine aops_nil ?_
    | refine lex_done _ rfl (by kernel_rfl) ?_
    | refine aw_ct rfl ?_
    | refine aw_cf rfl ?_
    | refine aw_block ?_
    | refine then_n ?_
    | refine aw_skip ?_
    | refine aw_exit ?_
    | refine then_x ?_
    | refine then_r ?_
    | refine block_x ?_
    | refine block_n ?_
    | refine block_r ?_
    | refine aw_ret ?_
theorem c_toRunO (x : Rn) (hl : x.length ≤ 1000000000) : Meets Go.Proofs.Try.prog 76 [.agg [rwL x]] [] (.agg [.sl 0 0 x.length]) [rwR x] true := by
  refine meets_ofC 2 93 Go.Proofs.Try.func76 rfl rfl ?_
  simp only [Go.Proofs.Try.ntmps76, List.length_cons, List.length_nil, Nat.reduceAdd, Nat.reduceSub, List.replicate_succ, List.replicate_zero, List.cons_append, List.nil_append]
  repeat' first
    | refine aw_seq ?_
    | refine aw_region ?_
    | refine aw_lex [] ?_
    | (refine isA ?_; refine do_F rfl ?_)
    | (refine isL ?_; refine lex_F rfl (by kernel_rfl) rfl rfl ?_)
    | (refine isLg rfl ?_; refine lex_S rfl (by kernel_rfl) rfl rfl ?_)
    | (refine isAc 17 ?_; refine do_R rfl (st_callK rfl (c_toRowSO _ hl) (.cons (.same rfl) .nil) (fun q hq => by simp at hq; subst hq; exact flat_noH _ _) rfl rfl) rfl ?_)
    | (refine isLc 17 rfl ?_; refine lex_R rfl (by kernel_rfl) rfl (st_callK rfl (c_toRowSO _ hl) (.cons (.same rfl) .nil) (fun q hq => by simp at hq; subst hq; exact flat_noH _ _) rfl rfl) rfl ?_)
    | exact finMC [3] (by decide) (cell_is rfl rfl rfl rfl rfl) (le_agg (les_cons (le_sl rfl rfl) les_nil)) (.cons rfl rfl rfl rfl (les_refl (flat_noH _ _)) .nil)
    | refine aops_nil ?_
    | refine lex_done _ rfl (by kernel_rfl) ?_
    | refine aw_ct rfl ?_
    | refine aw_cf rfl ?_
    | refine aw_block ?_
    | refine then_n ?_
    | refine aw_skip ?_
    | refine aw_exit ?_
    | refine then_x ?_
    | refine then_r ?_
    | refine block_x ?_
    | refine block_n ?_
    | refine block_r ?_
    | refine aw_ret ?_
abbrev nilV : V := .k (.slice none 0 0)
theorem flat_rn (rs : List Rn) : rnT.flat rs = rs.map rwL := by
  induction rs with
  | nil => rfl
  | cons x xs ih => rw [flat_cons, ih]; rfl
theorem take_snoc {α : Type} {rs : List α} {i : Nat} {z : α} (hz : rs[i]? = some z) : rs.take (i + 1) = rs.take i ++ [z] := by
  rw [List.take_add_one, hz]; rfl
theorem c_toRunS (rs : List Rn) (hok : okRn rs) : Meets Go.Proofs.Try.prog 31 [rnL rs] [] (rnL rs) [] true := by
  have hl := hok.1
  refine meets_of [2] Go.Proofs.Try.func31 rfl rfl ?_
  simp only [Go.Proofs.Try.ntmps31, List.length_cons, List.length_nil, Nat.reduceAdd, Nat.reduceSub, List.replicate_succ, List.replicate_zero, List.cons_append, List.nil_append]
  repeat' first
    | refine aw_seq ?_
    | refine aw_region ?_
    | refine aw_lex [] ?_
    | (refine isA ?_; refine do_F rfl ?_)
    | (refine isL ?_; refine lex_F rfl (by kernel_rfl) rfl rfl ?_)
    | (refine isLg rfl ?_; refine lex_S rfl (by kernel_rfl) rfl rfl ?_)
    | (refine isAm ?_; refine do_R rfl (mkN (.slice none 0 0) rfl rfl rfl hl rfl) rfl ?_)
    | (refine isLm rfl ?_; refine lex_R rfl (by kernel_rfl) rfl (mkN (.slice none 0 0) rfl rfl rfl hl rfl) rfl ?_)
    | refine aops_nil ?_
    | refine lex_done _ rfl (by kernel_rfl) ?_
    | refine aw_ct rfl ?_
    | refine aw_cf rfl ?_
    | refine aw_block ?_
    | refine then_n ?_
    | refine aw_skip ?_
    | refine aw_exit ?_
    | refine then_x ?_
    | refine then_r ?_
    | refine block_x ?_
    | refine block_n ?_
    | refine block_r ?_
    | refine aw_ret ?_
  refine aw_loop (α := { i : Nat // i ≤ rs.length }) (fun i => ⟨[rnL rs, .any, .any, .sl 0 0 rs.length, I i.1, .any, .any, .any, .any, .any, .any, .any, .any, .any, .any, .any, .any, .any, .any, .any, .any, .any, .any], [⟨93, 1, rnT.flat (rs.take i.1) ++ List.replicate (rs.length - i.1) nilV, 0⟩], 0⟩) (fun i => rs.length - i.1) ⟨0, Nat.zero_le _⟩ ?_ ?_
  · exact sub_id rfl (by repeat' first | exact .nil | refine .any ?_ | refine .same rfl ?_)
  · rintro ⟨i, hi⟩
    repeat' first
      | refine aw_seq ?_
      | refine aw_region ?_
      | refine aw_lex [] ?_
      | (refine isA ?_; refine do_F rfl ?_)
      | (refine isL ?_; refine lex_F rfl (by kernel_rfl) rfl rfl ?_)
      | (refine isLg rfl ?_; refine lex_S rfl (by kernel_rfl) rfl rfl ?_)
      | refine aops_nil ?_
      | refine lex_done _ rfl (by kernel_rfl) ?_
      | refine aw_ct rfl ?_
      | refine aw_cf rfl ?_
      | refine aw_block ?_
      | refine then_n ?_
      | refine aw_skip ?_
      | refine aw_exit ?_
      | refine then_x ?_
      | refine then_r ?_
      | refine block_x ?_
      | refine block_n ?_
      | refine block_r ?_
      | refine aw_ret ?_
    refine aw_cond rfl (fun h => ?_) (fun h => ?_)
    · have hlt : i < rs.length := by simpa using h
      obtain ⟨z, hz⟩ : ∃ z, rs[i]? = some z := ⟨_, List.getElem?_eq_getElem hlt⟩
      have hlen : (rnT.flat (rs.take i)).length = i := by rw [flat_length]; show (rs.take i).length * 1 = i; simp; omega
      repeat' first
        | refine aw_seq ?_
        | refine aw_region ?_
        | refine aw_lex [] ?_
        | (refine isA ?_; refine do_F rfl ?_)
        | (refine isL ?_; refine lex_F rfl (by kernel_rfl) rfl rfl ?_)
        | (refine isLg rfl ?_; refine lex_S rfl (by kernel_rfl) rfl rfl ?_)
        | (refine isAi (x := .tmp 16) ?_; refine do_R rfl (ia_l (t := rnT) (z := z) rfl rfl rfl rfl (Int.natCast_nonneg i) hz) rfl ?_)
        | (refine isLi (x := .tmp 16) rfl ?_; refine lex_R rfl (by kernel_rfl) rfl (ia_l (t := rnT) (z := z) rfl rfl rfl rfl (Int.natCast_nonneg i) hz) rfl ?_)
        | (refine isAc 76 ?_; refine do_R rfl (st_call rfl (c_toRun z (hok.at hz)) (.cons (.same rfl) .nil) rfl) rfl ?_)
        | (refine isLc 76 rfl ?_; refine lex_R rfl (by kernel_rfl) rfl (st_call rfl (c_toRun z (hok.at hz)) (.cons (.same rfl) .nil) rfl) rfl ?_)
        | (refine isAi (x := .tmp 14) ?_; refine do_R rfl (step_ia_sl (j := i) rfl rfl rfl (Nat.zero_le _) rfl rfl (Int.natCast_nonneg i) (by simpa using hlt)) rfl ?_)
        | (refine isLi (x := .tmp 14) rfl ?_; refine lex_R rfl (by kernel_rfl) rfl (step_ia_sl (j := i) rfl rfl rfl (Nat.zero_le _) rfl rfl (Int.natCast_nonneg i) (by simpa using hlt)) rfl ?_)
        | (refine isAs ?_; refine do_R rfl (step_stores (n := 1) rfl rfl rfl rfl (fun c hc => by simp at hc; subst hc; rfl) rfl rfl (by simp [hlen]; omega)) rfl ?_)
        | (refine isLs rfl ?_; refine lex_R rfl (by kernel_rfl) rfl (step_stores (n := 1) rfl rfl rfl rfl (fun c hc => by simp at hc; subst hc; rfl) rfl rfl (by simp [hlen]; omega)) rfl ?_)
        | refine aops_nil ?_
        | refine lex_done _ rfl (by kernel_rfl) ?_
        | refine aw_ct rfl ?_
        | refine aw_cf rfl ?_
        | refine aw_block ?_
        | refine then_n ?_
        | refine aw_skip ?_
        | refine aw_exit ?_
        | refine then_x ?_
        | refine then_r ?_
        | refine block_x ?_
        | refine block_n ?_
        | refine block_r ?_
        | refine aw_ret ?_
      refine ⟨⟨i + 1, hlt⟩, by simp only; omega, ?_⟩
      refine sub_id ?_ (by repeat' first | exact .nil | refine .any ?_ | refine .same rfl ?_ | refine .same (i_succ (by assumption) (by omega)) ?_)
      have e1 : (0 + (i : Int).toNat) * 1 = i := by simp
      show _ = [(⟨93, 1, setCells (rnT.flat (rs.take i) ++ List.replicate (rs.length - i) nilV) ((0 + (i : Int).toNat) * 1) [rwL z], 0⟩ : Reg)]
      rw [e1, fillN hlen hlt, take_snoc hz, flat_append]
      rfl
    · have hge : i = rs.length := by
        have : ¬ ((i : Int) < rs.length) := by simpa using h
        omega
      subst hge
      repeat' first
        | refine aw_seq ?_
        | refine aw_region ?_
        | refine aw_lex [] ?_
        | (refine isA ?_; refine do_F rfl ?_)
        | (refine isL ?_; refine lex_F rfl (by kernel_rfl) rfl rfl ?_)
        | (refine isLg rfl ?_; refine lex_S rfl (by kernel_rfl) rfl rfl ?_)
        | exact finP rfl (pur_L rfl rfl (by simp) rfl)
        | refine aops_nil ?_
        | refine lex_done _ rfl (by kernel_rfl) ?_
        | refine aw_ct rfl ?_
        | refine aw_cf rfl ?_
        | refine aw_block ?_
        | refine then_n ?_
        | refine aw_skip ?_
        | refine aw_exit ?_
        | refine then_x ?_
        | refine then_r ?_
        | refine block_x ?_
        | refine block_n ?_
        | refine block_r ?_
        | refine aw_ret ?_
end Go.Proofs.Ytngeppmincgebaa.Ab
