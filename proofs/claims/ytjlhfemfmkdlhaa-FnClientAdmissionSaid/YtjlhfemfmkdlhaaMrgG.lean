/- Texts DrwM in one. -/
import Derived.Test.YtjlhfemfmkdlhaaMrgF
import Derived.Test.YtjlhfemfmkdlhaaMrgE
import Derived.Test.YtjlhfemfmkdlhaaMrgD
import Derived.Test.YtjlhfemfmkdlhaaMrgB
import Derived.Test.YtjlhfemfmkdlhaaAb2
set_option linter.unusedVariables false
set_option linter.unusedSimpArgs false
set_option maxRecDepth 20000
set_option maxHeartbeats 4000000
/- DrwM -/
namespace Go.Proofs.Ytjlhfemfmkdlhaa.Ab
open Go.RowKit

theorem c_sameInts (xs : List Int) (hl : xs.length ≤ 1000000000) : Meets Go.Proofs.Try.prog 39 [lstOf intT xs, lstOf intT xs] [] (B true) [] false := by
  refine meets_of [4] Go.Proofs.Try.func39 rfl rfl ?_
  simp only [Go.Proofs.Try.ntmps39, List.length_cons, List.length_nil, Nat.reduceAdd, Nat.reduceSub, List.replicate_succ, List.replicate_zero, List.cons_append, List.nil_append]
  repeat' first
    | refine aw_seq ?_
    | refine aw_region ?_
    | refine aw_lex [] ?_
    | (refine isA ?_; refine do_F rfl ?_)
    | (refine isL ?_; refine lex_F rfl (by kernel_rfl) rfl rfl ?_)
    | (refine isLg rfl ?_; refine lex_S rfl (by kernel_rfl) rfl rfl ?_)
    | refine aops_nil ?_
    | refine lex_done _ rfl (by kernel_rfl) ?_
    | refine aw_ct rfl ?_
    | refine aw_cf rfl ?_
    | refine aw_block ?_
    | refine then_n ?_
    | refine aw_skip ?_
    | refine aw_exit ?_
    | refine then_x ?_
    | refine then_r ?_
    | refine block_x ?_
    | refine block_n ?_
    | refine block_r ?_
    | refine aw_ret ?_
  refine aw_cond rfl (fun h => by simp at h) (fun _ => ?_)
  repeat' first
    | refine aw_seq ?_
    | refine aw_region ?_
    | refine aw_lex [] ?_
    | (refine isA ?_; refine do_F rfl ?_)
    | (refine isL ?_; refine lex_F rfl (by kernel_rfl) rfl rfl ?_)
    | (refine isLg rfl ?_; refine lex_S rfl (by kernel_rfl) rfl rfl ?_)
    | refine aops_nil ?_
    | refine lex_done _ rfl (by kernel_rfl) ?_
    | refine aw_ct rfl ?_
    | refine aw_cf rfl ?_
    | refine aw_block ?_
    | refine then_n ?_
    | refine aw_skip ?_
    | refine aw_exit ?_
    | refine then_x ?_
    | refine then_r ?_
    | refine block_x ?_
    | refine block_n ?_
    | refine block_r ?_
    | refine aw_ret ?_
  refine aw_loop (α := { i : Nat // i ≤ xs.length }) (fun i => ⟨[lstOf intT xs, lstOf intT xs, .any, .any, .any, I i.1, .any, .any, .any, .any, .any, .any, .any, .any, .any, .any, .any, .any, .any, .any, .any, .any, .any, .any, .any, .any], [], 0⟩) (fun i => xs.length - i.1) ⟨0, Nat.zero_le _⟩ ?_ ?_
  · exact sub0 [] rfl rfl (by decide) .nil (by repeat' first | exact les_nil | refine les_cons ?_ ?_ | exact le_any | exact le_refl rfl | exact le_sl rfl rfl | exact le_ptr rfl)
  · rintro ⟨i, hi⟩
    repeat' first
      | refine aw_seq ?_
      | refine aw_region ?_
      | refine aw_lex [] ?_
      | (refine isA ?_; refine do_F rfl ?_)
      | (refine isL ?_; refine lex_F rfl (by kernel_rfl) rfl rfl ?_)
      | (refine isLg rfl ?_; refine lex_S rfl (by kernel_rfl) rfl rfl ?_)
      | refine aops_nil ?_
      | refine lex_done _ rfl (by kernel_rfl) ?_
      | refine aw_ct rfl ?_
      | refine aw_cf rfl ?_
      | refine aw_block ?_
      | refine then_n ?_
      | refine aw_skip ?_
      | refine aw_exit ?_
      | refine then_x ?_
      | refine then_r ?_
      | refine block_x ?_
      | refine block_n ?_
      | refine block_r ?_
      | refine aw_ret ?_
    refine aw_cond rfl (fun h => ?_) (fun h => ?_)
    · have hlt : i < xs.length := by simpa using h
      obtain ⟨z, hz⟩ : ∃ z, xs[i]? = some z := ⟨_, List.getElem?_eq_getElem hlt⟩
      repeat' first
        | refine aw_seq ?_
        | refine aw_region ?_
        | refine aw_lex [] ?_
        | (refine isA ?_; refine do_F rfl ?_)
        | (refine isL ?_; refine lex_F rfl (by kernel_rfl) rfl rfl ?_)
        | (refine isLg rfl ?_; refine lex_S rfl (by kernel_rfl) rfl rfl ?_)
        | (refine isAi ?_; refine do_R rfl (ia_l (t := intT) (z := z) rfl rfl rfl rfl (Int.natCast_nonneg i) hz) rfl ?_)
        | (refine isLi rfl ?_; refine lex_R rfl (by kernel_rfl) rfl (ia_l (t := intT) (z := z) rfl rfl rfl rfl (Int.natCast_nonneg i) hz) rfl ?_)
        | refine aops_nil ?_
        | refine lex_done _ rfl (by kernel_rfl) ?_
        | refine aw_ct rfl ?_
        | refine aw_cf rfl ?_
        | refine aw_block ?_
        | refine then_n ?_
        | refine aw_skip ?_
        | refine aw_exit ?_
        | refine then_x ?_
        | refine then_r ?_
        | refine block_x ?_
        | refine block_n ?_
        | refine block_r ?_
        | refine aw_ret ?_
      refine aw_cond rfl (fun h => by simp at h) (fun _ => ?_)
      repeat' first
        | refine aw_seq ?_
        | refine aw_region ?_
        | refine aw_lex [] ?_
        | (refine isA ?_; refine do_F rfl ?_)
        | (refine isL ?_; refine lex_F rfl (by kernel_rfl) rfl rfl ?_)
        | (refine isLg rfl ?_; refine lex_S rfl (by kernel_rfl) rfl rfl ?_)
        | refine aops_nil ?_
        | refine lex_done _ rfl (by kernel_rfl) ?_
        | refine aw_ct rfl ?_
        | refine aw_cf rfl ?_
        | refine aw_block ?_
        | refine then_n ?_
        | refine aw_skip ?_
        | refine aw_exit ?_
        | refine then_x ?_
        | refine then_r ?_
        | refine block_x ?_
        | refine block_n ?_
        | refine block_r ?_
        | refine aw_ret ?_
      refine ⟨⟨i + 1, hlt⟩, by simp only; omega, ?_⟩
      exact sub0 [] rfl rfl (by decide) .nil (by repeat' first | exact les_nil | refine les_cons ?_ ?_ | exact le_any | exact le_refl rfl | exact le_sl rfl rfl | exact le_ptr rfl | exact le_i (by assumption) (by omega))
    · repeat' first
        | refine aw_seq ?_
        | refine aw_region ?_
        | refine aw_lex [] ?_
        | (refine isA ?_; refine do_F rfl ?_)
        | (refine isL ?_; refine lex_F rfl (by kernel_rfl) rfl rfl ?_)
        | (refine isLg rfl ?_; refine lex_S rfl (by kernel_rfl) rfl rfl ?_)
        | exact fin1 rfl rfl rfl
        | refine aops_nil ?_
        | refine lex_done _ rfl (by kernel_rfl) ?_
        | refine aw_ct rfl ?_
        | refine aw_cf rfl ?_
        | refine aw_block ?_
        | refine then_n ?_
        | refine aw_skip ?_
        | refine aw_exit ?_
        | refine then_x ?_
        | refine then_r ?_
        | refine block_x ?_
        | refine block_n ?_
        | refine block_r ?_
        | refine aw_ret ?_

theorem sum_take {l : List Int} (h : ∀ x ∈ l, 0 ≤ x) (i : Nat) : 0 ≤ (l.take i).sum ∧ (l.take i).sum ≤ l.sum := by
  have e : l.sum = (l.take i).sum + (l.drop i).sum := by
    have := congrArg List.sum (List.take_append_drop i l)
    rw [List.sum_append] at this
    exact this.symm
  have h1 := sum_nn (l.take i) fun x hx => h x (List.mem_of_mem_take hx)
  have h2 := sum_nn (l.drop i) fun x hx => h x (List.mem_of_mem_drop hx)
  omega
theorem take_one {l : List Int} {i : Nat} {g : Int} (h : l[i]? = some g) : (l.take (i + 1)).sum = (l.take i).sum + g := by
  rw [List.take_add_one, h, List.sum_append]
  simp
theorem cg_bad {b : Br} (h : validB b = false) : cg b = [] := by rw [cg, h]; rfl
theorem gf_at {b : Br} (V : VB b) {i : Nat} {g : Int} {z : Cl} (hg : (cg b)[i]? = some g) (hz : b.act[i]? = some z) : gf b z.a = (g, true) := by
  have e := idx_of V.act.2 hz
  obtain ⟨g', q1, q2, q3⟩ := gf_yes (b := b) (id := z.a) ((valid_iff b).2 V) (by rw [e]; omega)
  rw [e] at q1
  simp only [Int.toNat_natCast] at q1
  rw [hg] at q1
  cases q1
  exact q3

theorem law_GrantAllocation (xs : List Int) (hl0 : xs.length ≤ 9223372036854775807) : Meets Go.Proofs.Try.prog 10 [lstOf u8T xs] [] (B true) [] false := by
  refine meets_of [2] Go.Proofs.Try.func10 rfl rfl ?_
  simp only [Go.Proofs.Try.ntmps10, List.length_cons, List.length_nil, Nat.reduceAdd, Nat.reduceSub, List.replicate_succ, List.replicate_zero, List.cons_append, List.nil_append]
  repeat' first
    | refine aw_seq ?_
    | refine aw_region ?_
    | refine aw_lex [] ?_
    | (refine isA ?_; refine do_F rfl ?_)
    | (refine isL ?_; refine lex_F rfl (by kernel_rfl) rfl rfl ?_)
    | (refine isLg rfl ?_; refine lex_S rfl (by kernel_rfl) rfl rfl ?_)
    | (refine isAc 37 ?_; refine do_R rfl (st_call rfl (c_big xs) (.cons (.same rfl) .nil) rfl) rfl ?_)
    | (refine isLc 37 rfl ?_; refine lex_R rfl (by kernel_rfl) rfl (st_call rfl (c_big xs) (.cons (.same rfl) .nil) rfl) rfl ?_)
    | refine aops_nil ?_
    | refine lex_done _ rfl (by kernel_rfl) ?_
    | refine aw_ct rfl ?_
    | refine aw_cf rfl ?_
    | refine aw_block ?_
    | refine then_n ?_
    | refine aw_skip ?_
    | refine aw_exit ?_
    | refine then_x ?_
    | refine then_r ?_
    | refine block_x ?_
    | refine block_n ?_
    | refine block_r ?_
    | refine aw_ret ?_
  refine aw_cond rfl (fun h => ?_) (fun h => ?_)
  · repeat' first
      | refine aw_seq ?_
      | refine aw_region ?_
      | refine aw_lex [] ?_
      | (refine isA ?_; refine do_F rfl ?_)
      | (refine isL ?_; refine lex_F rfl (by kernel_rfl) rfl rfl ?_)
      | (refine isLg rfl ?_; refine lex_S rfl (by kernel_rfl) rfl rfl ?_)
      | exact fin1 rfl rfl rfl
      | refine aops_nil ?_
      | refine lex_done _ rfl (by kernel_rfl) ?_
      | refine aw_ct rfl ?_
      | refine aw_cf rfl ?_
      | refine aw_block ?_
      | refine then_n ?_
      | refine aw_skip ?_
      | refine aw_exit ?_
      | refine then_x ?_
      | refine then_r ?_
      | refine block_x ?_
      | refine block_n ?_
      | refine block_r ?_
      | refine aw_ret ?_
  have hl : xs.length ≤ 1000000000 := by have := of_decide_eq_false h; omega
  obtain ⟨la, lw⟩ := br0_len xs
  have d1 := c_drawCG xs hl
  generalize br0 xs = b at d1 la lw
  have h1 : b.act.length ≤ 1000000000 := by omega
  have h2 : b.wait.length ≤ 1000000000 := by omega
  have hcl : (cg b).length ≤ 10 := by
    cases hv : validB b with
    | true => rw [cg_len hv]; exact la
    | false => rw [cg_bad hv]; exact Nat.zero_le _
  repeat' first
    | (refine isL ?_; refine lex_R rfl (by kernel_rfl) rfl (neqB_same rfl rfl rfl (by kernel_rfl)) rfl ?_)
    | refine aw_seq ?_
    | refine aw_region ?_
    | refine aw_lex [] ?_
    | (refine isA ?_; refine do_F rfl ?_)
    | (refine isL ?_; refine lex_F rfl (by kernel_rfl) rfl rfl ?_)
    | (refine isLg rfl ?_; refine lex_S rfl (by kernel_rfl) rfl rfl ?_)
    | (refine isAc 38 ?_; refine do_R rfl (st_call rfl d1 (.cons (.same rfl) .nil) rfl) rfl ?_)
    | (refine isLc 38 rfl ?_; refine lex_R rfl (by kernel_rfl) rfl (st_call rfl d1 (.cons (.same rfl) .nil) rfl) rfl ?_)
    | (refine isAc 31 ?_; refine do_R rfl (st_call rfl (c_icg b h1 h2) (.cons (.same rfl) .nil) rfl) rfl ?_)
    | (refine isLc 31 rfl ?_; refine lex_R rfl (by kernel_rfl) rfl (st_call rfl (c_icg b h1 h2) (.cons (.same rfl) .nil) rfl) rfl ?_)
    | (refine isAc 30 ?_; refine do_R rfl (st_call rfl (c_scg b h1 h2) (.cons (.same rfl) .nil) rfl) rfl ?_)
    | (refine isLc 30 rfl ?_; refine lex_R rfl (by kernel_rfl) rfl (st_call rfl (c_scg b h1 h2) (.cons (.same rfl) .nil) rfl) rfl ?_)
    | (refine isAc 39 ?_; refine do_R rfl (st_call rfl (c_sameInts (cg b) (by omega)) (.cons (.same rfl) (.cons (.same rfl) .nil)) rfl) rfl ?_)
    | (refine isLc 39 rfl ?_; refine lex_R rfl (by kernel_rfl) rfl (st_call rfl (c_sameInts (cg b) (by omega)) (.cons (.same rfl) (.cons (.same rfl) .nil)) rfl) rfl ?_)
    | (refine isAc 25 ?_; refine do_R rfl (st_call rfl (c_ivalid b h1 h2) (.cons (.same rfl) .nil) rfl) rfl ?_)
    | (refine isLc 25 rfl ?_; refine lex_R rfl (by kernel_rfl) rfl (st_call rfl (c_ivalid b h1 h2) (.cons (.same rfl) .nil) rfl) rfl ?_)
    | (refine isAc 24 ?_; refine do_R rfl (st_call rfl (c_svalid b h1 h2) (.cons (.same rfl) .nil) rfl) rfl ?_)
    | (refine isLc 24 rfl ?_; refine lex_R rfl (by kernel_rfl) rfl (st_call rfl (c_svalid b h1 h2) (.cons (.same rfl) .nil) rfl) rfl ?_)
    | refine aops_nil ?_
    | refine lex_done _ rfl (by kernel_rfl) ?_
    | refine aw_ct rfl ?_
    | refine aw_cf rfl ?_
    | refine aw_block ?_
    | refine then_n ?_
    | refine aw_skip ?_
    | refine aw_exit ?_
    | refine then_x ?_
    | refine then_r ?_
    | refine block_x ?_
    | refine block_n ?_
    | refine block_r ?_
    | refine aw_ret ?_
  refine aw_cond rfl (fun hv => ?_) (fun hv => ?_)
  · have hv : validB b = false := by simpa using hv
    rw [cg_bad hv]
    repeat' first
      | refine aw_seq ?_
      | refine aw_region ?_
      | refine aw_lex [] ?_
      | (refine isA ?_; refine do_F rfl ?_)
      | (refine isL ?_; refine lex_F rfl (by kernel_rfl) rfl rfl ?_)
      | (refine isLg rfl ?_; refine lex_S rfl (by kernel_rfl) rfl rfl ?_)
      | exact fin1 rfl rfl rfl
      | refine aops_nil ?_
      | refine lex_done _ rfl (by kernel_rfl) ?_
      | refine aw_ct rfl ?_
      | refine aw_cf rfl ?_
      | refine aw_block ?_
      | refine then_n ?_
      | refine aw_skip ?_
      | refine aw_exit ?_
      | refine then_x ?_
      | refine then_r ?_
      | refine block_x ?_
      | refine block_n ?_
      | refine block_r ?_
      | refine aw_ret ?_
  have hv : validB b = true := by simpa using hv
  have V := (valid_iff b).1 hv
  obtain ⟨o1, o2, o3, o4⟩ := grants_ok V
  have hall : ∀ x ∈ cg b, 0 ≤ x := fun x hx => by
    obtain ⟨i, hi⟩ := List.getElem?_of_mem hx
    have hlt := (List.getElem?_eq_some_iff.1 hi).1
    have := (o3 i x _ hi (List.getElem?_eq_getElem (by omega))).1
    omega
  repeat' first
    | refine aw_seq ?_
    | refine aw_region ?_
    | refine aw_lex [] ?_
    | (refine isA ?_; refine do_F rfl ?_)
    | (refine isL ?_; refine lex_F rfl (by kernel_rfl) rfl rfl ?_)
    | (refine isLg rfl ?_; refine lex_S rfl (by kernel_rfl) rfl rfl ?_)
    | refine aops_nil ?_
    | refine lex_done _ rfl (by kernel_rfl) ?_
    | refine aw_ct rfl ?_
    | refine aw_cf rfl ?_
    | refine aw_block ?_
    | refine then_n ?_
    | refine aw_skip ?_
    | refine aw_exit ?_
    | refine then_x ?_
    | refine then_r ?_
    | refine block_x ?_
    | refine block_n ?_
    | refine block_r ?_
    | refine aw_ret ?_
  refine aw_loop (α := { i : Nat // i ≤ (cg b).length }) (fun i => ⟨(.any :: .any :: .any :: (.ptr 0 0) :: (lstOf intT (cg b)) :: (I ((cg b).take i.1).sum) :: (I i.1) :: .any :: .any :: .any :: .any :: .any :: .any :: .any :: .any :: .any :: .any :: .any :: .any :: .any :: .any :: .any :: .any :: .any :: .any :: .any :: .any :: .any :: .any :: .any :: .any :: .any :: .any :: .any :: .any :: .any :: .any :: .any :: .any :: .any :: .any :: .any :: .any :: .any :: .any :: .any :: .any :: .any :: .any :: .any :: .any :: .any :: .any :: .any :: .any :: .any :: .any :: .any :: .any :: .any :: .any :: .any :: .any :: .any :: .any :: .any :: .any :: .any :: .any :: .any :: .any :: .any :: .any :: .any :: .any :: .any :: .any :: .any :: .any :: .any :: .any :: .any :: .any :: .any :: .any :: .any :: .any :: .any :: .any :: .any :: .any :: .any :: .any :: .any :: .any :: .any :: .any :: .any :: .any :: .any :: .any :: .any :: .any :: .any :: .any :: .any :: .any :: .any :: .any :: .any :: .any :: .any :: .any :: .any :: .any :: .any :: .any :: .any :: .any :: .any :: .any :: .any :: .any :: .any :: .any :: .any :: .any :: .any :: .any :: .any :: .any :: .any :: .any :: .any :: .any :: .any :: .any :: .any :: []), [⟨24, 4, brE b, 0⟩], 0⟩) (fun i => (cg b).length - i.1) ⟨0, Nat.zero_le _⟩ ?_ ?_
  · exact sub0 [0] rfl rfl (by decide) (by repeat' first | exact HLes.nil | refine HLes.cons rfl rfl rfl rfl ?_ ?_ | exact les_nil | refine les_cons ?_ ?_ | exact le_any | exact le_refl rfl | exact le_sl rfl rfl | exact le_ptr rfl) (by repeat' first | exact les_nil | refine les_cons ?_ ?_ | exact le_any | exact le_refl rfl | exact le_sl rfl rfl | exact le_ptr rfl)
  · rintro ⟨i, hi⟩
    repeat' first
      | refine aw_seq ?_
      | refine aw_region ?_
      | refine aw_lex [] ?_
      | (refine isA ?_; refine do_F rfl ?_)
      | (refine isL ?_; refine lex_F rfl (by kernel_rfl) rfl rfl ?_)
      | (refine isLg rfl ?_; refine lex_S rfl (by kernel_rfl) rfl rfl ?_)
      | refine aops_nil ?_
      | refine lex_done _ rfl (by kernel_rfl) ?_
      | refine aw_ct rfl ?_
      | refine aw_cf rfl ?_
      | refine aw_block ?_
      | refine then_n ?_
      | refine aw_skip ?_
      | refine aw_exit ?_
      | refine then_x ?_
      | refine then_r ?_
      | refine block_x ?_
      | refine block_n ?_
      | refine block_r ?_
      | refine aw_ret ?_
    refine aw_cond rfl (fun h => ?_) (fun h => ?_)
    · have hlt : i < (cg b).length := by simpa using h
      obtain ⟨g, hg⟩ : ∃ g, (cg b)[i]? = some g := ⟨_, List.getElem?_eq_getElem hlt⟩
      obtain ⟨y, hy⟩ : ∃ y, b.act[i]? = some y := ⟨_, List.getElem?_eq_getElem (by omega)⟩
      obtain ⟨g1, g2⟩ := o3 i g y hg hy
      have d2 := c_igf b y.a h1 h2
      rw [gf_at V hg hy] at d2
      repeat' first
        | (refine isL ?_; refine lex_R rfl (by kernel_rfl) rfl (neqI_same rfl rfl rfl) rfl ?_)
        | refine aw_seq ?_
        | refine aw_region ?_
        | refine aw_lex [] ?_
        | (refine isA ?_; refine do_F rfl ?_)
        | (refine isL ?_; refine lex_F rfl (by kernel_rfl) rfl rfl ?_)
        | (refine isLg rfl ?_; refine lex_S rfl (by kernel_rfl) rfl rfl ?_)
        | (refine isAi (x := .tmp 61) ?_; refine do_R rfl (ia_l (t := intT) (z := g) rfl rfl rfl rfl (Int.natCast_nonneg i) hg) rfl ?_)
        | (refine isLi (x := .tmp 61) rfl ?_; refine lex_R rfl (by kernel_rfl) rfl (ia_l (t := intT) (z := g) rfl rfl rfl rfl (Int.natCast_nonneg i) hg) rfl ?_)
        | (refine isAi (x := .tmp 68) ?_; refine do_R rfl (ia_l (t := intT) (z := g) rfl rfl rfl rfl (Int.natCast_nonneg i) hg) rfl ?_)
        | (refine isLi (x := .tmp 68) rfl ?_; refine lex_R rfl (by kernel_rfl) rfl (ia_l (t := intT) (z := g) rfl rfl rfl rfl (Int.natCast_nonneg i) hg) rfl ?_)
        | (refine isAi (x := .tmp 75) ?_; refine do_R rfl (ia_l (t := intT) (z := g) rfl rfl rfl rfl (Int.natCast_nonneg i) hg) rfl ?_)
        | (refine isLi (x := .tmp 75) rfl ?_; refine lex_R rfl (by kernel_rfl) rfl (ia_l (t := intT) (z := g) rfl rfl rfl rfl (Int.natCast_nonneg i) hg) rfl ?_)
        | (refine isAi (x := .tmp 80) ?_; refine do_R rfl (ia_l (t := clT) (z := y) rfl rfl rfl rfl (Int.natCast_nonneg i) hy) rfl ?_)
        | (refine isLi (x := .tmp 80) rfl ?_; refine lex_R rfl (by kernel_rfl) rfl (ia_l (t := clT) (z := y) rfl rfl rfl rfl (Int.natCast_nonneg i) hy) rfl ?_)
        | (refine isAi (x := .tmp 41) ?_; refine do_R rfl (ia_l (t := intT) (z := g) rfl rfl rfl rfl (Int.natCast_nonneg i) hg) rfl ?_)
        | (refine isLi (x := .tmp 41) rfl ?_; refine lex_R rfl (by kernel_rfl) rfl (ia_l (t := intT) (z := g) rfl rfl rfl rfl (Int.natCast_nonneg i) hg) rfl ?_)
        | (refine isAi (x := .tmp 49) ?_; refine do_R rfl (ia_l (t := clT) (z := y) rfl rfl rfl rfl (Int.natCast_nonneg i) hy) rfl ?_)
        | (refine isLi (x := .tmp 49) rfl ?_; refine lex_R rfl (by kernel_rfl) rfl (ia_l (t := clT) (z := y) rfl rfl rfl rfl (Int.natCast_nonneg i) hy) rfl ?_)
        | (refine isAc 27 ?_; refine do_R rfl (st_call rfl d2 (.cons (.same rfl) (.cons (.same rfl) .nil)) rfl) rfl ?_)
        | (refine isLc 27 rfl ?_; refine lex_R rfl (by kernel_rfl) rfl (st_call rfl d2 (.cons (.same rfl) (.cons (.same rfl) .nil)) rfl) rfl ?_)
        | refine aops_nil ?_
        | refine lex_done _ rfl (by kernel_rfl) ?_
        | refine aw_ct rfl ?_
        | refine aw_cf rfl ?_
        | refine aw_block ?_
        | refine then_n ?_
        | refine aw_skip ?_
        | refine aw_exit ?_
        | refine then_x ?_
        | refine then_r ?_
        | refine block_x ?_
        | refine block_n ?_
        | refine block_r ?_
        | refine aw_ret ?_
      refine lex_br rfl rfl rfl rfl (fun k => absurd (of_decide_eq_true k) (by omega)) (fun _ => ?_)
      repeat' first
        | refine aw_seq ?_
        | refine aw_region ?_
        | refine aw_lex [] ?_
        | (refine isA ?_; refine do_F rfl ?_)
        | (refine isL ?_; refine lex_F rfl (by kernel_rfl) rfl rfl ?_)
        | (refine isLg rfl ?_; refine lex_S rfl (by kernel_rfl) rfl rfl ?_)
        | (refine isAi (x := .tmp 75) ?_; refine do_R rfl (ia_l (t := intT) (z := g) rfl rfl rfl rfl (Int.natCast_nonneg i) hg) rfl ?_)
        | (refine isLi (x := .tmp 75) rfl ?_; refine lex_R rfl (by kernel_rfl) rfl (ia_l (t := intT) (z := g) rfl rfl rfl rfl (Int.natCast_nonneg i) hg) rfl ?_)
        | (refine isAi (x := .tmp 80) ?_; refine do_R rfl (ia_l (t := clT) (z := y) rfl rfl rfl rfl (Int.natCast_nonneg i) hy) rfl ?_)
        | (refine isLi (x := .tmp 80) rfl ?_; refine lex_R rfl (by kernel_rfl) rfl (ia_l (t := clT) (z := y) rfl rfl rfl rfl (Int.natCast_nonneg i) hy) rfl ?_)
        | refine aops_nil ?_
        | refine lex_done _ rfl (by kernel_rfl) ?_
        | refine aw_ct rfl ?_
        | refine aw_cf rfl ?_
        | refine aw_block ?_
        | refine then_n ?_
        | refine aw_skip ?_
        | refine aw_exit ?_
        | refine then_x ?_
        | refine then_r ?_
        | refine block_x ?_
        | refine block_n ?_
        | refine block_r ?_
        | refine aw_ret ?_
      refine aw_cond rfl (fun k => absurd (of_decide_eq_true k) (by omega)) (fun _ => ?_)
      repeat' first
        | refine aw_seq ?_
        | refine aw_region ?_
        | refine aw_lex [] ?_
        | (refine isA ?_; refine do_F rfl ?_)
        | (refine isL ?_; refine lex_F rfl (by kernel_rfl) rfl rfl ?_)
        | (refine isLg rfl ?_; refine lex_S rfl (by kernel_rfl) rfl rfl ?_)
        | refine aops_nil ?_
        | refine lex_done _ rfl (by kernel_rfl) ?_
        | refine aw_ct rfl ?_
        | refine aw_cf rfl ?_
        | refine aw_block ?_
        | refine then_n ?_
        | refine aw_skip ?_
        | refine aw_exit ?_
        | refine then_x ?_
        | refine then_r ?_
        | refine block_x ?_
        | refine block_n ?_
        | refine block_r ?_
        | refine aw_ret ?_
      refine aw_loop (α := { k : Nat // k ≤ (cg b).length }) (fun k => ⟨(.any :: .any :: .any :: (.ptr 0 0) :: (lstOf intT (cg b)) :: (I ((cg b).take (i + 1)).sum) :: (I i) :: .any :: .any :: (I k.1) :: .any :: .any :: .any :: .any :: .any :: .any :: .any :: .any :: .any :: .any :: .any :: .any :: .any :: .any :: .any :: .any :: .any :: .any :: .any :: .any :: .any :: .any :: .any :: .any :: .any :: .any :: .any :: .any :: .any :: .any :: .any :: .any :: .any :: .any :: .any :: .any :: .any :: .any :: .any :: .any :: .any :: .any :: .any :: .any :: .any :: .any :: .any :: .any :: .any :: .any :: .any :: .any :: .any :: .any :: .any :: .any :: .any :: .any :: .any :: .any :: .any :: .any :: .any :: .any :: .any :: .any :: .any :: .any :: .any :: .any :: .any :: .any :: .any :: .any :: .any :: .any :: .any :: .any :: .any :: .any :: .any :: .any :: .any :: .any :: .any :: .any :: .any :: .any :: .any :: .any :: .any :: .any :: .any :: .any :: .any :: .any :: .any :: .any :: .any :: .any :: .any :: .any :: .any :: .any :: .any :: .any :: .any :: .any :: .any :: .any :: .any :: .any :: .any :: .any :: .any :: .any :: .any :: .any :: .any :: .any :: .any :: .any :: .any :: .any :: .any :: .any :: .any :: .any :: []), [⟨24, 4, brE b, 0⟩], 0⟩) (fun k => (cg b).length - k.1) ⟨0, Nat.zero_le _⟩ ?_ ?_
      · exact sub0 [0] rfl rfl (by decide) (by repeat' first | exact HLes.nil | refine HLes.cons rfl rfl rfl rfl ?_ ?_ | exact les_nil | refine les_cons ?_ ?_ | exact le_any | exact le_refl rfl | exact le_sl rfl rfl | exact le_ptr rfl) (by
          repeat' first
            | exact les_nil
            | refine les_cons ?_ ?_
            | exact le_any
            | exact le_refl rfl
            | exact le_ptr rfl
            | exact le_k (congrArg _ (show ((cg b).take (i + 1)).sum = IntKind.i64.wrap (((cg b).take i).sum + g) by obtain ⟨q1, q2⟩ := sum_take hall i; obtain ⟨q3, q4⟩ := sum_take hall (i + 1); rw [take_one hg] at q3 q4 ⊢; have := V.p1; rw [IntKind.wrap_i64]; omega)))
      · rintro ⟨k, hk⟩
        repeat' first
          | refine aw_seq ?_
          | refine aw_region ?_
          | refine aw_lex [] ?_
          | (refine isA ?_; refine do_F rfl ?_)
          | (refine isL ?_; refine lex_F rfl (by kernel_rfl) rfl rfl ?_)
          | (refine isLg rfl ?_; refine lex_S rfl (by kernel_rfl) rfl rfl ?_)
          | refine aops_nil ?_
          | refine lex_done _ rfl (by kernel_rfl) ?_
          | refine aw_ct rfl ?_
          | refine aw_cf rfl ?_
          | refine aw_block ?_
          | refine then_n ?_
          | refine aw_skip ?_
          | refine aw_exit ?_
          | refine then_x ?_
          | refine then_r ?_
          | refine block_x ?_
          | refine block_n ?_
          | refine block_r ?_
          | refine aw_ret ?_
        refine aw_cond rfl (fun h => ?_) (fun h => ?_)
        · have hlt2 : k < (cg b).length := by simpa using h
          obtain ⟨u, hu⟩ : ∃ u, (cg b)[k]? = some u := ⟨_, List.getElem?_eq_getElem hlt2⟩
          obtain ⟨z, hz⟩ : ∃ z, b.act[k]? = some z := ⟨_, List.getElem?_eq_getElem (by omega)⟩
          have no := o4 i k g u y z hg hu hy hz
          repeat' first
            | refine aw_seq ?_
            | refine aw_region ?_
            | refine aw_lex [] ?_
            | (refine isA ?_; refine do_F rfl ?_)
            | (refine isL ?_; refine lex_F rfl (by kernel_rfl) rfl rfl ?_)
            | (refine isLg rfl ?_; refine lex_S rfl (by kernel_rfl) rfl rfl ?_)
            | (refine isAi (x := .tmp 94) ?_; refine do_R rfl (ia_l (t := clT) (z := z) rfl rfl rfl rfl (Int.natCast_nonneg k) hz) rfl ?_)
            | (refine isLi (x := .tmp 94) rfl ?_; refine lex_R rfl (by kernel_rfl) rfl (ia_l (t := clT) (z := z) rfl rfl rfl rfl (Int.natCast_nonneg k) hz) rfl ?_)
            | (refine isAi (x := .tmp 100) ?_; refine do_R rfl (ia_l (t := clT) (z := y) rfl rfl rfl rfl (Int.natCast_nonneg i) hy) rfl ?_)
            | (refine isLi (x := .tmp 100) rfl ?_; refine lex_R rfl (by kernel_rfl) rfl (ia_l (t := clT) (z := y) rfl rfl rfl rfl (Int.natCast_nonneg i) hy) rfl ?_)
            | (refine isAi (x := .tmp 107) ?_; refine do_R rfl (ia_l (t := intT) (z := u) rfl rfl rfl rfl (Int.natCast_nonneg k) hu) rfl ?_)
            | (refine isLi (x := .tmp 107) rfl ?_; refine lex_R rfl (by kernel_rfl) rfl (ia_l (t := intT) (z := u) rfl rfl rfl rfl (Int.natCast_nonneg k) hu) rfl ?_)
            | (refine isAi (x := .tmp 114) ?_; refine do_R rfl (ia_l (t := intT) (z := g) rfl rfl rfl rfl (Int.natCast_nonneg i) hg) rfl ?_)
            | (refine isLi (x := .tmp 114) rfl ?_; refine lex_R rfl (by kernel_rfl) rfl (ia_l (t := intT) (z := g) rfl rfl rfl rfl (Int.natCast_nonneg i) hg) rfl ?_)
            | (refine isAi (x := .tmp 119) ?_; refine do_R rfl (ia_l (t := clT) (z := y) rfl rfl rfl rfl (Int.natCast_nonneg i) hy) rfl ?_)
            | (refine isLi (x := .tmp 119) rfl ?_; refine lex_R rfl (by kernel_rfl) rfl (ia_l (t := clT) (z := y) rfl rfl rfl rfl (Int.natCast_nonneg i) hy) rfl ?_)
            | refine aops_nil ?_
            | refine lex_done _ rfl (by kernel_rfl) ?_
            | refine aw_ct rfl ?_
            | refine aw_cf rfl ?_
            | refine aw_block ?_
            | refine then_n ?_
            | refine aw_skip ?_
            | refine aw_exit ?_
            | refine then_x ?_
            | refine then_r ?_
            | refine block_x ?_
            | refine block_n ?_
            | refine block_r ?_
            | refine aw_ret ?_
            | refine aw_cond rfl (fun hbr => ?_) (fun hbr => ?_)
            | (refine isAg ?_; refine do_br rfl rfl (fun hbr => ?_) (fun hbr => ?_) <;> (fail_if_success (with_reducible (have hx : true = true := hbr))) <;> (fail_if_success (with_reducible (have hx : false = false := hbr))))
            | (refine isLg rfl ?_; refine lex_br rfl rfl rfl rfl (fun hbr => ?_) (fun hbr => ?_) <;> (fail_if_success (with_reducible (have hx : true = true := hbr))) <;> (fail_if_success (with_reducible (have hx : false = false := hbr))))
          all_goals first
            | (refine ⟨⟨k + 1, hlt2⟩, by simp only; omega, ?_⟩; exact sub0 [0] rfl rfl (by decide) (by repeat' first | exact HLes.nil | refine HLes.cons rfl rfl rfl rfl ?_ ?_ | exact les_nil | refine les_cons ?_ ?_ | exact le_any | exact le_refl rfl | exact le_sl rfl rfl | exact le_ptr rfl) (by repeat' first | exact les_nil | refine les_cons ?_ ?_ | exact le_any | exact le_refl rfl | exact le_sl rfl rfl | exact le_ptr rfl | exact le_i (by assumption) (by omega)))
            | (exfalso; simp only [decide_eq_true_eq] at *; omega)
        · have hge : k = (cg b).length := by
            have : ¬ ((k : Int) < (cg b).length) := by simpa using h
            omega
          repeat' first
            | refine aw_seq ?_
            | refine aw_region ?_
            | refine aw_lex [] ?_
            | (refine isA ?_; refine do_F rfl ?_)
            | (refine isL ?_; refine lex_F rfl (by kernel_rfl) rfl rfl ?_)
            | (refine isLg rfl ?_; refine lex_S rfl (by kernel_rfl) rfl rfl ?_)
            | refine aops_nil ?_
            | refine lex_done _ rfl (by kernel_rfl) ?_
            | refine aw_ct rfl ?_
            | refine aw_cf rfl ?_
            | refine aw_block ?_
            | refine then_n ?_
            | refine aw_skip ?_
            | refine aw_exit ?_
            | refine then_x ?_
            | refine then_r ?_
            | refine block_x ?_
            | refine block_n ?_
            | refine block_r ?_
            | refine aw_ret ?_
          refine ⟨⟨i + 1, hlt⟩, by simp only; omega, ?_⟩
          exact sub0 [0] rfl rfl (by decide) (by repeat' first | exact HLes.nil | refine HLes.cons rfl rfl rfl rfl ?_ ?_ | exact les_nil | refine les_cons ?_ ?_ | exact le_any | exact le_refl rfl | exact le_sl rfl rfl | exact le_ptr rfl) (by repeat' first | exact les_nil | refine les_cons ?_ ?_ | exact le_any | exact le_refl rfl | exact le_sl rfl rfl | exact le_ptr rfl | exact le_i (by assumption) (by omega))
    · have hge : i = (cg b).length := by
        have : ¬ ((i : Int) < (cg b).length) := by simpa using h
        omega
      subst hge
      repeat' first
        | refine aw_seq ?_
        | refine aw_region ?_
        | refine aw_lex [] ?_
        | (refine isA ?_; refine do_F rfl ?_)
        | (refine isL ?_; refine lex_F rfl (by kernel_rfl) rfl rfl ?_)
        | (refine isLg rfl ?_; refine lex_S rfl (by kernel_rfl) rfl rfl ?_)
        | refine aops_nil ?_
        | refine lex_done _ rfl (by kernel_rfl) ?_
        | refine aw_ct rfl ?_
        | refine aw_cf rfl ?_
        | refine aw_block ?_
        | refine then_n ?_
        | refine aw_skip ?_
        | refine aw_exit ?_
        | refine then_x ?_
        | refine then_r ?_
        | refine block_x ?_
        | refine block_n ?_
        | refine block_r ?_
        | refine aw_ret ?_
      refine do_br rfl rfl (fun _ => ?_) (fun h => absurd (of_decide_eq_false h) (by simp only [List.take_length]; omega))
      repeat' first
        | refine aw_seq ?_
        | refine aw_region ?_
        | refine aw_lex [] ?_
        | (refine isA ?_; refine do_F rfl ?_)
        | (refine isL ?_; refine lex_F rfl (by kernel_rfl) rfl rfl ?_)
        | (refine isLg rfl ?_; refine lex_S rfl (by kernel_rfl) rfl rfl ?_)
        | exact fin1 rfl rfl (by simp [o1])
        | refine aops_nil ?_
        | refine lex_done _ rfl (by kernel_rfl) ?_
        | refine aw_ct rfl ?_
        | refine aw_cf rfl ?_
        | refine aw_block ?_
        | refine then_n ?_
        | refine aw_skip ?_
        | refine aw_exit ?_
        | refine then_x ?_
        | refine then_r ?_
        | refine block_x ?_
        | refine block_n ?_
        | refine block_r ?_
        | refine aw_ret ?_
end Go.Proofs.Ytjlhfemfmkdlhaa.Ab
