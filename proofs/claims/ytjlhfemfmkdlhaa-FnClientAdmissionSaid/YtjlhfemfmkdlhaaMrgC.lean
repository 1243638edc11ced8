/- Texts BrkJ, BrkL, BrkM, BrkN, BrkP, BrkR, BrkS in one. -/
import Derived.Test.YtjlhfemfmkdlhaaMrgB
import Derived.Test.YtjlhfemfmkdlhaaAbV
set_option linter.unusedVariables false
set_option linter.unusedSimpArgs false
set_option maxRecDepth 20000
set_option maxHeartbeats 4000000
/- BrkJ -/
namespace Go.Proofs.Ytjlhfemfmkdlhaa.Ab
open Go.RowKit

def mkCl (k : Int) (j : Nat) : Cl := ⟨kk k (3 * j), kk k (3 * j + 1), kk k (3 * j + 2)⟩
def mkC (k : Int) (xs : List Cl) (i : Nat) : List Cl := (List.range i).map (mkCl k) ++ xs.drop i
theorem mkC_len (k : Int) {xs : List Cl} {i : Nat} (h : i ≤ xs.length) : (mkC k xs i).length = xs.length := by simp [mkC]; omega

theorem c_markClientS (xs : List Cl) (k : Int) (hl : xs.length ≤ 1000000000) : Meets Go.Proofs.Try.prog 68 [.sl 0 0 xs.length, I k] [regOf clT 53 xs] (I (kk k (3 * xs.length))) [regOf clT 53 (mkC k xs xs.length)] true := by
  refine meets_of [4] Go.Proofs.Try.func68 rfl rfl ?_
  simp only [Go.Proofs.Try.ntmps68, List.length_cons, List.length_nil, Nat.reduceAdd, Nat.reduceSub, List.replicate_succ, List.replicate_zero, List.cons_append, List.nil_append]
  repeat' first
    | refine aw_seq ?_
    | refine aw_region ?_
    | refine aw_lex [] ?_
    | (refine isA ?_; refine do_F rfl ?_)
    | (refine isL ?_; refine lex_F rfl (by kernel_rfl) rfl rfl ?_)
    | (refine isLg rfl ?_; refine lex_S rfl (by kernel_rfl) rfl rfl ?_)
    | refine aops_nil ?_
    | refine lex_done _ rfl (by kernel_rfl) ?_
    | refine aw_ct rfl ?_
    | refine aw_cf rfl ?_
    | refine aw_block ?_
    | refine then_n ?_
    | refine aw_skip ?_
    | refine aw_exit ?_
    | refine then_x ?_
    | refine then_r ?_
    | refine block_x ?_
    | refine block_n ?_
    | refine block_r ?_
    | refine aw_ret ?_
  refine aw_loop (α := { i : Nat // i ≤ xs.length }) (fun i => ⟨[.sl 0 0 xs.length, I (kk k (3 * i.1)), .any, .any, .any, I i.1, .any, .any, .any, .any, .any, .any, .any, .any, .any, .any, .any, .any, .any, .any, .any, .any, .any, .any, .any, .any, .any, .any, .any, .any, .any, .any, .any, .any], [regOf clT 53 (mkC k xs i.1)], 1⟩) (fun i => xs.length - i.1) ⟨0, Nat.zero_le _⟩ ?_ ?_
  · exact subm 1 [0] rfl rfl fix1 (by decide) (.cons rfl rfl rfl rfl (les_refl (flat_noH _ _)) .nil) (by repeat' first | exact les_nil | refine les_cons ?_ ?_ | exact le_any | exact le_refl rfl | exact le_sl rfl rfl | exact le_ptr rfl)
  · rintro ⟨i, hi⟩
    have hgl := mkC_len k hi
    repeat' first
      | refine aw_seq ?_
      | refine aw_region ?_
      | refine aw_lex [] ?_
      | (refine isA ?_; refine do_F rfl ?_)
      | (refine isL ?_; refine lex_F rfl (by kernel_rfl) rfl rfl ?_)
      | (refine isLg rfl ?_; refine lex_S rfl (by kernel_rfl) rfl rfl ?_)
      | refine aops_nil ?_
      | refine lex_done _ rfl (by kernel_rfl) ?_
      | refine aw_ct rfl ?_
      | refine aw_cf rfl ?_
      | refine aw_block ?_
      | refine then_n ?_
      | refine aw_skip ?_
      | refine aw_exit ?_
      | refine then_x ?_
      | refine then_r ?_
      | refine block_x ?_
      | refine block_n ?_
      | refine block_r ?_
      | refine aw_ret ?_
    refine aw_cond rfl (fun h => ?_) (fun h => ?_)
    · have hlt : i < xs.length := by simpa using h
      obtain ⟨z, hz⟩ : ∃ z, (mkC k xs i)[0 + i]? = some z := ⟨_, List.getElem?_eq_getElem (by rw [hgl]; omega)⟩
      have hlt' : 0 + i < (mkC k xs i).length := by rw [hgl]; omega
      have hz1 : ((mkC k xs i).set (0 + i) ⟨kk k (3 * i), z.b, z.c⟩)[0 + i]? = some ⟨kk k (3 * i), z.b, z.c⟩ := List.getElem?_set_self hlt'
      have hz2 : (((mkC k xs i).set (0 + i) ⟨kk k (3 * i), z.b, z.c⟩).set (0 + i) ⟨kk k (3 * i), kk k (3 * i + 1), z.c⟩)[0 + i]? = some ⟨kk k (3 * i), kk k (3 * i + 1), z.c⟩ := List.getElem?_set_self (by rw [List.length_set]; exact hlt')
      repeat' first
        | refine aw_seq ?_
        | refine aw_region ?_
        | refine aw_lex [] ?_
        | (refine isA ?_; refine do_F rfl ?_)
        | (refine isL ?_; refine lex_F rfl (by kernel_rfl) rfl rfl ?_)
        | (refine isLg rfl ?_; refine lex_S rfl (by kernel_rfl) rfl rfl ?_)
        | (refine isAi ?_; refine do_R rfl (step_ia_sl (j := i) rfl rfl rfl (Nat.zero_le _) rfl rfl (Int.natCast_nonneg i) (by omega)) rfl ?_)
        | (refine isLi rfl ?_; refine lex_R rfl (by kernel_rfl) rfl (step_ia_sl (j := i) rfl rfl rfl (Nat.zero_le _) rfl rfl (Int.natCast_nonneg i) (by omega)) rfl ?_)
        | (refine isAs (x := .tmp 16) ?_; refine do_R rfl (set_f (T := clT) (i := 0 + i) (off := 0) (z := z) (z' := ⟨kk k (3 * i), z.b, z.c⟩) rfl rfl rfl rfl (by decide) rfl hz rfl) rfl ?_)
        | (refine isLs (x := .tmp 16) rfl ?_; refine lex_R rfl (by kernel_rfl) rfl (set_f (T := clT) (i := 0 + i) (off := 0) (z := z) (z' := ⟨kk k (3 * i), z.b, z.c⟩) rfl rfl rfl rfl (by decide) rfl hz rfl) rfl ?_)
        | (refine isAs (x := .tmp 23) ?_; refine do_R rfl (set_f (T := clT) (i := 0 + i) (off := 1) (z := ⟨kk k (3 * i), z.b, z.c⟩) (z' := ⟨kk k (3 * i), kk k (3 * i + 1), z.c⟩) rfl rfl rfl rfl (by decide) rfl hz1 rfl) rfl ?_)
        | (refine isLs (x := .tmp 23) rfl ?_; refine lex_R rfl (by kernel_rfl) rfl (set_f (T := clT) (i := 0 + i) (off := 1) (z := ⟨kk k (3 * i), z.b, z.c⟩) (z' := ⟨kk k (3 * i), kk k (3 * i + 1), z.c⟩) rfl rfl rfl rfl (by decide) rfl hz1 rfl) rfl ?_)
        | (refine isAs (x := .tmp 30) ?_; refine do_R rfl (set_f (T := clT) (i := 0 + i) (off := 2) (z := ⟨kk k (3 * i), kk k (3 * i + 1), z.c⟩) (z' := mkCl k i) rfl rfl rfl rfl (by decide) rfl hz2 rfl) rfl ?_)
        | (refine isLs (x := .tmp 30) rfl ?_; refine lex_R rfl (by kernel_rfl) rfl (set_f (T := clT) (i := 0 + i) (off := 2) (z := ⟨kk k (3 * i), kk k (3 * i + 1), z.c⟩) (z' := mkCl k i) rfl rfl rfl rfl (by decide) rfl hz2 rfl) rfl ?_)
        | refine aops_nil ?_
        | refine lex_done _ rfl (by kernel_rfl) ?_
        | refine aw_ct rfl ?_
        | refine aw_cf rfl ?_
        | refine aw_block ?_
        | refine then_n ?_
        | refine aw_skip ?_
        | refine aw_exit ?_
        | refine then_x ?_
        | refine then_r ?_
        | refine block_x ?_
        | refine block_n ?_
        | refine block_r ?_
        | refine aw_ret ?_
      refine ⟨⟨i + 1, hlt⟩, by simp only; omega, ?_⟩
      exact subm 1 [0] rfl rfl fix1 (by decide) (.cons rfl rfl rfl rfl (les_eq (by rw [Nat.zero_add]; show clT.flat (((List.set _ i _).set i _).set i _) = _; rw [List.set_set, List.set_set]; exact congrArg clT.flat (mk_step (g := mkCl k) hlt)) (flat_noH _ _)) .nil) (by repeat' first | exact les_nil | refine les_cons ?_ ?_ | exact le_any | exact le_refl rfl | exact le_sl rfl rfl | exact le_ptr rfl | exact le_i (by assumption) (by omega))
    · have hge : i = xs.length := by
        have : ¬ ((i : Int) < xs.length) := by simpa using h
        omega
      subst hge
      repeat' first
        | refine aw_seq ?_
        | refine aw_region ?_
        | refine aw_lex [] ?_
        | (refine isA ?_; refine do_F rfl ?_)
        | (refine isL ?_; refine lex_F rfl (by kernel_rfl) rfl rfl ?_)
        | (refine isLg rfl ?_; refine lex_S rfl (by kernel_rfl) rfl rfl ?_)
        | exact finM 1 [0] fix1 (by decide) rfl (le_refl rfl) (.cons rfl rfl rfl rfl (les_refl (flat_noH _ _)) .nil)
        | refine aops_nil ?_
        | refine lex_done _ rfl (by kernel_rfl) ?_
        | refine aw_ct rfl ?_
        | refine aw_cf rfl ?_
        | refine aw_block ?_
        | refine then_n ?_
        | refine aw_skip ?_
        | refine aw_exit ?_
        | refine then_x ?_
        | refine then_r ?_
        | refine block_x ?_
        | refine block_n ?_
        | refine block_r ?_
        | refine aw_ret ?_

def mkA (k : Int) (b : Br) : List Cl := mkC k b.act b.act.length
def mkW (k : Int) (b : Br) : List Cl := mkC (kk k (3 * b.act.length)) b.wait b.wait.length
def mkN (k : Int) (b : Br) : Int := kk (kk k (3 * b.act.length)) (3 * b.wait.length)

theorem c_markBroker (b : Br) (k : Int) (h1 : b.act.length ≤ 1000000000) (h2 : b.wait.length ≤ 1000000000) : Meets Go.Proofs.Try.prog 18 [.agg (brO b), I k] (brK b.act b.wait) (I (mkN k b)) (brK (mkA k b) (mkW k b)) true := by
  refine meets_of [4] Go.Proofs.Try.func18 rfl rfl ?_
  simp only [Go.Proofs.Try.ntmps18, List.length_cons, List.length_nil, Nat.reduceAdd, Nat.reduceSub, List.replicate_succ, List.replicate_zero, List.cons_append, List.nil_append]
  repeat' first
    | refine aw_seq ?_
    | refine aw_region ?_
    | refine aw_lex [] ?_
    | (refine isA ?_; refine do_F rfl ?_)
    | (refine isL ?_; refine lex_F rfl (by kernel_rfl) rfl rfl ?_)
    | (refine isLg rfl ?_; refine lex_S rfl (by kernel_rfl) rfl rfl ?_)
    | (refine isAc 68 ?_; refine do_R rfl (step_callMs (K := []) (Rs' := [_]) [0] (by decide) rfl (c_markClientS _ k h1) (.cons rfl rfl rfl (flat_noH _ _) (flat_noH _ _) .nil) (.cons (.sl rfl) (.cons (.same rfl) .nil)) (fun q hq => by cases hq) rfl) rfl ?_)
    | (refine isAc 68 ?_; refine do_R rfl (step_callMs (K := []) (Rs' := [_]) [1] (by decide) rfl (c_markClientS _ _ h2) (.cons rfl rfl rfl (flat_noH _ _) (flat_noH _ _) .nil) (.cons (.sl rfl) (.cons (.same rfl) .nil)) (fun q hq => by cases hq) rfl) rfl ?_)
    | exact finM 2 [0, 1] fix2 (by decide) rfl (le_refl rfl) (.cons rfl rfl rfl rfl (les_refl (flat_noH _ _)) (.cons rfl rfl rfl rfl (les_refl (flat_noH _ _)) .nil))
    | refine aops_nil ?_
    | refine lex_done _ rfl (by kernel_rfl) ?_
    | refine aw_ct rfl ?_
    | refine aw_cf rfl ?_
    | refine aw_block ?_
    | refine then_n ?_
    | refine aw_skip ?_
    | refine aw_exit ?_
    | refine then_x ?_
    | refine then_r ?_
    | refine block_x ?_
    | refine block_n ?_
    | refine block_r ?_
    | refine aw_ret ?_

theorem mkN_pos (b : Br) (h1 : b.act.length ≤ 1000000000) (h2 : b.wait.length ≤ 1000000000) : decide (mkN 1 b < 0) = false := by
  have e1 : kk 1 (3 * b.act.length) = 1 + (3 * b.act.length : Nat) := kk_val (by omega) (by omega) (by omega)
  have e2 : mkN 1 b = (1 + (3 * b.act.length : Nat)) + (3 * b.wait.length : Nat) := by rw [mkN, e1]; exact kk_val (by omega) (by omega) (by omega)
  rw [e2]
  simp
  omega
theorem kk_pos {n : Nat} (h : n ≤ 1000000000) : decide (kk 1 n < 0) = false := by
  rw [kk_val (by omega) (by omega) (by omega)]
  simp
  omega
theorem mkI_at {k : Int} {xs : List Int} : ∀ (i : Nat) (x : Int), (mkI k xs xs.length)[i]? = some x → x = kk k i := fun i x h => by
  unfold mkI at h
  rw [List.drop_length, List.append_nil, List.getElem?_map] at h
  cases hi : (List.range xs.length)[i]? with
  | none => rw [hi] at h; cases h
  | some j =>
    rw [hi] at h
    have hj : j = i := by
      have := List.getElem?_eq_some_iff.1 hi
      obtain ⟨q, e⟩ := this
      simpa using e.symm
    subst hj
    simpa using h.symm
theorem cg_le (b : Br) (h1 : b.act.length ≤ 1000000000) : (cg b).length ≤ 1000000000 := by
  cases h : validB b with
  | true => rw [cg_len h]; exact h1
  | false => simp [cg, h]

theorem law_ComputeGrants (b : Br) (ha : b.act.length ≤ 9223372036854775807) (hw : b.wait.length ≤ 9223372036854775807) : Meets Go.Proofs.Try.prog 8 [.agg (brE b)] [] (B true) [] false := by
  refine meets_of [2] Go.Proofs.Try.func8 rfl rfl ?_
  simp only [Go.Proofs.Try.ntmps8, List.length_cons, List.length_nil, Nat.reduceAdd, Nat.reduceSub, List.replicate_succ, List.replicate_zero, List.cons_append, List.nil_append]
  repeat' first
    | refine aw_seq ?_
    | refine aw_region ?_
    | refine aw_lex [] ?_
    | (refine isA ?_; refine do_F rfl ?_)
    | (refine isL ?_; refine lex_F rfl (by kernel_rfl) rfl rfl ?_)
    | (refine isLg rfl ?_; refine lex_S rfl (by kernel_rfl) rfl rfl ?_)
    | (refine isAc 20 ?_; refine do_R rfl (st_call rfl (c_szBroker _ _) (.cons (.same rfl) (.cons (.same rfl) .nil)) rfl) rfl ?_)
    | (refine isLc 20 rfl ?_; refine lex_R rfl (by kernel_rfl) rfl (st_call rfl (c_szBroker _ _) (.cons (.same rfl) (.cons (.same rfl) .nil)) rfl) rfl ?_)
    | refine aops_nil ?_
    | refine lex_done _ rfl (by kernel_rfl) ?_
    | refine aw_ct rfl ?_
    | refine aw_cf rfl ?_
    | refine aw_block ?_
    | refine then_n ?_
    | refine aw_skip ?_
    | refine aw_exit ?_
    | refine then_x ?_
    | refine then_r ?_
    | refine block_x ?_
    | refine block_n ?_
    | refine block_r ?_
    | refine aw_ret ?_
  refine aw_cond rfl (fun h => ?_) (fun h => ?_)
  · repeat' first
      | refine aw_seq ?_
      | refine aw_region ?_
      | refine aw_lex [] ?_
      | (refine isA ?_; refine do_F rfl ?_)
      | (refine isL ?_; refine lex_F rfl (by kernel_rfl) rfl rfl ?_)
      | (refine isLg rfl ?_; refine lex_S rfl (by kernel_rfl) rfl rfl ?_)
      | exact fin1 rfl rfl rfl
      | refine aops_nil ?_
      | refine lex_done _ rfl (by kernel_rfl) ?_
      | refine aw_ct rfl ?_
      | refine aw_cf rfl ?_
      | refine aw_block ?_
      | refine then_n ?_
      | refine aw_skip ?_
      | refine aw_exit ?_
      | refine then_x ?_
      | refine then_r ?_
      | refine block_x ?_
      | refine block_n ?_
      | refine block_r ?_
      | refine aw_ret ?_
  · obtain ⟨h1, h2⟩ := sz_len ha hw h
    have g1 : b.act.length ≤ 1000000000 := by omega
    have g2 : b.wait.length ≤ 1000000000 := by omega
    have hcl := cg_le b g1
    have hml := mkI_len 1 (Nat.le_refl (cg b).length)
    have hm := mkN_pos b g1 g2
    have hk := kk_pos (n := (cg b).length) hcl
    repeat' first
      | refine aw_seq ?_
      | refine aw_region ?_
      | refine aw_lex [] ?_
      | (refine isA ?_; refine do_F rfl ?_)
      | (refine isL ?_; refine lex_F rfl (by kernel_rfl) rfl rfl ?_)
      | (refine isLg rfl ?_; refine lex_S rfl (by kernel_rfl) rfl rfl ?_)
      | (refine isAc 22 (x := #[.tmp 16]) ?_; refine do_R rfl (st_call rfl (c_toBroker _ g1 g2) (.cons (.same rfl) .nil) rfl) rfl ?_)
      | (refine isLc 22 (x := #[.tmp 16]) rfl ?_; refine lex_R rfl (by kernel_rfl) rfl (st_call rfl (c_toBroker _ g1 g2) (.cons (.same rfl) .nil) rfl) rfl ?_)
      | (refine isAc 30 ?_; refine do_R rfl (st_call rfl (c_scg _ g1 g2) (.cons (.same rfl) .nil) rfl) rfl ?_)
      | (refine isLc 30 rfl ?_; refine lex_R rfl (by kernel_rfl) rfl (st_call rfl (c_scg _ g1 g2) (.cons (.same rfl) .nil) rfl) rfl ?_)
      | (refine isAc 22 (x := #[.tmp 19]) ?_; refine do_R rfl (st_callK rfl (c_toBrokerO _ g1 g2) (.cons (.same rfl) .nil) (fun q hq => by simp [brK] at hq; rcases hq with rfl | rfl <;> exact flat_noH _ _) rfl rfl) rfl ?_)
      | (refine isLc 22 (x := #[.tmp 19]) rfl ?_; refine lex_R rfl (by kernel_rfl) rfl (st_callK rfl (c_toBrokerO _ g1 g2) (.cons (.same rfl) .nil) (fun q hq => by simp [brK] at hq; rcases hq with rfl | rfl <;> exact flat_noH _ _) rfl rfl) rfl ?_)
      | (refine isAc 31 (x := #[.tmp 21]) ?_; refine do_R rfl (st_callK rfl (c_icgO _ g1 g2) (.cons (.agg (.cons (.same rfl) (.cons (.same rfl) (.cons (pur_l rfl rfl) (.cons (pur_l rfl rfl) .nil))))) .nil) (fun q hq => by simp at hq; subst hq; exact flat_noH _ _) rfl rfl) rfl ?_)
      | (refine isLc 31 (x := #[.tmp 21]) rfl ?_; refine lex_R rfl (by kernel_rfl) rfl (st_callK rfl (c_icgO _ g1 g2) (.cons (.agg (.cons (.same rfl) (.cons (.same rfl) (.cons (pur_l rfl rfl) (.cons (pur_l rfl rfl) .nil))))) .nil) (fun q hq => by simp at hq; subst hq; exact flat_noH _ _) rfl rfl) rfl ?_)
      | (refine isAc 32 ?_; refine do_R rfl (st_call rfl (c_eqIntS _ hcl) (.cons (pur_l rfl rfl) (.cons (.same rfl) .nil)) rfl) rfl ?_)
      | (refine isLc 32 rfl ?_; refine lex_R rfl (by kernel_rfl) rfl (st_call rfl (c_eqIntS _ hcl) (.cons (pur_l rfl rfl) (.cons (.same rfl) .nil)) rfl) rfl ?_)
      | (refine isAc 22 (x := #[.tmp 28]) ?_; refine do_R rfl (st_call rfl (c_toBroker _ g1 g2) (.cons (.same rfl) .nil) rfl) rfl ?_)
      | (refine isLc 22 (x := #[.tmp 28]) rfl ?_; refine lex_R rfl (by kernel_rfl) rfl (st_call rfl (c_toBroker _ g1 g2) (.cons (.same rfl) .nil) rfl) rfl ?_)
      | (refine isAc 17 ?_; refine do_R rfl (st_call rfl (c_eqBroker _ g1 g2) (.cons (.agg (.cons (.same rfl) (.cons (.same rfl) (.cons (pur_l rfl rfl) (.cons (pur_l rfl rfl) .nil))))) (.cons (.same rfl) .nil)) rfl) rfl ?_)
      | (refine isLc 17 rfl ?_; refine lex_R rfl (by kernel_rfl) rfl (st_call rfl (c_eqBroker _ g1 g2) (.cons (.agg (.cons (.same rfl) (.cons (.same rfl) (.cons (pur_l rfl rfl) (.cons (pur_l rfl rfl) .nil))))) (.cons (.same rfl) .nil)) rfl) rfl ?_)
      | (refine isAc 18 ?_; refine do_R rfl (step_callMs (K := []) (Rs' := brK (mkA 1 b) (mkW 1 b)) [1, 2] (by decide) rfl (c_markBroker _ _ g1 g2) (.cons rfl rfl rfl (flat_noH _ _) (flat_noH _ _) (.cons rfl rfl rfl (flat_noH _ _) (flat_noH _ _) .nil)) (.cons (.agg (.cons (.same rfl) (.cons (.same rfl) (.cons (.sl rfl) (.cons (.sl rfl) .nil))))) (.cons (.same rfl) .nil)) (fun q hq => by cases hq) rfl) rfl ?_)
      | (refine isLc 18 rfl ?_; refine lex_R rfl (by kernel_rfl) rfl (step_callMs (K := []) (Rs' := brK (mkA 1 b) (mkW 1 b)) [1, 2] (by decide) rfl (c_markBroker _ _ g1 g2) (.cons rfl rfl rfl (flat_noH _ _) (flat_noH _ _) (.cons rfl rfl rfl (flat_noH _ _) (flat_noH _ _) .nil)) (.cons (.agg (.cons (.same rfl) (.cons (.same rfl) (.cons (.sl rfl) (.cons (.sl rfl) .nil))))) (.cons (.same rfl) .nil)) (fun q hq => by cases hq) rfl) rfl ?_)
      | refine aops_nil ?_
      | refine lex_done _ rfl (by kernel_rfl) ?_
      | refine aw_ct rfl ?_
      | refine aw_cf rfl ?_
      | refine aw_block ?_
      | refine then_n ?_
      | refine aw_skip ?_
      | refine aw_exit ?_
      | refine then_x ?_
      | refine then_r ?_
      | refine block_x ?_
      | refine block_n ?_
      | refine block_r ?_
      | refine aw_ret ?_
    refine do_br rfl rfl (fun h => by rw [hm] at h; cases h) (fun _ => ?_)
    repeat' first
      | refine aw_seq ?_
      | refine aw_region ?_
      | refine aw_lex [] ?_
      | (refine isA ?_; refine do_F rfl ?_)
      | (refine isL ?_; refine lex_F rfl (by kernel_rfl) rfl rfl ?_)
      | (refine isLg rfl ?_; refine lex_S rfl (by kernel_rfl) rfl rfl ?_)
      | (refine isAc 32 ?_; refine do_R rfl (st_call rfl (c_eqIntS _ hcl) (.cons (pur_l rfl rfl) (.cons (.same rfl) .nil)) rfl) rfl ?_)
      | (refine isLc 32 rfl ?_; refine lex_R rfl (by kernel_rfl) rfl (st_call rfl (c_eqIntS _ hcl) (.cons (pur_l rfl rfl) (.cons (.same rfl) .nil)) rfl) rfl ?_)
      | (refine isAc 33 ?_; refine do_R rfl (step_callMs (K := []) (Rs' := [_]) [4] (by decide) rfl (c_markIntS _ 1 hcl) (.cons rfl rfl rfl (flat_noH _ _) (flat_noH _ _) .nil) (.cons (.sl rfl) (.cons (.same rfl) .nil)) (fun q hq => by cases hq) rfl) rfl ?_)
      | (refine isLc 33 rfl ?_; refine lex_R rfl (by kernel_rfl) rfl (step_callMs (K := []) (Rs' := [_]) [4] (by decide) rfl (c_markIntS _ 1 hcl) (.cons rfl rfl rfl (flat_noH _ _) (flat_noH _ _) .nil) (.cons (.sl rfl) (.cons (.same rfl) .nil)) (fun q hq => by cases hq) rfl) rfl ?_)
      | (refine isAc 34 ?_; refine do_R rfl (st_call rfl (c_heldIntS _ 1 (by rw [hml]; exact hcl) mkI_at) (.cons (pur_L rfl rfl rfl hml.symm) (.cons (.same rfl) .nil)) rfl) rfl ?_)
      | (refine isLc 34 rfl ?_; refine lex_R rfl (by kernel_rfl) rfl (st_call rfl (c_heldIntS _ 1 (by rw [hml]; exact hcl) mkI_at) (.cons (pur_L rfl rfl rfl hml.symm) (.cons (.same rfl) .nil)) rfl) rfl ?_)
      | refine aops_nil ?_
      | refine lex_done _ rfl (by kernel_rfl) ?_
      | refine aw_ct rfl ?_
      | refine aw_cf rfl ?_
      | refine aw_block ?_
      | refine then_n ?_
      | refine aw_skip ?_
      | refine aw_exit ?_
      | refine then_x ?_
      | refine then_r ?_
      | refine block_x ?_
      | refine block_n ?_
      | refine block_r ?_
      | refine aw_ret ?_
    rw [hml]
    refine aw_cond rfl (fun h => by rw [hk] at h; cases h) (fun _ => ?_)
    repeat' first
      | refine aw_seq ?_
      | refine aw_region ?_
      | refine aw_lex [] ?_
      | (refine isA ?_; refine do_F rfl ?_)
      | (refine isL ?_; refine lex_F rfl (by kernel_rfl) rfl rfl ?_)
      | (refine isLg rfl ?_; refine lex_S rfl (by kernel_rfl) rfl rfl ?_)
      | refine aops_nil ?_
      | refine lex_done _ rfl (by kernel_rfl) ?_
      | refine aw_ct rfl ?_
      | refine aw_cf rfl ?_
      | refine aw_block ?_
      | refine then_n ?_
      | refine aw_skip ?_
      | refine aw_exit ?_
      | refine then_x ?_
      | refine then_r ?_
      | refine block_x ?_
      | refine block_n ?_
      | refine block_r ?_
      | refine aw_ret ?_
    refine aw_cond rfl (fun h => by simp at h) (fun _ => ?_)
    repeat' first
      | refine aw_seq ?_
      | refine aw_region ?_
      | refine aw_lex [] ?_
      | (refine isA ?_; refine do_F rfl ?_)
      | (refine isL ?_; refine lex_F rfl (by kernel_rfl) rfl rfl ?_)
      | (refine isLg rfl ?_; refine lex_S rfl (by kernel_rfl) rfl rfl ?_)
      | (refine isAc 22 ?_; refine do_R rfl (st_call rfl (c_toBroker _ g1 g2) (.cons (.same rfl) .nil) rfl) rfl ?_)
      | (refine isLc 22 rfl ?_; refine lex_R rfl (by kernel_rfl) rfl (st_call rfl (c_toBroker _ g1 g2) (.cons (.same rfl) .nil) rfl) rfl ?_)
      | (refine isAc 31 ?_; refine do_R rfl (st_call rfl (c_icg _ g1 g2) (.cons (.same rfl) .nil) rfl) rfl ?_)
      | (refine isLc 31 rfl ?_; refine lex_R rfl (by kernel_rfl) rfl (st_call rfl (c_icg _ g1 g2) (.cons (.same rfl) .nil) rfl) rfl ?_)
      | (refine isAc 32 ?_; refine do_R rfl (st_call rfl (c_eqIntS _ hcl) (.cons (.same rfl) (.cons (.same rfl) .nil)) rfl) rfl ?_)
      | (refine isLc 32 rfl ?_; refine lex_R rfl (by kernel_rfl) rfl (st_call rfl (c_eqIntS _ hcl) (.cons (.same rfl) (.cons (.same rfl) .nil)) rfl) rfl ?_)
      | (refine isAc 34 ?_; refine do_R rfl (st_call rfl (c_heldIntS _ 1 (by rw [hml]; exact hcl) mkI_at) (.cons (pur_L rfl rfl rfl hml.symm) (.cons (.same rfl) .nil)) rfl) rfl ?_)
      | (refine isLc 34 rfl ?_; refine lex_R rfl (by kernel_rfl) rfl (st_call rfl (c_heldIntS _ 1 (by rw [hml]; exact hcl) mkI_at) (.cons (pur_L rfl rfl rfl hml.symm) (.cons (.same rfl) .nil)) rfl) rfl ?_)
      | refine aops_nil ?_
      | refine lex_done _ rfl (by kernel_rfl) ?_
      | refine aw_ct rfl ?_
      | refine aw_cf rfl ?_
      | refine aw_block ?_
      | refine then_n ?_
      | refine aw_skip ?_
      | refine aw_exit ?_
      | refine then_x ?_
      | refine then_r ?_
      | refine block_x ?_
      | refine block_n ?_
      | refine block_r ?_
      | refine aw_ret ?_
    rw [hml]
    refine aw_cond rfl (fun h => by rw [hk] at h; cases h) (fun _ => ?_)
    repeat' first
      | refine aw_seq ?_
      | refine aw_region ?_
      | refine aw_lex [] ?_
      | (refine isA ?_; refine do_F rfl ?_)
      | (refine isL ?_; refine lex_F rfl (by kernel_rfl) rfl rfl ?_)
      | (refine isLg rfl ?_; refine lex_S rfl (by kernel_rfl) rfl rfl ?_)
      | refine aops_nil ?_
      | refine lex_done _ rfl (by kernel_rfl) ?_
      | refine aw_ct rfl ?_
      | refine aw_cf rfl ?_
      | refine aw_block ?_
      | refine then_n ?_
      | refine aw_skip ?_
      | refine aw_exit ?_
      | refine then_x ?_
      | refine then_r ?_
      | refine block_x ?_
      | refine block_n ?_
      | refine block_r ?_
      | refine aw_ret ?_
    refine aw_cond rfl (fun h => by simp at h) (fun _ => ?_)
    repeat' first
      | refine aw_seq ?_
      | refine aw_region ?_
      | refine aw_lex [] ?_
      | (refine isA ?_; refine do_F rfl ?_)
      | (refine isL ?_; refine lex_F rfl (by kernel_rfl) rfl rfl ?_)
      | (refine isLg rfl ?_; refine lex_S rfl (by kernel_rfl) rfl rfl ?_)
      | exact fin1 rfl rfl rfl
      | refine aops_nil ?_
      | refine lex_done _ rfl (by kernel_rfl) ?_
      | refine aw_ct rfl ?_
      | refine aw_cf rfl ?_
      | refine aw_block ?_
      | refine then_n ?_
      | refine aw_skip ?_
      | refine aw_exit ?_
      | refine then_x ?_
      | refine then_r ?_
      | refine block_x ?_
      | refine block_n ?_
      | refine block_r ?_
      | refine aw_ret ?_
end Go.Proofs.Ytjlhfemfmkdlhaa.Ab

/- BrkL -/
namespace Go.Proofs.Ytjlhfemfmkdlhaa.Ab
open Go.RowKit

theorem c_clone (b : Br) (h1 : b.act.length ≤ 1000000000) (h2 : b.wait.length ≤ 1000000000) : Meets Go.Proofs.Try.prog 80 [.agg (brE b)] [] (.agg (brO b)) (brK b.act b.wait) true := by
  refine meets_ofC 2 24 Go.Proofs.Try.func80 rfl rfl ?_
  simp only [Go.Proofs.Try.ntmps80, List.length_cons, List.length_nil, Nat.reduceAdd, Nat.reduceSub, List.replicate_succ, List.replicate_zero, List.cons_append, List.nil_append]
  repeat' first
    | refine aw_seq ?_
    | refine aw_region ?_
    | refine aw_lex [] ?_
    | (refine isA ?_; refine do_F rfl ?_)
    | (refine isL ?_; refine lex_F rfl (by kernel_rfl) rfl rfl ?_)
    | (refine isLg rfl ?_; refine lex_S rfl (by kernel_rfl) rfl rfl ?_)
    | (refine isAp ?_; refine do_R rfl (apn_l (T := clT) (xs := b.act) rfl rfl rfl rfl h1 rfl) rfl ?_)
    | (refine isAp ?_; refine do_R rfl (apn_l (T := clT) (xs := b.wait) rfl rfl rfl rfl h2 rfl) rfl ?_)
    | exact finMC [2, 3] (by decide) (cell_is rfl rfl rfl rfl rfl) (le_agg (les_cons (le_refl rfl) (les_cons (le_refl rfl) (les_cons (le_sl rfl rfl) (les_cons (le_sl rfl rfl) les_nil))))) (.cons rfl rfl rfl rfl (les_eq rfl (flat_noH _ _)) (.cons rfl rfl rfl rfl (les_eq rfl (flat_noH _ _)) .nil))
    | refine aops_nil ?_
    | refine lex_done _ rfl (by kernel_rfl) ?_
    | refine aw_ct rfl ?_
    | refine aw_cf rfl ?_
    | refine aw_block ?_
    | refine then_n ?_
    | refine aw_skip ?_
    | refine aw_exit ?_
    | refine then_x ?_
    | refine then_r ?_
    | refine block_x ?_
    | refine block_n ?_
    | refine block_r ?_
    | refine aw_ret ?_

theorem c_copy (b : Br) (h1 : b.act.length ≤ 1000000000) (h2 : b.wait.length ≤ 1000000000) : Meets Go.Proofs.Try.prog 79 [.agg (brE b)] [] (.agg (brO b)) (brK b.act b.wait) true := by
  refine meets_ofC 2 24 Go.Proofs.Try.func79 rfl rfl ?_
  simp only [Go.Proofs.Try.ntmps79, List.length_cons, List.length_nil, Nat.reduceAdd, Nat.reduceSub, List.replicate_succ, List.replicate_zero, List.cons_append, List.nil_append]
  refine aw_seq ?_
  refine aw_region ?_
  refine do_F rfl ?_
  refine do_F rfl ?_
  refine aops_nil ?_
  refine then_n ?_
  refine aw_seq ?_
  refine aw_perG (fun H => H[0]? = some ⟨24, 4, brE b, 0⟩) 14 rfl ?_
  refine perG_P 0 rfl rfl (by kernel_rfl) rfl (fun _ => rfl) rfl ?_
  refine perG_R 1 rfl rfl (by kernel_rfl) rfl (fun H hG => step_load_ptr rfl rfl hG (Nat.zero_le _) rfl) rfl ?_
  refine perG_P 2 rfl rfl (by kernel_rfl) rfl (fun _ => rfl) rfl ?_
  refine perG_R 3 rfl rfl (by kernel_rfl) rfl (fun H hG => step_load_ptr rfl rfl hG (Nat.zero_le _) rfl) rfl ?_
  refine perG_P 5 rfl rfl (by kernel_rfl) rfl (fun _ => rfl) rfl ?_
  refine perG_R 6 rfl rfl (by kernel_rfl) rfl (fun H hG => step_load_ptr rfl rfl hG (Nat.zero_le _) rfl) rfl ?_
  refine perG_P 9 rfl rfl (by kernel_rfl) rfl (fun _ => rfl) rfl ?_
  refine perG_R 10 rfl rfl (by kernel_rfl) rfl (fun H hG => step_load_ptr rfl rfl hG (Nat.zero_le _) rfl) rfl ?_
  refine perG_2 4 8 (by kernel_rfl) ?_ ?_
  · refine br_WF rfl rfl rfl rfl rfl ?_
    refine perG_2 7 8 (by kernel_rfl) ?_ ?_
    · refine br_W rfl rfl (ap_l (t := clT) (xs := []) (ys := b.act) rfl rfl rfl rfl (Src.lst _ _) (by simp; omega) rfl) rfl rfl ?_
      refine perG_1 8 (by kernel_rfl) ?_
      refine br_WF rfl rfl rfl rfl rfl ?_
      refine perG_1 11 (by kernel_rfl) ?_
      refine br_W rfl rfl (ap_l (t := clT) (xs := []) (ys := b.wait) rfl rfl rfl rfl (Src.lst _ _) (by simp; omega) rfl) rfl rfl ?_
      refine perG_P 12 rfl rfl (by kernel_rfl) rfl (fun _ => rfl) rfl ?_
      refine perG_1 13 (by kernel_rfl) ?_
      refine br_WF rfl rfl rfl rfl rfl ?_
      refine perG_done (by kernel_rfl) ?_
      repeat' first
        | refine aw_seq ?_
        | refine aw_region ?_
        | refine aw_lex [] ?_
        | (refine isA ?_; refine do_F rfl ?_)
        | (refine isL ?_; refine lex_F rfl (by kernel_rfl) rfl rfl ?_)
        | (refine isLg rfl ?_; refine lex_S rfl (by kernel_rfl) rfl rfl ?_)
        | exact finMC [3, 5] (by decide) (cell_is rfl rfl rfl rfl rfl) (le_agg (les_cons (le_refl rfl) (les_cons (le_refl rfl) (les_cons (le_sl rfl (by simp)) (les_cons (le_sl rfl (by simp)) les_nil))))) (.cons rfl rfl rfl rfl (les_eq rfl (flat_noH _ _)) (.cons rfl rfl rfl rfl (les_eq rfl (flat_noH _ _)) .nil))
        | refine aops_nil ?_
        | refine lex_done _ rfl (by kernel_rfl) ?_
        | refine aw_ct rfl ?_
        | refine aw_cf rfl ?_
        | refine aw_block ?_
        | refine then_n ?_
        | refine aw_skip ?_
        | refine aw_exit ?_
        | refine then_x ?_
        | refine then_r ?_
        | refine block_x ?_
        | refine block_n ?_
        | refine block_r ?_
        | refine aw_ret ?_
    · refine br_WF rfl rfl rfl rfl rfl ?_
      refine perG_1 7 (by kernel_rfl) ?_
      refine br_W rfl rfl (ap_l (t := clT) (xs := []) (ys := b.act) rfl rfl rfl rfl (Src.lst _ _) (by simp; omega) rfl) rfl rfl ?_
      refine perG_1 11 (by kernel_rfl) ?_
      refine br_W rfl rfl (ap_l (t := clT) (xs := []) (ys := b.wait) rfl rfl rfl rfl (Src.lst _ _) (by simp; omega) rfl) rfl rfl ?_
      refine perG_P 12 rfl rfl (by kernel_rfl) rfl (fun _ => rfl) rfl ?_
      refine perG_1 13 (by kernel_rfl) ?_
      refine br_WF rfl rfl rfl rfl rfl ?_
      refine perG_done (by kernel_rfl) ?_
      repeat' first
        | refine aw_seq ?_
        | refine aw_region ?_
        | refine aw_lex [] ?_
        | (refine isA ?_; refine do_F rfl ?_)
        | (refine isL ?_; refine lex_F rfl (by kernel_rfl) rfl rfl ?_)
        | (refine isLg rfl ?_; refine lex_S rfl (by kernel_rfl) rfl rfl ?_)
        | exact finMC [4, 5] (by decide) (cell_is rfl rfl rfl rfl rfl) (le_agg (les_cons (le_refl rfl) (les_cons (le_refl rfl) (les_cons (le_sl rfl (by simp)) (les_cons (le_sl rfl (by simp)) les_nil))))) (.cons rfl rfl rfl rfl (les_eq rfl (flat_noH _ _)) (.cons rfl rfl rfl rfl (les_eq rfl (flat_noH _ _)) .nil))
        | refine aops_nil ?_
        | refine lex_done _ rfl (by kernel_rfl) ?_
        | refine aw_ct rfl ?_
        | refine aw_cf rfl ?_
        | refine aw_block ?_
        | refine then_n ?_
        | refine aw_skip ?_
        | refine aw_exit ?_
        | refine then_x ?_
        | refine then_r ?_
        | refine block_x ?_
        | refine block_n ?_
        | refine block_r ?_
        | refine aw_ret ?_
  · refine br_WF rfl rfl rfl rfl rfl ?_
    refine perG_1 4 (by kernel_rfl) ?_
    refine br_WF rfl rfl rfl rfl rfl ?_
    refine perG_1 7 (by kernel_rfl) ?_
    refine br_W rfl rfl (ap_l (t := clT) (xs := []) (ys := b.act) rfl rfl rfl rfl (Src.lst _ _) (by simp; omega) rfl) rfl rfl ?_
    refine perG_1 11 (by kernel_rfl) ?_
    refine br_W rfl rfl (ap_l (t := clT) (xs := []) (ys := b.wait) rfl rfl rfl rfl (Src.lst _ _) (by simp; omega) rfl) rfl rfl ?_
    refine perG_P 12 rfl rfl (by kernel_rfl) rfl (fun _ => rfl) rfl ?_
    refine perG_1 13 (by kernel_rfl) ?_
    refine br_WF rfl rfl rfl rfl rfl ?_
    refine perG_done (by kernel_rfl) ?_
    repeat' first
      | refine aw_seq ?_
      | refine aw_region ?_
      | refine aw_lex [] ?_
      | (refine isA ?_; refine do_F rfl ?_)
      | (refine isL ?_; refine lex_F rfl (by kernel_rfl) rfl rfl ?_)
      | (refine isLg rfl ?_; refine lex_S rfl (by kernel_rfl) rfl rfl ?_)
      | exact finMC [4, 5] (by decide) (cell_is rfl rfl rfl rfl rfl) (le_agg (les_cons (le_refl rfl) (les_cons (le_refl rfl) (les_cons (le_sl rfl (by simp)) (les_cons (le_sl rfl (by simp)) les_nil))))) (.cons rfl rfl rfl rfl (les_eq rfl (flat_noH _ _)) (.cons rfl rfl rfl rfl (les_eq rfl (flat_noH _ _)) .nil))
      | refine aops_nil ?_
      | refine lex_done _ rfl (by kernel_rfl) ?_
      | refine aw_ct rfl ?_
      | refine aw_cf rfl ?_
      | refine aw_block ?_
      | refine then_n ?_
      | refine aw_skip ?_
      | refine aw_exit ?_
      | refine then_x ?_
      | refine then_r ?_
      | refine block_x ?_
      | refine block_n ?_
      | refine block_r ?_
      | refine aw_ret ?_
end Go.Proofs.Ytjlhfemfmkdlhaa.Ab

/- BrkM -/
namespace Go.Proofs.Ytjlhfemfmkdlhaa.Ab
open Go.RowKit

theorem flat_cl (xs : List Cl) : FlatL (clT.flat xs) := fun c hc => by
  simp only [Ty.flat, List.mem_flatMap] at hc
  obtain ⟨x, _, hx⟩ := hc
  simp only [clT, clE, List.mem_cons, List.not_mem_nil, or_false] at hx
  rcases hx with rfl | rfl | rfl <;> exact ⟨_, rfl⟩
theorem brK_flat (a w : List Cl) : ∀ q ∈ brK a w, q.mode ≠ 1 ∧ (q.mode = 0 → FlatL q.cells) := fun q hq => by
  simp only [brK, List.mem_cons, List.not_mem_nil, or_false] at hq
  rcases hq with rfl | rfl
  · exact ⟨by simp, fun _ => flat_cl _⟩
  · exact ⟨by simp, fun _ => flat_cl _⟩
theorem brK_noH (a w : List Cl) : ∀ q ∈ brK a w, NoH q.cells := fun q hq => by
  simp only [brK, List.mem_cons, List.not_mem_nil, or_false] at hq
  rcases hq with rfl | rfl <;> exact flat_noH _ _

def setB (xs : List Cl) (i : Nat) (n : Int) : List Cl := match xs[i]? with
  | some z => xs.set i ⟨z.a, n, z.c⟩
  | none => xs
theorem setB_at {xs : List Cl} {i : Nat} {n : Int} {z : Cl} (h : xs[i]? = some z) : setB xs i n = xs.set i ⟨z.a, n, z.c⟩ := by rw [setB, h]
theorem setB_len {xs : List Cl} {i : Nat} {n : Int} : (setB xs i n).length = xs.length := by
  unfold setB
  split <;> simp

def srV (b : Br) (id n : Int) : Br × Bool := cond (validB b && inV n 8 60) (cond (decide (0 ≤ idxC b.act id)) (⟨b.pool, b.next, setB b.act (idxC b.act id).toNat n, b.wait⟩, true) (cond (decide (0 ≤ idxC b.wait id)) (⟨b.pool, b.next, b.act, setB b.wait (idxC b.wait id).toNat n⟩, true) (b, false))) (b, false)
theorem srV_len (b : Br) (id n : Int) : (srV b id n).1.act.length = b.act.length ∧ (srV b id n).1.wait.length = b.wait.length := by
  unfold srV
  cases validB b && inV n 8 60 <;> cases decide (0 ≤ idxC b.act id) <;> cases decide (0 ≤ idxC b.wait id) <;> simp [setB_len]
theorem sr_no {b : Br} {id n : Int} (h : (validB b && inV n 8 60) = false) : srV b id n = (b, false) := by rw [srV, h]; rfl
theorem sr_act {b : Br} {id n : Int} (h : (validB b && inV n 8 60) = true) (ha : decide (0 ≤ idxC b.act id) = true) : srV b id n = (⟨b.pool, b.next, setB b.act (idxC b.act id).toNat n, b.wait⟩, true) := by rw [srV, h, ha]; rfl
theorem sr_wait {b : Br} {id n : Int} (h : (validB b && inV n 8 60) = true) (ha : decide (0 ≤ idxC b.act id) = false) (hw : decide (0 ≤ idxC b.wait id) = true) : srV b id n = (⟨b.pool, b.next, b.act, setB b.wait (idxC b.wait id).toNat n⟩, true) := by rw [srV, h, ha, hw]; rfl
theorem sr_none {b : Br} {id n : Int} (ha : decide (0 ≤ idxC b.act id) = false) (hw : decide (0 ≤ idxC b.wait id) = false) : srV b id n = (b, false) := by rw [srV, ha, hw]; cases validB b && inV n 8 60 <;> rfl
theorem sr_both {b : Br} {id : Int} (h : validB b = true) (ha : decide (0 ≤ idxC b.act id) = true) : decide (0 ≤ idxC b.wait id) = false := by
  rw [decide_eq_false_iff_not]
  intro hw
  obtain ⟨i, x, hx, ex⟩ := idx_pos (of_decide_eq_true ha)
  obtain ⟨k, y, hy, ey⟩ := idx_pos hw
  have hd := disj_false hx hy (ex.trans ey.symm)
  simp [validB, hd] at h

abbrev srR (p : Br × Bool) : V := .tup [.agg (brO p.1), B p.2]
theorem at_some {xs : List Cl} {id : Int} (h : decide (0 ≤ idxC xs id) = true) : ∃ z, xs[0 + (idxC xs id).toNat]? = some z ∧ xs[(idxC xs id).toNat]? = some z ∧ idxC xs id < xs.length := by
  have h0 := of_decide_eq_true h
  have h1 := idx_lt h0
  exact ⟨_, by rw [Nat.zero_add]; exact List.getElem?_eq_getElem h1, List.getElem?_eq_getElem h1, by omega⟩

theorem c_sset (b : Br) (id n : Int) (h1 : b.act.length ≤ 1000000000) (h2 : b.wait.length ≤ 1000000000) : Meets Go.Proofs.Try.prog 35 [.agg (brE b), I id, I n] [] (srR (srV b id n)) (brK (srV b id n).1.act (srV b id n).1.wait) false := by
  refine meets_ofCT 6 24 [7] Go.Proofs.Try.func35 rfl rfl rfl ?_
  simp only [Go.Proofs.Try.ntmps35, List.length_cons, List.length_nil, Nat.reduceAdd, Nat.reduceSub, List.replicate_succ, List.replicate_zero, List.cons_append, List.nil_append]
  repeat' first
    | refine aw_seq ?_
    | refine aw_region ?_
    | refine aw_lex [] ?_
    | (refine isA ?_; refine do_F rfl ?_)
    | (refine isL ?_; refine lex_F rfl (by kernel_rfl) rfl rfl ?_)
    | (refine isLg rfl ?_; refine lex_S rfl (by kernel_rfl) rfl rfl ?_)
    | (refine isAc 79 ?_; refine do_R rfl (st_callK rfl (c_copy _ h1 h2) (.cons (.same rfl) .nil) (brK_noH _ _) rfl rfl) rfl ?_)
    | (refine isLc 79 rfl ?_; refine lex_R rfl (by kernel_rfl) rfl (st_callK rfl (c_copy _ h1 h2) (.cons (.same rfl) .nil) (brK_noH _ _) rfl rfl) rfl ?_)
    | (refine isAc 24 ?_; refine do_R rfl (st_call rfl (c_svalid _ h1 h2) (.cons (.same rfl) .nil) rfl) rfl ?_)
    | (refine isLc 24 rfl ?_; refine lex_R rfl (by kernel_rfl) rfl (st_call rfl (c_svalid _ h1 h2) (.cons (.same rfl) .nil) rfl) rfl ?_)
    | refine aops_nil ?_
    | refine lex_done _ rfl (by kernel_rfl) ?_
    | refine aw_ct rfl ?_
    | refine aw_cf rfl ?_
    | refine aw_block ?_
    | refine then_n ?_
    | refine aw_skip ?_
    | refine aw_exit ?_
    | refine then_x ?_
    | refine then_r ?_
    | refine block_x ?_
    | refine block_n ?_
    | refine block_r ?_
    | refine aw_ret ?_
  refine do_br rfl rfl (fun hv => ?_) (fun hv => ?_)
  · have hv : validB b = false := by simpa using hv
    repeat' first
      | refine aw_seq ?_
      | refine aw_region ?_
      | refine aw_lex [] ?_
      | (refine isA ?_; refine do_F rfl ?_)
      | (refine isL ?_; refine lex_F rfl (by kernel_rfl) rfl rfl ?_)
      | (refine isLg rfl ?_; refine lex_S rfl (by kernel_rfl) rfl rfl ?_)
      | exact (by rw [sr_no (by rw [hv]; rfl)]; exact finMCTf [2, 3] (by decide) (cell_is rfl rfl rfl rfl rfl) (le_tup (les_cons (le_agg (by repeat' first | exact les_nil | refine les_cons ?_ ?_ | exact le_any | exact le_refl rfl | exact le_sl rfl rfl | exact le_ptr rfl)) (les_cons (le_refl rfl) les_nil))) (.cons rfl rfl rfl rfl (les_eq rfl (flat_noH _ _)) (.cons rfl rfl rfl rfl (les_eq rfl (flat_noH _ _)) .nil)) rfl (brK_flat _ _))
      | refine aops_nil ?_
      | refine lex_done _ rfl (by kernel_rfl) ?_
      | refine aw_ct rfl ?_
      | refine aw_cf rfl ?_
      | refine aw_block ?_
      | refine then_n ?_
      | refine aw_skip ?_
      | refine aw_exit ?_
      | refine then_x ?_
      | refine then_r ?_
      | refine block_x ?_
      | refine block_n ?_
      | refine block_r ?_
      | refine aw_ret ?_
  · have hv : validB b = true := by simpa using hv
    repeat' first
      | refine aw_seq ?_
      | refine aw_region ?_
      | refine aw_lex [] ?_
      | (refine isA ?_; refine do_F rfl ?_)
      | (refine isL ?_; refine lex_F rfl (by kernel_rfl) rfl rfl ?_)
      | (refine isLg rfl ?_; refine lex_S rfl (by kernel_rfl) rfl rfl ?_)
      | (refine isAc 65 ?_; refine do_R rfl (st_call rfl (c_in _ _ _) (.cons (.same rfl) (.cons (.same rfl) (.cons (.same rfl) .nil))) rfl) rfl ?_)
      | (refine isLc 65 rfl ?_; refine lex_R rfl (by kernel_rfl) rfl (st_call rfl (c_in _ _ _) (.cons (.same rfl) (.cons (.same rfl) (.cons (.same rfl) .nil))) rfl) rfl ?_)
      | refine aops_nil ?_
      | refine lex_done _ rfl (by kernel_rfl) ?_
      | refine aw_ct rfl ?_
      | refine aw_cf rfl ?_
      | refine aw_block ?_
      | refine then_n ?_
      | refine aw_skip ?_
      | refine aw_exit ?_
      | refine then_x ?_
      | refine then_r ?_
      | refine block_x ?_
      | refine block_n ?_
      | refine block_r ?_
      | refine aw_ret ?_
    refine aw_cond rfl (fun hn => ?_) (fun hn => ?_)
    · have hn : inV n 8 60 = false := by simpa using hn
      repeat' first
        | refine aw_seq ?_
        | refine aw_region ?_
        | refine aw_lex [] ?_
        | (refine isA ?_; refine do_F rfl ?_)
        | (refine isL ?_; refine lex_F rfl (by kernel_rfl) rfl rfl ?_)
        | (refine isLg rfl ?_; refine lex_S rfl (by kernel_rfl) rfl rfl ?_)
        | exact (by rw [sr_no (by rw [hv, hn]; rfl)]; exact finMCTf [2, 3] (by decide) (cell_is rfl rfl rfl rfl rfl) (le_tup (les_cons (le_agg (by repeat' first | exact les_nil | refine les_cons ?_ ?_ | exact le_any | exact le_refl rfl | exact le_sl rfl rfl | exact le_ptr rfl)) (les_cons (le_refl rfl) les_nil))) (.cons rfl rfl rfl rfl (les_eq rfl (flat_noH _ _)) (.cons rfl rfl rfl rfl (les_eq rfl (flat_noH _ _)) .nil)) rfl (brK_flat _ _))
        | refine aops_nil ?_
        | refine lex_done _ rfl (by kernel_rfl) ?_
        | refine aw_ct rfl ?_
        | refine aw_cf rfl ?_
        | refine aw_block ?_
        | refine then_n ?_
        | refine aw_skip ?_
        | refine aw_exit ?_
        | refine then_x ?_
        | refine then_r ?_
        | refine block_x ?_
        | refine block_n ?_
        | refine block_r ?_
        | refine aw_ret ?_
    · have hn : inV n 8 60 = true := by simpa using hn
      have hvn : (validB b && inV n 8 60) = true := by rw [hv, hn]; rfl
      repeat' first
        | refine aw_seq ?_
        | refine aw_region ?_
        | refine aw_lex [] ?_
        | (refine isA ?_; refine do_F rfl ?_)
        | (refine isL ?_; refine lex_F rfl (by kernel_rfl) rfl rfl ?_)
        | (refine isLg rfl ?_; refine lex_S rfl (by kernel_rfl) rfl rfl ?_)
        | (refine isAc 78 ?_; refine do_R rfl (st_call rfl (c_at _ _ h1) (.cons (.same rfl) (.cons (.same rfl) .nil)) rfl) rfl ?_)
        | (refine isAc 78 ?_; refine do_R rfl (st_call rfl (c_at _ _ h2) (.cons (.same rfl) (.cons (.same rfl) .nil)) rfl) rfl ?_)
        | refine aops_nil ?_
        | refine lex_done _ rfl (by kernel_rfl) ?_
        | refine aw_ct rfl ?_
        | refine aw_cf rfl ?_
        | refine aw_block ?_
        | refine then_n ?_
        | refine aw_skip ?_
        | refine aw_exit ?_
        | refine then_x ?_
        | refine then_r ?_
        | refine block_x ?_
        | refine block_n ?_
        | refine block_r ?_
        | refine aw_ret ?_
      refine aw_cond rfl (fun ha => ?_) (fun ha => ?_)
      · obtain ⟨z, hz, hz', hlt⟩ := at_some ha
        have hw := sr_both hv ha
        repeat' first
          | refine aw_seq ?_
          | refine aw_region ?_
          | refine aw_lex [] ?_
          | (refine isA ?_; refine do_F rfl ?_)
          | (refine isL ?_; refine lex_F rfl (by kernel_rfl) rfl rfl ?_)
          | (refine isLg rfl ?_; refine lex_S rfl (by kernel_rfl) rfl rfl ?_)
          | (refine isAi (x := .tmp 33) ?_; refine do_R rfl (step_ia_sl (j := idxC b.act id) rfl rfl rfl (Nat.zero_le _) rfl rfl (of_decide_eq_true ha) hlt) rfl ?_)
          | (refine isLi (x := .tmp 33) rfl ?_; refine lex_R rfl (by kernel_rfl) rfl (step_ia_sl (j := idxC b.act id) rfl rfl rfl (Nat.zero_le _) rfl rfl (of_decide_eq_true ha) hlt) rfl ?_)
          | (refine isAs ?_; refine do_R rfl (set_f (T := clT) (i := 0 + (idxC b.act id).toNat) (off := 1) (z := z) (z' := ⟨z.a, n, z.c⟩) rfl rfl rfl rfl (by decide) rfl hz rfl) rfl ?_)
          | (refine isLs rfl ?_; refine lex_R rfl (by kernel_rfl) rfl (set_f (T := clT) (i := 0 + (idxC b.act id).toNat) (off := 1) (z := z) (z' := ⟨z.a, n, z.c⟩) rfl rfl rfl rfl (by decide) rfl hz rfl) rfl ?_)
          | refine aops_nil ?_
          | refine lex_done _ rfl (by kernel_rfl) ?_
          | refine aw_ct rfl ?_
          | refine aw_cf rfl ?_
          | refine aw_block ?_
          | refine then_n ?_
          | refine aw_skip ?_
          | refine aw_exit ?_
          | refine then_x ?_
          | refine then_r ?_
          | refine block_x ?_
          | refine block_n ?_
          | refine block_r ?_
          | refine aw_ret ?_
        refine aw_cond rfl (fun h => by rw [hw] at h; cases h) (fun _ => ?_)
        repeat' first
          | refine aw_seq ?_
          | refine aw_region ?_
          | refine aw_lex [] ?_
          | (refine isA ?_; refine do_F rfl ?_)
          | (refine isL ?_; refine lex_F rfl (by kernel_rfl) rfl rfl ?_)
          | (refine isLg rfl ?_; refine lex_S rfl (by kernel_rfl) rfl rfl ?_)
          | refine aops_nil ?_
          | refine lex_done _ rfl (by kernel_rfl) ?_
          | refine aw_ct rfl ?_
          | refine aw_cf rfl ?_
          | refine aw_block ?_
          | refine then_n ?_
          | refine aw_skip ?_
          | refine aw_exit ?_
          | refine then_x ?_
          | refine then_r ?_
          | refine block_x ?_
          | refine block_n ?_
          | refine block_r ?_
          | refine aw_ret ?_
        refine do_br rfl rfl (fun _ => ?_) (fun h => by rw [ha] at h; cases h)
        repeat' first
          | refine aw_seq ?_
          | refine aw_region ?_
          | refine aw_lex [] ?_
          | (refine isA ?_; refine do_F rfl ?_)
          | (refine isL ?_; refine lex_F rfl (by kernel_rfl) rfl rfl ?_)
          | (refine isLg rfl ?_; refine lex_S rfl (by kernel_rfl) rfl rfl ?_)
          | exact (by rw [sr_act hvn ha]; exact finMCTf [2, 3] (by decide) (cell_is rfl rfl rfl rfl rfl) (le_tup (les_cons (le_agg (les_cons (le_refl rfl) (les_cons (le_refl rfl) (les_cons (le_sl rfl setB_len.symm) (les_cons (le_sl rfl rfl) les_nil))))) (les_cons (le_refl rfl) les_nil))) (.cons rfl rfl rfl rfl (les_eq (by rw [setB_at hz', Nat.zero_add]) (flat_noH _ _)) (.cons rfl rfl rfl rfl (les_eq rfl (flat_noH _ _)) .nil)) rfl (brK_flat _ _))
          | refine aops_nil ?_
          | refine lex_done _ rfl (by kernel_rfl) ?_
          | refine aw_ct rfl ?_
          | refine aw_cf rfl ?_
          | refine aw_block ?_
          | refine then_n ?_
          | refine aw_skip ?_
          | refine aw_exit ?_
          | refine then_x ?_
          | refine then_r ?_
          | refine block_x ?_
          | refine block_n ?_
          | refine block_r ?_
          | refine aw_ret ?_
      · repeat' first
          | refine aw_seq ?_
          | refine aw_region ?_
          | refine aw_lex [] ?_
          | (refine isA ?_; refine do_F rfl ?_)
          | (refine isL ?_; refine lex_F rfl (by kernel_rfl) rfl rfl ?_)
          | (refine isLg rfl ?_; refine lex_S rfl (by kernel_rfl) rfl rfl ?_)
          | refine aops_nil ?_
          | refine lex_done _ rfl (by kernel_rfl) ?_
          | refine aw_ct rfl ?_
          | refine aw_cf rfl ?_
          | refine aw_block ?_
          | refine then_n ?_
          | refine aw_skip ?_
          | refine aw_exit ?_
          | refine then_x ?_
          | refine then_r ?_
          | refine block_x ?_
          | refine block_n ?_
          | refine block_r ?_
          | refine aw_ret ?_
        refine aw_cond rfl (fun hw => ?_) (fun hw => ?_)
        · obtain ⟨z, hz, hz', hlt⟩ := at_some hw
          repeat' first
            | refine aw_seq ?_
            | refine aw_region ?_
            | refine aw_lex [] ?_
            | (refine isA ?_; refine do_F rfl ?_)
            | (refine isL ?_; refine lex_F rfl (by kernel_rfl) rfl rfl ?_)
            | (refine isLg rfl ?_; refine lex_S rfl (by kernel_rfl) rfl rfl ?_)
            | (refine isAi (x := .tmp 41) ?_; refine do_R rfl (step_ia_sl (j := idxC b.wait id) rfl rfl rfl (Nat.zero_le _) rfl rfl (of_decide_eq_true hw) hlt) rfl ?_)
            | (refine isLi (x := .tmp 41) rfl ?_; refine lex_R rfl (by kernel_rfl) rfl (step_ia_sl (j := idxC b.wait id) rfl rfl rfl (Nat.zero_le _) rfl rfl (of_decide_eq_true hw) hlt) rfl ?_)
            | (refine isAs ?_; refine do_R rfl (set_f (T := clT) (i := 0 + (idxC b.wait id).toNat) (off := 1) (z := z) (z' := ⟨z.a, n, z.c⟩) rfl rfl rfl rfl (by decide) rfl hz rfl) rfl ?_)
            | (refine isLs rfl ?_; refine lex_R rfl (by kernel_rfl) rfl (set_f (T := clT) (i := 0 + (idxC b.wait id).toNat) (off := 1) (z := z) (z' := ⟨z.a, n, z.c⟩) rfl rfl rfl rfl (by decide) rfl hz rfl) rfl ?_)
            | refine aops_nil ?_
            | refine lex_done _ rfl (by kernel_rfl) ?_
            | refine aw_ct rfl ?_
            | refine aw_cf rfl ?_
            | refine aw_block ?_
            | refine then_n ?_
            | refine aw_skip ?_
            | refine aw_exit ?_
            | refine then_x ?_
            | refine then_r ?_
            | refine block_x ?_
            | refine block_n ?_
            | refine block_r ?_
            | refine aw_ret ?_
          refine do_br rfl rfl (fun h => by rw [ha] at h; cases h) (fun _ => ?_)
          repeat' first
            | refine aw_seq ?_
            | refine aw_region ?_
            | refine aw_lex [] ?_
            | (refine isA ?_; refine do_F rfl ?_)
            | (refine isL ?_; refine lex_F rfl (by kernel_rfl) rfl rfl ?_)
            | (refine isLg rfl ?_; refine lex_S rfl (by kernel_rfl) rfl rfl ?_)
            | exact (by rw [sr_wait hvn ha hw]; exact finMCTf [2, 3] (by decide) (cell_is rfl rfl rfl rfl rfl) (le_tup (les_cons (le_agg (les_cons (le_refl rfl) (les_cons (le_refl rfl) (les_cons (le_sl rfl rfl) (les_cons (le_sl rfl setB_len.symm) les_nil))))) (les_cons (le_eq (show B (decide (0 ≤ idxC b.wait id)) = _ by rw [hw]) rfl) les_nil))) (.cons rfl rfl rfl rfl (les_eq rfl (flat_noH _ _)) (.cons rfl rfl rfl rfl (les_eq (by rw [setB_at hz', Nat.zero_add]) (flat_noH _ _)) .nil)) rfl (brK_flat _ _))
            | refine aops_nil ?_
            | refine lex_done _ rfl (by kernel_rfl) ?_
            | refine aw_ct rfl ?_
            | refine aw_cf rfl ?_
            | refine aw_block ?_
            | refine then_n ?_
            | refine aw_skip ?_
            | refine aw_exit ?_
            | refine then_x ?_
            | refine then_r ?_
            | refine block_x ?_
            | refine block_n ?_
            | refine block_r ?_
            | refine aw_ret ?_
        · repeat' first
            | refine aw_seq ?_
            | refine aw_region ?_
            | refine aw_lex [] ?_
            | (refine isA ?_; refine do_F rfl ?_)
            | (refine isL ?_; refine lex_F rfl (by kernel_rfl) rfl rfl ?_)
            | (refine isLg rfl ?_; refine lex_S rfl (by kernel_rfl) rfl rfl ?_)
            | refine aops_nil ?_
            | refine lex_done _ rfl (by kernel_rfl) ?_
            | refine aw_ct rfl ?_
            | refine aw_cf rfl ?_
            | refine aw_block ?_
            | refine then_n ?_
            | refine aw_skip ?_
            | refine aw_exit ?_
            | refine then_x ?_
            | refine then_r ?_
            | refine block_x ?_
            | refine block_n ?_
            | refine block_r ?_
            | refine aw_ret ?_
          refine do_br rfl rfl (fun h => by rw [ha] at h; cases h) (fun _ => ?_)
          repeat' first
            | refine aw_seq ?_
            | refine aw_region ?_
            | refine aw_lex [] ?_
            | (refine isA ?_; refine do_F rfl ?_)
            | (refine isL ?_; refine lex_F rfl (by kernel_rfl) rfl rfl ?_)
            | (refine isLg rfl ?_; refine lex_S rfl (by kernel_rfl) rfl rfl ?_)
            | exact (by rw [sr_none ha hw]; exact finMCTf [2, 3] (by decide) (cell_is rfl rfl rfl rfl rfl) (le_tup (les_cons (le_agg (by repeat' first | exact les_nil | refine les_cons ?_ ?_ | exact le_any | exact le_refl rfl | exact le_sl rfl rfl | exact le_ptr rfl)) (les_cons (le_eq (show B (decide (0 ≤ idxC b.wait id)) = _ by rw [hw]) rfl) les_nil))) (.cons rfl rfl rfl rfl (les_eq rfl (flat_noH _ _)) (.cons rfl rfl rfl rfl (les_eq rfl (flat_noH _ _)) .nil)) rfl (brK_flat _ _))
            | refine aops_nil ?_
            | refine lex_done _ rfl (by kernel_rfl) ?_
            | refine aw_ct rfl ?_
            | refine aw_cf rfl ?_
            | refine aw_block ?_
            | refine then_n ?_
            | refine aw_skip ?_
            | refine aw_exit ?_
            | refine then_x ?_
            | refine then_r ?_
            | refine block_x ?_
            | refine block_n ?_
            | refine block_r ?_
            | refine aw_ret ?_
end Go.Proofs.Ytjlhfemfmkdlhaa.Ab

/- BrkN -/
namespace Go.Proofs.Ytjlhfemfmkdlhaa.Ab
open Go.RowKit

theorem c_iset (b : Br) (id n : Int) (h1 : b.act.length ≤ 1000000000) (h2 : b.wait.length ≤ 1000000000) : Meets Go.Proofs.Try.prog 36 [.agg (brE b), I id, I n] [] (srR (srV b id n)) (brK (srV b id n).1.act (srV b id n).1.wait) false := by
  refine meets_ofCT 6 24 [7] Go.Proofs.Try.func36 rfl rfl rfl ?_
  simp only [Go.Proofs.Try.ntmps36, List.length_cons, List.length_nil, Nat.reduceAdd, Nat.reduceSub, List.replicate_succ, List.replicate_zero, List.cons_append, List.nil_append]
  repeat' first
    | refine aw_seq ?_
    | refine aw_region ?_
    | refine aw_lex [] ?_
    | (refine isA ?_; refine do_F rfl ?_)
    | (refine isL ?_; refine lex_F rfl (by kernel_rfl) rfl rfl ?_)
    | (refine isLg rfl ?_; refine lex_S rfl (by kernel_rfl) rfl rfl ?_)
    | (refine isAc 80 ?_; refine do_R rfl (st_callK rfl (c_clone _ h1 h2) (.cons (.same rfl) .nil) (brK_noH _ _) rfl rfl) rfl ?_)
    | (refine isLc 80 rfl ?_; refine lex_R rfl (by kernel_rfl) rfl (st_callK rfl (c_clone _ h1 h2) (.cons (.same rfl) .nil) (brK_noH _ _) rfl rfl) rfl ?_)
    | (refine isAc 25 ?_; refine do_R rfl (st_call rfl (c_ivalid _ h1 h2) (.cons (.same rfl) .nil) rfl) rfl ?_)
    | (refine isLc 25 rfl ?_; refine lex_R rfl (by kernel_rfl) rfl (st_call rfl (c_ivalid _ h1 h2) (.cons (.same rfl) .nil) rfl) rfl ?_)
    | refine aops_nil ?_
    | refine lex_done _ rfl (by kernel_rfl) ?_
    | refine aw_ct rfl ?_
    | refine aw_cf rfl ?_
    | refine aw_block ?_
    | refine then_n ?_
    | refine aw_skip ?_
    | refine aw_exit ?_
    | refine then_x ?_
    | refine then_r ?_
    | refine block_x ?_
    | refine block_n ?_
    | refine block_r ?_
    | refine aw_ret ?_
  refine do_br rfl rfl (fun hv => ?_) (fun hv => ?_)
  · have hv : validB b = false := by simpa using hv
    repeat' first
      | refine aw_seq ?_
      | refine aw_region ?_
      | refine aw_lex [] ?_
      | (refine isA ?_; refine do_F rfl ?_)
      | (refine isL ?_; refine lex_F rfl (by kernel_rfl) rfl rfl ?_)
      | (refine isLg rfl ?_; refine lex_S rfl (by kernel_rfl) rfl rfl ?_)
      | exact (by rw [sr_no (by rw [hv]; rfl)]; exact finMCTf [2, 3] (by decide) (cell_is rfl rfl rfl rfl rfl) (le_tup (les_cons (le_agg (by repeat' first | exact les_nil | refine les_cons ?_ ?_ | exact le_any | exact le_refl rfl | exact le_sl rfl rfl | exact le_ptr rfl)) (les_cons (le_refl rfl) les_nil))) (.cons rfl rfl rfl rfl (les_eq rfl (flat_noH _ _)) (.cons rfl rfl rfl rfl (les_eq rfl (flat_noH _ _)) .nil)) rfl (brK_flat _ _))
      | refine aops_nil ?_
      | refine lex_done _ rfl (by kernel_rfl) ?_
      | refine aw_ct rfl ?_
      | refine aw_cf rfl ?_
      | refine aw_block ?_
      | refine then_n ?_
      | refine aw_skip ?_
      | refine aw_exit ?_
      | refine then_x ?_
      | refine then_r ?_
      | refine block_x ?_
      | refine block_n ?_
      | refine block_r ?_
      | refine aw_ret ?_
  · have hv : validB b = true := by simpa using hv
    repeat' first
      | refine aw_seq ?_
      | refine aw_region ?_
      | refine aw_lex [] ?_
      | (refine isA ?_; refine do_F rfl ?_)
      | (refine isL ?_; refine lex_F rfl (by kernel_rfl) rfl rfl ?_)
      | (refine isLg rfl ?_; refine lex_S rfl (by kernel_rfl) rfl rfl ?_)
      | (refine isAc 81 ?_; refine do_R rfl (st_call rfl (c_isGrant _) (.cons (.same rfl) .nil) rfl) rfl ?_)
      | (refine isLc 81 rfl ?_; refine lex_R rfl (by kernel_rfl) rfl (st_call rfl (c_isGrant _) (.cons (.same rfl) .nil) rfl) rfl ?_)
      | refine aops_nil ?_
      | refine lex_done _ rfl (by kernel_rfl) ?_
      | refine aw_ct rfl ?_
      | refine aw_cf rfl ?_
      | refine aw_block ?_
      | refine then_n ?_
      | refine aw_skip ?_
      | refine aw_exit ?_
      | refine then_x ?_
      | refine then_r ?_
      | refine block_x ?_
      | refine block_n ?_
      | refine block_r ?_
      | refine aw_ret ?_
    refine aw_cond rfl (fun hn => ?_) (fun hn => ?_)
    · have hn : inV n 8 60 = false := by simpa using hn
      repeat' first
        | refine aw_seq ?_
        | refine aw_region ?_
        | refine aw_lex [] ?_
        | (refine isA ?_; refine do_F rfl ?_)
        | (refine isL ?_; refine lex_F rfl (by kernel_rfl) rfl rfl ?_)
        | (refine isLg rfl ?_; refine lex_S rfl (by kernel_rfl) rfl rfl ?_)
        | exact (by rw [sr_no (by rw [hv, hn]; rfl)]; exact finMCTf [2, 3] (by decide) (cell_is rfl rfl rfl rfl rfl) (le_tup (les_cons (le_agg (by repeat' first | exact les_nil | refine les_cons ?_ ?_ | exact le_any | exact le_refl rfl | exact le_sl rfl rfl | exact le_ptr rfl)) (les_cons (le_refl rfl) les_nil))) (.cons rfl rfl rfl rfl (les_eq rfl (flat_noH _ _)) (.cons rfl rfl rfl rfl (les_eq rfl (flat_noH _ _)) .nil)) rfl (brK_flat _ _))
        | refine aops_nil ?_
        | refine lex_done _ rfl (by kernel_rfl) ?_
        | refine aw_ct rfl ?_
        | refine aw_cf rfl ?_
        | refine aw_block ?_
        | refine then_n ?_
        | refine aw_skip ?_
        | refine aw_exit ?_
        | refine then_x ?_
        | refine then_r ?_
        | refine block_x ?_
        | refine block_n ?_
        | refine block_r ?_
        | refine aw_ret ?_
    · have hn : inV n 8 60 = true := by simpa using hn
      have hvn : (validB b && inV n 8 60) = true := by rw [hv, hn]; rfl
      repeat' first
        | refine aw_seq ?_
        | refine aw_region ?_
        | refine aw_lex [] ?_
        | (refine isA ?_; refine do_F rfl ?_)
        | (refine isL ?_; refine lex_F rfl (by kernel_rfl) rfl rfl ?_)
        | (refine isLg rfl ?_; refine lex_S rfl (by kernel_rfl) rfl rfl ?_)
        | (refine isAc 76 ?_; refine do_R rfl (st_call rfl (c_clientAt b.act id h1) (.cons (pur_l rfl rfl) (.cons (.same rfl) .nil)) rfl) rfl ?_)
        | (refine isLc 76 rfl ?_; refine lex_R rfl (by kernel_rfl) rfl (st_call rfl (c_clientAt b.act id h1) (.cons (pur_l rfl rfl) (.cons (.same rfl) .nil)) rfl) rfl ?_)
        | refine aops_nil ?_
        | refine lex_done _ rfl (by kernel_rfl) ?_
        | refine aw_ct rfl ?_
        | refine aw_cf rfl ?_
        | refine aw_block ?_
        | refine then_n ?_
        | refine aw_skip ?_
        | refine aw_exit ?_
        | refine then_x ?_
        | refine then_r ?_
        | refine block_x ?_
        | refine block_n ?_
        | refine block_r ?_
        | refine aw_ret ?_
      refine aw_cond rfl (fun ha => ?_) (fun ha => ?_)
      · obtain ⟨z, hz, hz', hlt⟩ := at_some ha
        repeat' first
          | refine aw_seq ?_
          | refine aw_region ?_
          | refine aw_lex [] ?_
          | (refine isA ?_; refine do_F rfl ?_)
          | (refine isL ?_; refine lex_F rfl (by kernel_rfl) rfl rfl ?_)
          | (refine isLg rfl ?_; refine lex_S rfl (by kernel_rfl) rfl rfl ?_)
          | (refine isAi (x := .tmp 29) ?_; refine do_R rfl (step_ia_sl (j := idxC b.act id) rfl rfl rfl (Nat.zero_le _) rfl rfl (of_decide_eq_true ha) hlt) rfl ?_)
          | (refine isLi (x := .tmp 29) rfl ?_; refine lex_R rfl (by kernel_rfl) rfl (step_ia_sl (j := idxC b.act id) rfl rfl rfl (Nat.zero_le _) rfl rfl (of_decide_eq_true ha) hlt) rfl ?_)
          | (refine isAs (x := .tmp 33) ?_; refine do_R rfl (set_f (T := clT) (i := 0 + (idxC b.act id).toNat) (off := 1) (z := z) (z' := ⟨z.a, n, z.c⟩) rfl rfl rfl rfl (by decide) rfl hz rfl) rfl ?_)
          | (refine isLs (x := .tmp 33) rfl ?_; refine lex_R rfl (by kernel_rfl) rfl (set_f (T := clT) (i := 0 + (idxC b.act id).toNat) (off := 1) (z := z) (z' := ⟨z.a, n, z.c⟩) rfl rfl rfl rfl (by decide) rfl hz rfl) rfl ?_)
          | exact (by rw [sr_act hvn ha]; exact finMCTf [2, 3] (by decide) (cell_is rfl rfl rfl rfl rfl) (le_tup (les_cons (le_agg (les_cons (le_refl rfl) (les_cons (le_refl rfl) (les_cons (le_sl rfl setB_len.symm) (les_cons (le_sl rfl rfl) les_nil))))) (les_cons (le_refl rfl) les_nil))) (.cons rfl rfl rfl rfl (les_eq (by rw [setB_at hz', Nat.zero_add]) (flat_noH _ _)) (.cons rfl rfl rfl rfl (les_eq rfl (flat_noH _ _)) .nil)) rfl (brK_flat _ _))
          | refine aops_nil ?_
          | refine lex_done _ rfl (by kernel_rfl) ?_
          | refine aw_ct rfl ?_
          | refine aw_cf rfl ?_
          | refine aw_block ?_
          | refine then_n ?_
          | refine aw_skip ?_
          | refine aw_exit ?_
          | refine then_x ?_
          | refine then_r ?_
          | refine block_x ?_
          | refine block_n ?_
          | refine block_r ?_
          | refine aw_ret ?_
      · repeat' first
          | refine aw_seq ?_
          | refine aw_region ?_
          | refine aw_lex [] ?_
          | (refine isA ?_; refine do_F rfl ?_)
          | (refine isL ?_; refine lex_F rfl (by kernel_rfl) rfl rfl ?_)
          | (refine isLg rfl ?_; refine lex_S rfl (by kernel_rfl) rfl rfl ?_)
          | (refine isAc 76 ?_; refine do_R rfl (st_call rfl (c_clientAt b.wait id h2) (.cons (pur_l rfl rfl) (.cons (.same rfl) .nil)) rfl) rfl ?_)
          | (refine isLc 76 rfl ?_; refine lex_R rfl (by kernel_rfl) rfl (st_call rfl (c_clientAt b.wait id h2) (.cons (pur_l rfl rfl) (.cons (.same rfl) .nil)) rfl) rfl ?_)
          | refine aops_nil ?_
          | refine lex_done _ rfl (by kernel_rfl) ?_
          | refine aw_ct rfl ?_
          | refine aw_cf rfl ?_
          | refine aw_block ?_
          | refine then_n ?_
          | refine aw_skip ?_
          | refine aw_exit ?_
          | refine then_x ?_
          | refine then_r ?_
          | refine block_x ?_
          | refine block_n ?_
          | refine block_r ?_
          | refine aw_ret ?_
        refine aw_cond rfl (fun hw => ?_) (fun hw => ?_)
        · obtain ⟨z, hz, hz', hlt⟩ := at_some hw
          repeat' first
            | refine aw_seq ?_
            | refine aw_region ?_
            | refine aw_lex [] ?_
            | (refine isA ?_; refine do_F rfl ?_)
            | (refine isL ?_; refine lex_F rfl (by kernel_rfl) rfl rfl ?_)
            | (refine isLg rfl ?_; refine lex_S rfl (by kernel_rfl) rfl rfl ?_)
            | (refine isAi (x := .tmp 42) ?_; refine do_R rfl (step_ia_sl (j := idxC b.wait id) rfl rfl rfl (Nat.zero_le _) rfl rfl (of_decide_eq_true hw) hlt) rfl ?_)
            | (refine isLi (x := .tmp 42) rfl ?_; refine lex_R rfl (by kernel_rfl) rfl (step_ia_sl (j := idxC b.wait id) rfl rfl rfl (Nat.zero_le _) rfl rfl (of_decide_eq_true hw) hlt) rfl ?_)
            | (refine isAs (x := .tmp 46) ?_; refine do_R rfl (set_f (T := clT) (i := 0 + (idxC b.wait id).toNat) (off := 1) (z := z) (z' := ⟨z.a, n, z.c⟩) rfl rfl rfl rfl (by decide) rfl hz rfl) rfl ?_)
            | (refine isLs (x := .tmp 46) rfl ?_; refine lex_R rfl (by kernel_rfl) rfl (set_f (T := clT) (i := 0 + (idxC b.wait id).toNat) (off := 1) (z := z) (z' := ⟨z.a, n, z.c⟩) rfl rfl rfl rfl (by decide) rfl hz rfl) rfl ?_)
            | exact (by rw [sr_wait hvn ha hw]; exact finMCTf [2, 3] (by decide) (cell_is rfl rfl rfl rfl rfl) (le_tup (les_cons (le_agg (les_cons (le_refl rfl) (les_cons (le_refl rfl) (les_cons (le_sl rfl rfl) (les_cons (le_sl rfl setB_len.symm) les_nil))))) (les_cons (le_refl rfl) les_nil))) (.cons rfl rfl rfl rfl (les_eq rfl (flat_noH _ _)) (.cons rfl rfl rfl rfl (les_eq (by rw [setB_at hz', Nat.zero_add]) (flat_noH _ _)) .nil)) rfl (brK_flat _ _))
            | refine aops_nil ?_
            | refine lex_done _ rfl (by kernel_rfl) ?_
            | refine aw_ct rfl ?_
            | refine aw_cf rfl ?_
            | refine aw_block ?_
            | refine then_n ?_
            | refine aw_skip ?_
            | refine aw_exit ?_
            | refine then_x ?_
            | refine then_r ?_
            | refine block_x ?_
            | refine block_n ?_
            | refine block_r ?_
            | refine aw_ret ?_
        · repeat' first
            | refine aw_seq ?_
            | refine aw_region ?_
            | refine aw_lex [] ?_
            | (refine isA ?_; refine do_F rfl ?_)
            | (refine isL ?_; refine lex_F rfl (by kernel_rfl) rfl rfl ?_)
            | (refine isLg rfl ?_; refine lex_S rfl (by kernel_rfl) rfl rfl ?_)
            | exact (by rw [sr_none ha hw]; exact finMCTf [2, 3] (by decide) (cell_is rfl rfl rfl rfl rfl) (le_tup (les_cons (le_agg (by repeat' first | exact les_nil | refine les_cons ?_ ?_ | exact le_any | exact le_refl rfl | exact le_sl rfl rfl | exact le_ptr rfl)) (les_cons (le_refl rfl) les_nil))) (.cons rfl rfl rfl rfl (les_eq rfl (flat_noH _ _)) (.cons rfl rfl rfl rfl (les_eq rfl (flat_noH _ _)) .nil)) rfl (brK_flat _ _))
            | refine aops_nil ?_
            | refine lex_done _ rfl (by kernel_rfl) ?_
            | refine aw_ct rfl ?_
            | refine aw_cf rfl ?_
            | refine aw_block ?_
            | refine then_n ?_
            | refine aw_skip ?_
            | refine aw_exit ?_
            | refine then_x ?_
            | refine then_r ?_
            | refine block_x ?_
            | refine block_n ?_
            | refine block_r ?_
            | refine aw_ret ?_

/-! ### Marks held -/
theorem mkC_at {k : Int} {xs : List Cl} : ∀ (i : Nat) (x : Cl), (mkC k xs xs.length)[i]? = some x → x = mkCl k i := fun i x h => by
  unfold mkC at h
  rw [List.drop_length, List.append_nil, List.getElem?_map] at h
  cases hi : (List.range xs.length)[i]? with
  | none => rw [hi] at h; cases h
  | some j =>
    rw [hi] at h
    have hj : j = i := by
      obtain ⟨q, e⟩ := List.getElem?_eq_some_iff.1 hi
      simpa using e.symm
    subst hj
    simpa using h.symm

theorem c_heldClientS (xs : List Cl) (k : Int) (hl : xs.length ≤ 1000000000) (hk : ∀ i z, xs[i]? = some z → z = mkCl k i) : Meets Go.Proofs.Try.prog 69 [clL xs, I k] [] (I (kk k (3 * xs.length))) [] false := by
  refine meets_of [4] Go.Proofs.Try.func69 rfl rfl ?_
  simp only [Go.Proofs.Try.ntmps69, List.length_cons, List.length_nil, Nat.reduceAdd, Nat.reduceSub, List.replicate_succ, List.replicate_zero, List.cons_append, List.nil_append]
  repeat' first
    | refine aw_seq ?_
    | refine aw_region ?_
    | refine aw_lex [] ?_
    | (refine isA ?_; refine do_F rfl ?_)
    | (refine isL ?_; refine lex_F rfl (by kernel_rfl) rfl rfl ?_)
    | (refine isLg rfl ?_; refine lex_S rfl (by kernel_rfl) rfl rfl ?_)
    | refine aops_nil ?_
    | refine lex_done _ rfl (by kernel_rfl) ?_
    | refine aw_ct rfl ?_
    | refine aw_cf rfl ?_
    | refine aw_block ?_
    | refine then_n ?_
    | refine aw_skip ?_
    | refine aw_exit ?_
    | refine then_x ?_
    | refine then_r ?_
    | refine block_x ?_
    | refine block_n ?_
    | refine block_r ?_
    | refine aw_ret ?_
  refine aw_loop (α := { i : Nat // i ≤ xs.length }) (fun i => ⟨[clL xs, I (kk k (3 * i.1)), .any, .any, .any, I i.1, .any, .any, .any, .any, .any, .any, .any, .any, .any, .any, .any, .any, .any, .any, .any, .any, .any, .any, .any, .any, .any, .any, .any, .any, .any, .any, .any, .any, .any, .any, .any, .any, .any, .any], [], 0⟩) (fun i => xs.length - i.1) ⟨0, Nat.zero_le _⟩ ?_ ?_
  · exact sub0 [] rfl rfl (by decide) .nil (by repeat' first | exact les_nil | refine les_cons ?_ ?_ | exact le_any | exact le_refl rfl | exact le_sl rfl rfl | exact le_ptr rfl)
  · rintro ⟨i, hi⟩
    repeat' first
      | refine aw_seq ?_
      | refine aw_region ?_
      | refine aw_lex [] ?_
      | (refine isA ?_; refine do_F rfl ?_)
      | (refine isL ?_; refine lex_F rfl (by kernel_rfl) rfl rfl ?_)
      | (refine isLg rfl ?_; refine lex_S rfl (by kernel_rfl) rfl rfl ?_)
      | refine aops_nil ?_
      | refine lex_done _ rfl (by kernel_rfl) ?_
      | refine aw_ct rfl ?_
      | refine aw_cf rfl ?_
      | refine aw_block ?_
      | refine then_n ?_
      | refine aw_skip ?_
      | refine aw_exit ?_
      | refine then_x ?_
      | refine then_r ?_
      | refine block_x ?_
      | refine block_n ?_
      | refine block_r ?_
      | refine aw_ret ?_
    refine aw_cond rfl (fun h => ?_) (fun h => ?_)
    · have hlt : i < xs.length := by simpa using h
      obtain ⟨z, hz⟩ : ∃ z, xs[i]? = some z := ⟨_, List.getElem?_eq_getElem hlt⟩
      have hzk := hk i z hz
      subst hzk
      repeat' first
        | refine aw_seq ?_
        | refine aw_region ?_
        | refine aw_lex [] ?_
        | (refine isA ?_; refine do_F rfl ?_)
        | (refine isL ?_; refine lex_F rfl (by kernel_rfl) rfl rfl ?_)
        | (refine isLg rfl ?_; refine lex_S rfl (by kernel_rfl) rfl rfl ?_)
        | (refine isAi ?_; refine do_R rfl (ia_l (t := clT) (z := mkCl k i) rfl rfl rfl rfl (Int.natCast_nonneg i) hz) rfl ?_)
        | (refine isLi rfl ?_; refine lex_R rfl (by kernel_rfl) rfl (ia_l (t := clT) (z := mkCl k i) rfl rfl rfl rfl (Int.natCast_nonneg i) hz) rfl ?_)
        | refine aops_nil ?_
        | refine lex_done _ rfl (by kernel_rfl) ?_
        | refine aw_ct rfl ?_
        | refine aw_cf rfl ?_
        | refine aw_block ?_
        | refine then_n ?_
        | refine aw_skip ?_
        | refine aw_exit ?_
        | refine then_x ?_
        | refine then_r ?_
        | refine block_x ?_
        | refine block_n ?_
        | refine block_r ?_
        | refine aw_ret ?_
      refine aw_cond rfl (fun h => by simp [mkCl] at h) (fun _ => ?_)
      repeat' first
        | refine aw_seq ?_
        | refine aw_region ?_
        | refine aw_lex [] ?_
        | (refine isA ?_; refine do_F rfl ?_)
        | (refine isL ?_; refine lex_F rfl (by kernel_rfl) rfl rfl ?_)
        | (refine isLg rfl ?_; refine lex_S rfl (by kernel_rfl) rfl rfl ?_)
        | (refine isAi ?_; refine do_R rfl (ia_l (t := clT) (z := mkCl k i) rfl rfl rfl rfl (Int.natCast_nonneg i) hz) rfl ?_)
        | (refine isLi rfl ?_; refine lex_R rfl (by kernel_rfl) rfl (ia_l (t := clT) (z := mkCl k i) rfl rfl rfl rfl (Int.natCast_nonneg i) hz) rfl ?_)
        | refine aops_nil ?_
        | refine lex_done _ rfl (by kernel_rfl) ?_
        | refine aw_ct rfl ?_
        | refine aw_cf rfl ?_
        | refine aw_block ?_
        | refine then_n ?_
        | refine aw_skip ?_
        | refine aw_exit ?_
        | refine then_x ?_
        | refine then_r ?_
        | refine block_x ?_
        | refine block_n ?_
        | refine block_r ?_
        | refine aw_ret ?_
      refine aw_cond rfl (fun h => by simp [mkCl, kk] at h) (fun _ => ?_)
      repeat' first
        | refine aw_seq ?_
        | refine aw_region ?_
        | refine aw_lex [] ?_
        | (refine isA ?_; refine do_F rfl ?_)
        | (refine isL ?_; refine lex_F rfl (by kernel_rfl) rfl rfl ?_)
        | (refine isLg rfl ?_; refine lex_S rfl (by kernel_rfl) rfl rfl ?_)
        | (refine isAi ?_; refine do_R rfl (ia_l (t := clT) (z := mkCl k i) rfl rfl rfl rfl (Int.natCast_nonneg i) hz) rfl ?_)
        | (refine isLi rfl ?_; refine lex_R rfl (by kernel_rfl) rfl (ia_l (t := clT) (z := mkCl k i) rfl rfl rfl rfl (Int.natCast_nonneg i) hz) rfl ?_)
        | refine aops_nil ?_
        | refine lex_done _ rfl (by kernel_rfl) ?_
        | refine aw_ct rfl ?_
        | refine aw_cf rfl ?_
        | refine aw_block ?_
        | refine then_n ?_
        | refine aw_skip ?_
        | refine aw_exit ?_
        | refine then_x ?_
        | refine then_r ?_
        | refine block_x ?_
        | refine block_n ?_
        | refine block_r ?_
        | refine aw_ret ?_
      refine aw_cond rfl (fun h => by simp [mkCl, kk] at h) (fun _ => ?_)
      repeat' first
        | refine aw_seq ?_
        | refine aw_region ?_
        | refine aw_lex [] ?_
        | (refine isA ?_; refine do_F rfl ?_)
        | (refine isL ?_; refine lex_F rfl (by kernel_rfl) rfl rfl ?_)
        | (refine isLg rfl ?_; refine lex_S rfl (by kernel_rfl) rfl rfl ?_)
        | refine aops_nil ?_
        | refine lex_done _ rfl (by kernel_rfl) ?_
        | refine aw_ct rfl ?_
        | refine aw_cf rfl ?_
        | refine aw_block ?_
        | refine then_n ?_
        | refine aw_skip ?_
        | refine aw_exit ?_
        | refine then_x ?_
        | refine then_r ?_
        | refine block_x ?_
        | refine block_n ?_
        | refine block_r ?_
        | refine aw_ret ?_
      refine ⟨⟨i + 1, hlt⟩, by simp only; omega, ?_⟩
      exact sub0 [] rfl rfl (by decide) .nil (by repeat' first | exact les_nil | refine les_cons ?_ ?_ | exact le_any | exact le_refl rfl | exact le_sl rfl rfl | exact le_ptr rfl | exact le_i (by assumption) (by omega))
    · have hge : i = xs.length := by
        have : ¬ ((i : Int) < xs.length) := by simpa using h
        omega
      subst hge
      repeat' first
        | refine aw_seq ?_
        | refine aw_region ?_
        | refine aw_lex [] ?_
        | (refine isA ?_; refine do_F rfl ?_)
        | (refine isL ?_; refine lex_F rfl (by kernel_rfl) rfl rfl ?_)
        | (refine isLg rfl ?_; refine lex_S rfl (by kernel_rfl) rfl rfl ?_)
        | exact fin1 rfl rfl rfl
        | refine aops_nil ?_
        | refine lex_done _ rfl (by kernel_rfl) ?_
        | refine aw_ct rfl ?_
        | refine aw_cf rfl ?_
        | refine aw_block ?_
        | refine then_n ?_
        | refine aw_skip ?_
        | refine aw_exit ?_
        | refine then_x ?_
        | refine then_r ?_
        | refine block_x ?_
        | refine block_n ?_
        | refine block_r ?_
        | refine aw_ret ?_

theorem mkA_len (k : Int) (b : Br) : (mkA k b).length = b.act.length := mkC_len k (Nat.le_refl _)
theorem mkW_len (k : Int) (b : Br) : (mkW k b).length = b.wait.length := mkC_len _ (Nat.le_refl _)
theorem kk3_pos {n : Nat} (h : n ≤ 1000000000) : decide (kk 1 (3 * n) < 0) = false := by
  rw [kk_val (by omega) (by omega) (by omega)]
  simp
  omega

theorem c_heldBroker (b : Br) (h1 : b.act.length ≤ 1000000000) (h2 : b.wait.length ≤ 1000000000) : Meets Go.Proofs.Try.prog 19 [.agg (brE ⟨b.pool, b.next, mkA 1 b, mkW 1 b⟩), I 1] [] (I (mkN 1 b)) [] false := by
  have hA := mkA_len 1 b
  have hW := mkW_len 1 b
  refine meets_of [4] Go.Proofs.Try.func19 rfl rfl ?_
  simp only [Go.Proofs.Try.ntmps19, List.length_cons, List.length_nil, Nat.reduceAdd, Nat.reduceSub, List.replicate_succ, List.replicate_zero, List.cons_append, List.nil_append]
  repeat' first
    | refine aw_seq ?_
    | refine aw_region ?_
    | refine aw_lex [] ?_
    | (refine isA ?_; refine do_F rfl ?_)
    | (refine isL ?_; refine lex_F rfl (by kernel_rfl) rfl rfl ?_)
    | (refine isLg rfl ?_; refine lex_S rfl (by kernel_rfl) rfl rfl ?_)
    | (refine isAc 69 ?_; refine do_R rfl (st_call rfl (c_heldClientS (mkA 1 b) 1 (by rw [hA]; exact h1) mkC_at) (.cons (.same rfl) (.cons (.same rfl) .nil)) rfl) rfl ?_)
    | (refine isLc 69 rfl ?_; refine lex_R rfl (by kernel_rfl) rfl (st_call rfl (c_heldClientS (mkA 1 b) 1 (by rw [hA]; exact h1) mkC_at) (.cons (.same rfl) (.cons (.same rfl) .nil)) rfl) rfl ?_)
    | refine aops_nil ?_
    | refine lex_done _ rfl (by kernel_rfl) ?_
    | refine aw_ct rfl ?_
    | refine aw_cf rfl ?_
    | refine aw_block ?_
    | refine then_n ?_
    | refine aw_skip ?_
    | refine aw_exit ?_
    | refine then_x ?_
    | refine then_r ?_
    | refine block_x ?_
    | refine block_n ?_
    | refine block_r ?_
    | refine aw_ret ?_
  rw [hA]
  refine aw_cond rfl (fun h => by rw [kk3_pos h1] at h; cases h) (fun _ => ?_)
  repeat' first
    | refine aw_seq ?_
    | refine aw_region ?_
    | refine aw_lex [] ?_
    | (refine isA ?_; refine do_F rfl ?_)
    | (refine isL ?_; refine lex_F rfl (by kernel_rfl) rfl rfl ?_)
    | (refine isLg rfl ?_; refine lex_S rfl (by kernel_rfl) rfl rfl ?_)
    | (refine isAc 69 ?_; refine do_R rfl (st_call rfl (c_heldClientS (mkW 1 b) (kk 1 (3 * b.act.length)) (by rw [hW]; exact h2) mkC_at) (.cons (.same rfl) (.cons (.same rfl) .nil)) rfl) rfl ?_)
    | (refine isLc 69 rfl ?_; refine lex_R rfl (by kernel_rfl) rfl (st_call rfl (c_heldClientS (mkW 1 b) (kk 1 (3 * b.act.length)) (by rw [hW]; exact h2) mkC_at) (.cons (.same rfl) (.cons (.same rfl) .nil)) rfl) rfl ?_)
    | refine aops_nil ?_
    | refine lex_done _ rfl (by kernel_rfl) ?_
    | refine aw_ct rfl ?_
    | refine aw_cf rfl ?_
    | refine aw_block ?_
    | refine then_n ?_
    | refine aw_skip ?_
    | refine aw_exit ?_
    | refine then_x ?_
    | refine then_r ?_
    | refine block_x ?_
    | refine block_n ?_
    | refine block_r ?_
    | refine aw_ret ?_
  rw [hW]
  refine aw_cond rfl (fun h => by rw [show decide (kk (kk 1 (3 * b.act.length)) (3 * b.wait.length) < 0) = false from mkN_pos b h1 h2] at h; cases h) (fun _ => ?_)
  repeat' first
    | refine aw_seq ?_
    | refine aw_region ?_
    | refine aw_lex [] ?_
    | (refine isA ?_; refine do_F rfl ?_)
    | (refine isL ?_; refine lex_F rfl (by kernel_rfl) rfl rfl ?_)
    | (refine isLg rfl ?_; refine lex_S rfl (by kernel_rfl) rfl rfl ?_)
    | exact fin1 rfl rfl rfl
    | refine aops_nil ?_
    | refine lex_done _ rfl (by kernel_rfl) ?_
    | refine aw_ct rfl ?_
    | refine aw_cf rfl ?_
    | refine aw_block ?_
    | refine then_n ?_
    | refine aw_skip ?_
    | refine aw_exit ?_
    | refine then_x ?_
    | refine then_r ?_
    | refine block_x ?_
    | refine block_n ?_
    | refine block_r ?_
    | refine aw_ret ?_
end Go.Proofs.Ytjlhfemfmkdlhaa.Ab

/- BrkP -/
namespace Go.Proofs.Ytjlhfemfmkdlhaa.Ab
open Go.RowKit

/-- A broker and what stands beside it, as what is only read. -/
theorem pur_br {b : Br} {rest : List V} (hr : noHs rest = true) : Pur true (brK b.act b.wait) (.tup (.agg (brO b) :: rest)) (.tup (.agg (brE b) :: rest)) := by
  refine .tup (.cons (.agg (.cons (.same rfl) (.cons (.same rfl) (.cons (pur_l rfl rfl) (.cons (pur_l rfl rfl) .nil))))) ?_)
  induction rest with
  | nil => exact .nil
  | cons c cs ih =>
    simp only [noHs, Bool.and_eq_true] at hr
    exact .cons (.same hr.1) (ih hr.2)

theorem law_SetRequest (b : Br) (id n : Int) (ha : b.act.length ≤ 9223372036854775807) (hw : b.wait.length ≤ 9223372036854775807) : Meets Go.Proofs.Try.prog 9 [.agg (brE b), I id, I n] [] (B true) [] false := by
  refine meets_of [6] Go.Proofs.Try.func9 rfl rfl ?_
  simp only [Go.Proofs.Try.ntmps9, List.length_cons, List.length_nil, Nat.reduceAdd, Nat.reduceSub, List.replicate_succ, List.replicate_zero, List.cons_append, List.nil_append]
  repeat' first
    | refine aw_seq ?_
    | refine aw_region ?_
    | refine aw_lex [] ?_
    | (refine isA ?_; refine do_F rfl ?_)
    | (refine isL ?_; refine lex_F rfl (by kernel_rfl) rfl rfl ?_)
    | (refine isLg rfl ?_; refine lex_S rfl (by kernel_rfl) rfl rfl ?_)
    | (refine isAc 20 ?_; refine do_R rfl (st_call rfl (c_szBroker _ _) (.cons (.same rfl) (.cons (.same rfl) .nil)) rfl) rfl ?_)
    | (refine isLc 20 rfl ?_; refine lex_R rfl (by kernel_rfl) rfl (st_call rfl (c_szBroker _ _) (.cons (.same rfl) (.cons (.same rfl) .nil)) rfl) rfl ?_)
    | refine aops_nil ?_
    | refine lex_done _ rfl (by kernel_rfl) ?_
    | refine aw_ct rfl ?_
    | refine aw_cf rfl ?_
    | refine aw_block ?_
    | refine then_n ?_
    | refine aw_skip ?_
    | refine aw_exit ?_
    | refine then_x ?_
    | refine then_r ?_
    | refine block_x ?_
    | refine block_n ?_
    | refine block_r ?_
    | refine aw_ret ?_
  refine aw_cond rfl (fun h => ?_) (fun h => ?_)
  · repeat' first
      | refine aw_seq ?_
      | refine aw_region ?_
      | refine aw_lex [] ?_
      | (refine isA ?_; refine do_F rfl ?_)
      | (refine isL ?_; refine lex_F rfl (by kernel_rfl) rfl rfl ?_)
      | (refine isLg rfl ?_; refine lex_S rfl (by kernel_rfl) rfl rfl ?_)
      | exact fin1 rfl rfl rfl
      | refine aops_nil ?_
      | refine lex_done _ rfl (by kernel_rfl) ?_
      | refine aw_ct rfl ?_
      | refine aw_cf rfl ?_
      | refine aw_block ?_
      | refine then_n ?_
      | refine aw_skip ?_
      | refine aw_exit ?_
      | refine then_x ?_
      | refine then_r ?_
      | refine block_x ?_
      | refine block_n ?_
      | refine block_r ?_
      | refine aw_ret ?_
  · obtain ⟨h1, h2⟩ := sz_len ha hw h
    have g1 : b.act.length ≤ 1000000000 := by omega
    have g2 : b.wait.length ≤ 1000000000 := by omega
    obtain ⟨e1, e2⟩ := srV_len b id n
    have r1 : (srV b id n).1.act.length ≤ 1000000000 := by omega
    have r2 : (srV b id n).1.wait.length ≤ 1000000000 := by omega
    have hm := mkN_pos b g1 g2
    have hm' := mkN_pos (srV b id n).1 r1 r2
    have hA := mkA_len 1 (srV b id n).1
    have hW := mkW_len 1 (srV b id n).1
    repeat' first
      | refine aw_seq ?_
      | refine aw_region ?_
      | refine aw_lex [] ?_
      | (refine isA ?_; refine do_F rfl ?_)
      | (refine isL ?_; refine lex_F rfl (by kernel_rfl) rfl rfl ?_)
      | (refine isLg rfl ?_; refine lex_S rfl (by kernel_rfl) rfl rfl ?_)
      | (refine isAc 22 (x := #[.tmp 24]) ?_; refine do_R rfl (st_call rfl (c_toBroker _ g1 g2) (.cons (.same rfl) .nil) rfl) rfl ?_)
      | (refine isLc 22 (x := #[.tmp 24]) rfl ?_; refine lex_R rfl (by kernel_rfl) rfl (st_call rfl (c_toBroker _ g1 g2) (.cons (.same rfl) .nil) rfl) rfl ?_)
      | (refine isAc 35 ?_; refine do_R rfl (st_call rfl ((c_sset _ _ _ g1 g2).frozen (pur_br rfl)) (.cons (.same rfl) (.cons (.same rfl) (.cons (.same rfl) .nil))) rfl) rfl ?_)
      | (refine isLc 35 rfl ?_; refine lex_R rfl (by kernel_rfl) rfl (st_call rfl ((c_sset _ _ _ g1 g2).frozen (pur_br rfl)) (.cons (.same rfl) (.cons (.same rfl) (.cons (.same rfl) .nil))) rfl) rfl ?_)
      | (refine isAc 22 (x := #[.tmp 31]) ?_; refine do_R rfl (st_callK rfl (c_toBrokerO _ g1 g2) (.cons (.same rfl) .nil) (brK_noH _ _) rfl rfl) rfl ?_)
      | (refine isLc 22 (x := #[.tmp 31]) rfl ?_; refine lex_R rfl (by kernel_rfl) rfl (st_callK rfl (c_toBrokerO _ g1 g2) (.cons (.same rfl) .nil) (brK_noH _ _) rfl rfl) rfl ?_)
      | (refine isAc 36 ?_; refine do_R rfl (st_callK rfl (c_iset _ _ _ g1 g2) (.cons (.agg (.cons (.same rfl) (.cons (.same rfl) (.cons (pur_l rfl rfl) (.cons (pur_l rfl rfl) .nil))))) (.cons (.same rfl) (.cons (.same rfl) .nil))) (brK_noH _ _) rfl rfl) rfl ?_)
      | (refine isLc 36 rfl ?_; refine lex_R rfl (by kernel_rfl) rfl (st_callK rfl (c_iset _ _ _ g1 g2) (.cons (.agg (.cons (.same rfl) (.cons (.same rfl) (.cons (pur_l rfl rfl) (.cons (pur_l rfl rfl) .nil))))) (.cons (.same rfl) (.cons (.same rfl) .nil))) (brK_noH _ _) rfl rfl) rfl ?_)
      | (refine isAc 17 ?_; refine do_R rfl (st_call rfl (c_eqBroker (srV b id n).1 r1 r2) (.cons (.agg (.cons (.same rfl) (.cons (.same rfl) (.cons (pur_l rfl rfl) (.cons (pur_l rfl rfl) .nil))))) (.cons (.same rfl) .nil)) rfl) rfl ?_)
      | (refine isLc 17 rfl ?_; refine lex_R rfl (by kernel_rfl) rfl (st_call rfl (c_eqBroker (srV b id n).1 r1 r2) (.cons (.agg (.cons (.same rfl) (.cons (.same rfl) (.cons (pur_l rfl rfl) (.cons (pur_l rfl rfl) .nil))))) (.cons (.same rfl) .nil)) rfl) rfl ?_)
      | refine aops_nil ?_
      | refine lex_done _ rfl (by kernel_rfl) ?_
      | refine aw_ct rfl ?_
      | refine aw_cf rfl ?_
      | refine aw_block ?_
      | refine then_n ?_
      | refine aw_skip ?_
      | refine aw_exit ?_
      | refine then_x ?_
      | refine then_r ?_
      | refine block_x ?_
      | refine block_n ?_
      | refine block_r ?_
      | refine aw_ret ?_
    refine aw_cond rfl (fun h => by simp at h) (fun _ => ?_)
    repeat' first
      | refine aw_seq ?_
      | refine aw_region ?_
      | refine aw_lex [] ?_
      | (refine isA ?_; refine do_F rfl ?_)
      | (refine isL ?_; refine lex_F rfl (by kernel_rfl) rfl rfl ?_)
      | (refine isLg rfl ?_; refine lex_S rfl (by kernel_rfl) rfl rfl ?_)
      | (refine isAc 22 ?_; refine do_R rfl (st_call rfl (c_toBroker _ g1 g2) (.cons (.same rfl) .nil) rfl) rfl ?_)
      | (refine isLc 22 rfl ?_; refine lex_R rfl (by kernel_rfl) rfl (st_call rfl (c_toBroker _ g1 g2) (.cons (.same rfl) .nil) rfl) rfl ?_)
      | (refine isAc 17 ?_; refine do_R rfl (st_call rfl (c_eqBroker b g1 g2) (.cons (.agg (.cons (.same rfl) (.cons (.same rfl) (.cons (pur_l rfl rfl) (.cons (pur_l rfl rfl) .nil))))) (.cons (.same rfl) .nil)) rfl) rfl ?_)
      | (refine isLc 17 rfl ?_; refine lex_R rfl (by kernel_rfl) rfl (st_call rfl (c_eqBroker b g1 g2) (.cons (.agg (.cons (.same rfl) (.cons (.same rfl) (.cons (pur_l rfl rfl) (.cons (pur_l rfl rfl) .nil))))) (.cons (.same rfl) .nil)) rfl) rfl ?_)
      | (refine isAc 18 ?_; refine do_R rfl (step_callMs (K := []) (Rs' := brK (mkA 1 b) (mkW 1 b)) [2, 3] (by decide) rfl (c_markBroker b 1 g1 g2) (.cons rfl rfl rfl (flat_noH _ _) (flat_noH _ _) (.cons rfl rfl rfl (flat_noH _ _) (flat_noH _ _) .nil)) (.cons (.agg (.cons (.same rfl) (.cons (.same rfl) (.cons (.sl rfl) (.cons (.sl rfl) .nil))))) (.cons (.same rfl) .nil)) (fun q hq => by cases hq) rfl) rfl ?_)
      | (refine isLc 18 rfl ?_; refine lex_R rfl (by kernel_rfl) rfl (step_callMs (K := []) (Rs' := brK (mkA 1 b) (mkW 1 b)) [2, 3] (by decide) rfl (c_markBroker b 1 g1 g2) (.cons rfl rfl rfl (flat_noH _ _) (flat_noH _ _) (.cons rfl rfl rfl (flat_noH _ _) (flat_noH _ _) .nil)) (.cons (.agg (.cons (.same rfl) (.cons (.same rfl) (.cons (.sl rfl) (.cons (.sl rfl) .nil))))) (.cons (.same rfl) .nil)) (fun q hq => by cases hq) rfl) rfl ?_)
      | refine aops_nil ?_
      | refine lex_done _ rfl (by kernel_rfl) ?_
      | refine aw_ct rfl ?_
      | refine aw_cf rfl ?_
      | refine aw_block ?_
      | refine then_n ?_
      | refine aw_skip ?_
      | refine aw_exit ?_
      | refine then_x ?_
      | refine then_r ?_
      | refine block_x ?_
      | refine block_n ?_
      | refine block_r ?_
      | refine aw_ret ?_
    refine do_br rfl rfl (fun h => by rw [hm] at h; cases h) (fun _ => ?_)
    repeat' first
      | refine aw_seq ?_
      | refine aw_region ?_
      | refine aw_lex [] ?_
      | (refine isA ?_; refine do_F rfl ?_)
      | (refine isL ?_; refine lex_F rfl (by kernel_rfl) rfl rfl ?_)
      | (refine isLg rfl ?_; refine lex_S rfl (by kernel_rfl) rfl rfl ?_)
      | (refine isAc 17 ?_; refine do_R rfl (st_call rfl (c_eqBroker (srV b id n).1 r1 r2) (.cons (.agg (.cons (.same rfl) (.cons (.same rfl) (.cons (pur_l rfl rfl) (.cons (pur_l rfl rfl) .nil))))) (.cons (.same rfl) .nil)) rfl) rfl ?_)
      | (refine isLc 17 rfl ?_; refine lex_R rfl (by kernel_rfl) rfl (st_call rfl (c_eqBroker (srV b id n).1 r1 r2) (.cons (.agg (.cons (.same rfl) (.cons (.same rfl) (.cons (pur_l rfl rfl) (.cons (pur_l rfl rfl) .nil))))) (.cons (.same rfl) .nil)) rfl) rfl ?_)
      | refine aops_nil ?_
      | refine lex_done _ rfl (by kernel_rfl) ?_
      | refine aw_ct rfl ?_
      | refine aw_cf rfl ?_
      | refine aw_block ?_
      | refine then_n ?_
      | refine aw_skip ?_
      | refine aw_exit ?_
      | refine then_x ?_
      | refine then_r ?_
      | refine block_x ?_
      | refine block_n ?_
      | refine block_r ?_
      | refine aw_ret ?_
    refine aw_cond rfl (fun h => by simp at h) (fun _ => ?_)
    repeat' first
      | refine aw_seq ?_
      | refine aw_region ?_
      | refine aw_lex [] ?_
      | (refine isA ?_; refine do_F rfl ?_)
      | (refine isL ?_; refine lex_F rfl (by kernel_rfl) rfl rfl ?_)
      | (refine isLg rfl ?_; refine lex_S rfl (by kernel_rfl) rfl rfl ?_)
      | (refine isAc 18 ?_; refine do_R rfl (step_callMs (K := []) (Rs' := brK (mkA 1 (srV b id n).1) (mkW 1 (srV b id n).1)) [5, 6] (by decide) rfl (c_markBroker (srV b id n).1 1 r1 r2) (.cons rfl rfl rfl (flat_noH _ _) (flat_noH _ _) (.cons rfl rfl rfl (flat_noH _ _) (flat_noH _ _) .nil)) (.cons (.agg (.cons (.same rfl) (.cons (.same rfl) (.cons (.sl rfl) (.cons (.sl rfl) .nil))))) (.cons (.same rfl) .nil)) (fun q hq => by cases hq) rfl) rfl ?_)
      | (refine isLc 18 rfl ?_; refine lex_R rfl (by kernel_rfl) rfl (step_callMs (K := []) (Rs' := brK (mkA 1 (srV b id n).1) (mkW 1 (srV b id n).1)) [5, 6] (by decide) rfl (c_markBroker (srV b id n).1 1 r1 r2) (.cons rfl rfl rfl (flat_noH _ _) (flat_noH _ _) (.cons rfl rfl rfl (flat_noH _ _) (flat_noH _ _) .nil)) (.cons (.agg (.cons (.same rfl) (.cons (.same rfl) (.cons (.sl rfl) (.cons (.sl rfl) .nil))))) (.cons (.same rfl) .nil)) (fun q hq => by cases hq) rfl) rfl ?_)
      | (refine isAc 19 ?_; refine do_R rfl (st_call rfl (c_heldBroker (srV b id n).1 r1 r2) (.cons (.agg (.cons (.same rfl) (.cons (.same rfl) (.cons (pur_L rfl rfl rfl hA.symm) (.cons (pur_L rfl rfl rfl hW.symm) .nil))))) (.cons (.same rfl) .nil)) rfl) rfl ?_)
      | (refine isLc 19 rfl ?_; refine lex_R rfl (by kernel_rfl) rfl (st_call rfl (c_heldBroker (srV b id n).1 r1 r2) (.cons (.agg (.cons (.same rfl) (.cons (.same rfl) (.cons (pur_L rfl rfl rfl hA.symm) (.cons (pur_L rfl rfl rfl hW.symm) .nil))))) (.cons (.same rfl) .nil)) rfl) rfl ?_)
      | refine aops_nil ?_
      | refine lex_done _ rfl (by kernel_rfl) ?_
      | refine aw_ct rfl ?_
      | refine aw_cf rfl ?_
      | refine aw_block ?_
      | refine then_n ?_
      | refine aw_skip ?_
      | refine aw_exit ?_
      | refine then_x ?_
      | refine then_r ?_
      | refine block_x ?_
      | refine block_n ?_
      | refine block_r ?_
      | refine aw_ret ?_
    refine aw_cond rfl (fun h => by rw [hm'] at h; cases h) (fun _ => ?_)
    repeat' first
      | refine aw_seq ?_
      | refine aw_region ?_
      | refine aw_lex [] ?_
      | (refine isA ?_; refine do_F rfl ?_)
      | (refine isL ?_; refine lex_F rfl (by kernel_rfl) rfl rfl ?_)
      | (refine isLg rfl ?_; refine lex_S rfl (by kernel_rfl) rfl rfl ?_)
      | refine aops_nil ?_
      | refine lex_done _ rfl (by kernel_rfl) ?_
      | refine aw_ct rfl ?_
      | refine aw_cf rfl ?_
      | refine aw_block ?_
      | refine then_n ?_
      | refine aw_skip ?_
      | refine aw_exit ?_
      | refine then_x ?_
      | refine then_r ?_
      | refine block_x ?_
      | refine block_n ?_
      | refine block_r ?_
      | refine aw_ret ?_
    refine aw_cond rfl (fun h => by simp at h) (fun _ => ?_)
    repeat' first
      | refine aw_seq ?_
      | refine aw_region ?_
      | refine aw_lex [] ?_
      | (refine isA ?_; refine do_F rfl ?_)
      | (refine isL ?_; refine lex_F rfl (by kernel_rfl) rfl rfl ?_)
      | (refine isLg rfl ?_; refine lex_S rfl (by kernel_rfl) rfl rfl ?_)
      | (refine isAc 22 ?_; refine do_R rfl (st_call rfl (c_toBroker _ g1 g2) (.cons (.same rfl) .nil) rfl) rfl ?_)
      | (refine isLc 22 rfl ?_; refine lex_R rfl (by kernel_rfl) rfl (st_call rfl (c_toBroker _ g1 g2) (.cons (.same rfl) .nil) rfl) rfl ?_)
      | (refine isAc 36 ?_; refine do_R rfl (st_call rfl ((c_iset _ _ _ g1 g2).frozen (pur_br rfl)) (.cons (.same rfl) (.cons (.same rfl) (.cons (.same rfl) .nil))) rfl) rfl ?_)
      | (refine isLc 36 rfl ?_; refine lex_R rfl (by kernel_rfl) rfl (st_call rfl ((c_iset _ _ _ g1 g2).frozen (pur_br rfl)) (.cons (.same rfl) (.cons (.same rfl) (.cons (.same rfl) .nil))) rfl) rfl ?_)
      | (refine isAc 17 ?_; refine do_R rfl (st_call rfl (c_eqBroker (srV b id n).1 r1 r2) (.cons (.same rfl) (.cons (.same rfl) .nil)) rfl) rfl ?_)
      | (refine isLc 17 rfl ?_; refine lex_R rfl (by kernel_rfl) rfl (st_call rfl (c_eqBroker (srV b id n).1 r1 r2) (.cons (.same rfl) (.cons (.same rfl) .nil)) rfl) rfl ?_)
      | refine aops_nil ?_
      | refine lex_done _ rfl (by kernel_rfl) ?_
      | refine aw_ct rfl ?_
      | refine aw_cf rfl ?_
      | refine aw_block ?_
      | refine then_n ?_
      | refine aw_skip ?_
      | refine aw_exit ?_
      | refine then_x ?_
      | refine then_r ?_
      | refine block_x ?_
      | refine block_n ?_
      | refine block_r ?_
      | refine aw_ret ?_
    refine aw_cond rfl (fun h => by simp at h) (fun _ => ?_)
    repeat' first
      | refine aw_seq ?_
      | refine aw_region ?_
      | refine aw_lex [] ?_
      | (refine isA ?_; refine do_F rfl ?_)
      | (refine isL ?_; refine lex_F rfl (by kernel_rfl) rfl rfl ?_)
      | (refine isLg rfl ?_; refine lex_S rfl (by kernel_rfl) rfl rfl ?_)
      | (refine isAc 19 ?_; refine do_R rfl (st_call rfl (c_heldBroker (srV b id n).1 r1 r2) (.cons (.agg (.cons (.same rfl) (.cons (.same rfl) (.cons (pur_L rfl rfl rfl hA.symm) (.cons (pur_L rfl rfl rfl hW.symm) .nil))))) (.cons (.same rfl) .nil)) rfl) rfl ?_)
      | (refine isLc 19 rfl ?_; refine lex_R rfl (by kernel_rfl) rfl (st_call rfl (c_heldBroker (srV b id n).1 r1 r2) (.cons (.agg (.cons (.same rfl) (.cons (.same rfl) (.cons (pur_L rfl rfl rfl hA.symm) (.cons (pur_L rfl rfl rfl hW.symm) .nil))))) (.cons (.same rfl) .nil)) rfl) rfl ?_)
      | refine aops_nil ?_
      | refine lex_done _ rfl (by kernel_rfl) ?_
      | refine aw_ct rfl ?_
      | refine aw_cf rfl ?_
      | refine aw_block ?_
      | refine then_n ?_
      | refine aw_skip ?_
      | refine aw_exit ?_
      | refine then_x ?_
      | refine then_r ?_
      | refine block_x ?_
      | refine block_n ?_
      | refine block_r ?_
      | refine aw_ret ?_
    refine aw_cond rfl (fun h => by rw [hm'] at h; cases h) (fun _ => ?_)
    repeat' first
      | refine aw_seq ?_
      | refine aw_region ?_
      | refine aw_lex [] ?_
      | (refine isA ?_; refine do_F rfl ?_)
      | (refine isL ?_; refine lex_F rfl (by kernel_rfl) rfl rfl ?_)
      | (refine isLg rfl ?_; refine lex_S rfl (by kernel_rfl) rfl rfl ?_)
      | refine aops_nil ?_
      | refine lex_done _ rfl (by kernel_rfl) ?_
      | refine aw_ct rfl ?_
      | refine aw_cf rfl ?_
      | refine aw_block ?_
      | refine then_n ?_
      | refine aw_skip ?_
      | refine aw_exit ?_
      | refine then_x ?_
      | refine then_r ?_
      | refine block_x ?_
      | refine block_n ?_
      | refine block_r ?_
      | refine aw_ret ?_
    refine aw_cond rfl (fun h => by simp at h) (fun _ => ?_)
    repeat' first
      | refine aw_seq ?_
      | refine aw_region ?_
      | refine aw_lex [] ?_
      | (refine isA ?_; refine do_F rfl ?_)
      | (refine isL ?_; refine lex_F rfl (by kernel_rfl) rfl rfl ?_)
      | (refine isLg rfl ?_; refine lex_S rfl (by kernel_rfl) rfl rfl ?_)
      | exact fin1 rfl rfl rfl
      | refine aops_nil ?_
      | refine lex_done _ rfl (by kernel_rfl) ?_
      | refine aw_ct rfl ?_
      | refine aw_cf rfl ?_
      | refine aw_block ?_
      | refine then_n ?_
      | refine aw_skip ?_
      | refine aw_exit ?_
      | refine then_x ?_
      | refine then_r ?_
      | refine block_x ?_
      | refine block_n ?_
      | refine block_r ?_
      | refine aw_ret ?_
end Go.Proofs.Ytjlhfemfmkdlhaa.Ab

/- BrkR -/
namespace Go.Proofs.Ytjlhfemfmkdlhaa.Ab
open Go.RowKit

def badA (b : Br) (g r : Int) : Bool := !validB b || (!inV g 8 60 || (!inV r 0 9 || (decide (b.next = 1000) || decide ((b.wait.length : Int) = 5))))
def adV (b : Br) (g r : Int) : Br × Int × Bool := cond (badA b g r) (b, 0, false) (cond (decide ((b.act.length : Int) < roomV b.pool)) (⟨b.pool, IntKind.i64.wrap (b.next + 1), b.act ++ [⟨b.next, g, r⟩], b.wait⟩, b.next, true) (⟨b.pool, IntKind.i64.wrap (b.next + 1), b.act, b.wait ++ [⟨b.next, g, r⟩]⟩, b.next, true))
theorem ad_no {b : Br} {g r : Int} (h : badA b g r = true) : adV b g r = (b, 0, false) := by rw [adV, h]; rfl
theorem ad_act {b : Br} {g r : Int} (h : badA b g r = false) (h' : decide ((b.act.length : Int) < roomV b.pool) = true) : adV b g r = (⟨b.pool, IntKind.i64.wrap (b.next + 1), b.act ++ [⟨b.next, g, r⟩], b.wait⟩, b.next, true) := by rw [adV, h, h']; rfl
theorem ad_wait {b : Br} {g r : Int} (h : badA b g r = false) (h' : decide ((b.act.length : Int) < roomV b.pool) = false) : adV b g r = (⟨b.pool, IntKind.i64.wrap (b.next + 1), b.act, b.wait ++ [⟨b.next, g, r⟩]⟩, b.next, true) := by rw [adV, h, h']; rfl
theorem adV_len (b : Br) (g r : Int) : (adV b g r).1.act.length ≤ b.act.length + 1 ∧ (adV b g r).1.wait.length ≤ b.wait.length + 1 := by
  unfold adV
  cases badA b g r <;> cases decide ((b.act.length : Int) < roomV b.pool) <;> simp
abbrev adR (p : Br × Int × Bool) : V := .tup [.agg (brO p.1), I p.2.1, B p.2.2]

theorem c_sadd (b : Br) (g r : Int) (h1 : b.act.length ≤ 1000000000) (h2 : b.wait.length ≤ 1000000000) : Meets Go.Proofs.Try.prog 28 [.agg (brE b), I g, I r] [] (adR (adV b g r)) (brK (adV b g r).1.act (adV b g r).1.wait) false := by
  refine meets_ofCT 6 24 [7, 8] Go.Proofs.Try.func28 rfl rfl rfl ?_
  simp only [Go.Proofs.Try.ntmps28, List.length_cons, List.length_nil, Nat.reduceAdd, Nat.reduceSub, List.replicate_succ, List.replicate_zero, List.cons_append, List.nil_append]
  repeat' first
    | refine aw_seq ?_
    | refine aw_region ?_
    | refine aw_lex [] ?_
    | (refine isA ?_; refine do_F rfl ?_)
    | (refine isL ?_; refine lex_F rfl (by kernel_rfl) rfl rfl ?_)
    | (refine isLg rfl ?_; refine lex_S rfl (by kernel_rfl) rfl rfl ?_)
    | (refine isAc 79 ?_; refine do_R rfl (st_callK rfl (c_copy _ h1 h2) (.cons (.same rfl) .nil) (brK_noH _ _) rfl rfl) rfl ?_)
    | (refine isLc 79 rfl ?_; refine lex_R rfl (by kernel_rfl) rfl (st_callK rfl (c_copy _ h1 h2) (.cons (.same rfl) .nil) (brK_noH _ _) rfl rfl) rfl ?_)
    | (refine isAc 24 ?_; refine do_R rfl (st_call rfl (c_svalid _ h1 h2) (.cons (.same rfl) .nil) rfl) rfl ?_)
    | (refine isLc 24 rfl ?_; refine lex_R rfl (by kernel_rfl) rfl (st_call rfl (c_svalid _ h1 h2) (.cons (.same rfl) .nil) rfl) rfl ?_)
    | refine aops_nil ?_
    | refine lex_done _ rfl (by kernel_rfl) ?_
    | refine aw_ct rfl ?_
    | refine aw_cf rfl ?_
    | refine aw_block ?_
    | refine then_n ?_
    | refine aw_skip ?_
    | refine aw_exit ?_
    | refine then_x ?_
    | refine then_r ?_
    | refine block_x ?_
    | refine block_n ?_
    | refine block_r ?_
    | refine aw_ret ?_
  refine do_br rfl rfl (fun k1 => ?_) (fun k1 => ?_)
  · repeat' first
      | refine aw_seq ?_
      | refine aw_region ?_
      | refine aw_lex [] ?_
      | (refine isA ?_; refine do_F rfl ?_)
      | (refine isL ?_; refine lex_F rfl (by kernel_rfl) rfl rfl ?_)
      | (refine isLg rfl ?_; refine lex_S rfl (by kernel_rfl) rfl rfl ?_)
      | exact (by rw [ad_no (by simp [badA, k1])]; exact finMCTf [2, 3] (by decide) (cell_is rfl rfl rfl rfl rfl) (le_tup (les_cons (le_agg (les_cons (le_refl rfl) (les_cons (le_refl rfl) (les_cons (le_sl rfl rfl) (les_cons (le_sl rfl rfl) les_nil))))) (les_cons (le_refl rfl) (les_cons (le_refl rfl) les_nil)))) (.cons rfl rfl rfl rfl (les_eq rfl (flat_noH _ _)) (.cons rfl rfl rfl rfl (les_eq rfl (flat_noH _ _)) .nil)) rfl (brK_flat _ _))
      | refine aops_nil ?_
      | refine lex_done _ rfl (by kernel_rfl) ?_
      | refine aw_ct rfl ?_
      | refine aw_cf rfl ?_
      | refine aw_block ?_
      | refine then_n ?_
      | refine aw_skip ?_
      | refine aw_exit ?_
      | refine then_x ?_
      | refine then_r ?_
      | refine block_x ?_
      | refine block_n ?_
      | refine block_r ?_
      | refine aw_ret ?_
  repeat' first
    | refine aw_seq ?_
    | refine aw_region ?_
    | refine aw_lex [] ?_
    | (refine isA ?_; refine do_F rfl ?_)
    | (refine isL ?_; refine lex_F rfl (by kernel_rfl) rfl rfl ?_)
    | (refine isLg rfl ?_; refine lex_S rfl (by kernel_rfl) rfl rfl ?_)
    | (refine isAc 65 ?_; refine do_R rfl (st_call rfl (c_in _ _ _) (.cons (.same rfl) (.cons (.same rfl) (.cons (.same rfl) .nil))) rfl) rfl ?_)
    | (refine isLc 65 rfl ?_; refine lex_R rfl (by kernel_rfl) rfl (st_call rfl (c_in _ _ _) (.cons (.same rfl) (.cons (.same rfl) (.cons (.same rfl) .nil))) rfl) rfl ?_)
    | refine aops_nil ?_
    | refine lex_done _ rfl (by kernel_rfl) ?_
    | refine aw_ct rfl ?_
    | refine aw_cf rfl ?_
    | refine aw_block ?_
    | refine then_n ?_
    | refine aw_skip ?_
    | refine aw_exit ?_
    | refine then_x ?_
    | refine then_r ?_
    | refine block_x ?_
    | refine block_n ?_
    | refine block_r ?_
    | refine aw_ret ?_
  refine do_br rfl rfl (fun k2 => ?_) (fun k2 => ?_)
  · repeat' first
      | refine aw_seq ?_
      | refine aw_region ?_
      | refine aw_lex [] ?_
      | (refine isA ?_; refine do_F rfl ?_)
      | (refine isL ?_; refine lex_F rfl (by kernel_rfl) rfl rfl ?_)
      | (refine isLg rfl ?_; refine lex_S rfl (by kernel_rfl) rfl rfl ?_)
      | exact (by rw [ad_no (by simp [badA, k2])]; exact finMCTf [2, 3] (by decide) (cell_is rfl rfl rfl rfl rfl) (le_tup (les_cons (le_agg (les_cons (le_refl rfl) (les_cons (le_refl rfl) (les_cons (le_sl rfl rfl) (les_cons (le_sl rfl rfl) les_nil))))) (les_cons (le_refl rfl) (les_cons (le_refl rfl) les_nil)))) (.cons rfl rfl rfl rfl (les_eq rfl (flat_noH _ _)) (.cons rfl rfl rfl rfl (les_eq rfl (flat_noH _ _)) .nil)) rfl (brK_flat _ _))
      | refine aops_nil ?_
      | refine lex_done _ rfl (by kernel_rfl) ?_
      | refine aw_ct rfl ?_
      | refine aw_cf rfl ?_
      | refine aw_block ?_
      | refine then_n ?_
      | refine aw_skip ?_
      | refine aw_exit ?_
      | refine then_x ?_
      | refine then_r ?_
      | refine block_x ?_
      | refine block_n ?_
      | refine block_r ?_
      | refine aw_ret ?_
  repeat' first
    | refine aw_seq ?_
    | refine aw_region ?_
    | refine aw_lex [] ?_
    | (refine isA ?_; refine do_F rfl ?_)
    | (refine isL ?_; refine lex_F rfl (by kernel_rfl) rfl rfl ?_)
    | (refine isLg rfl ?_; refine lex_S rfl (by kernel_rfl) rfl rfl ?_)
    | (refine isAc 65 ?_; refine do_R rfl (st_call rfl (c_in _ _ _) (.cons (.same rfl) (.cons (.same rfl) (.cons (.same rfl) .nil))) rfl) rfl ?_)
    | (refine isLc 65 rfl ?_; refine lex_R rfl (by kernel_rfl) rfl (st_call rfl (c_in _ _ _) (.cons (.same rfl) (.cons (.same rfl) (.cons (.same rfl) .nil))) rfl) rfl ?_)
    | refine aops_nil ?_
    | refine lex_done _ rfl (by kernel_rfl) ?_
    | refine aw_ct rfl ?_
    | refine aw_cf rfl ?_
    | refine aw_block ?_
    | refine then_n ?_
    | refine aw_skip ?_
    | refine aw_exit ?_
    | refine then_x ?_
    | refine then_r ?_
    | refine block_x ?_
    | refine block_n ?_
    | refine block_r ?_
    | refine aw_ret ?_
  refine do_br rfl rfl (fun k3 => ?_) (fun k3 => ?_)
  · repeat' first
      | refine aw_seq ?_
      | refine aw_region ?_
      | refine aw_lex [] ?_
      | (refine isA ?_; refine do_F rfl ?_)
      | (refine isL ?_; refine lex_F rfl (by kernel_rfl) rfl rfl ?_)
      | (refine isLg rfl ?_; refine lex_S rfl (by kernel_rfl) rfl rfl ?_)
      | exact (by rw [ad_no (by simp [badA, k3])]; exact finMCTf [2, 3] (by decide) (cell_is rfl rfl rfl rfl rfl) (le_tup (les_cons (le_agg (les_cons (le_refl rfl) (les_cons (le_refl rfl) (les_cons (le_sl rfl rfl) (les_cons (le_sl rfl rfl) les_nil))))) (les_cons (le_refl rfl) (les_cons (le_refl rfl) les_nil)))) (.cons rfl rfl rfl rfl (les_eq rfl (flat_noH _ _)) (.cons rfl rfl rfl rfl (les_eq rfl (flat_noH _ _)) .nil)) rfl (brK_flat _ _))
      | refine aops_nil ?_
      | refine lex_done _ rfl (by kernel_rfl) ?_
      | refine aw_ct rfl ?_
      | refine aw_cf rfl ?_
      | refine aw_block ?_
      | refine then_n ?_
      | refine aw_skip ?_
      | refine aw_exit ?_
      | refine then_x ?_
      | refine then_r ?_
      | refine block_x ?_
      | refine block_n ?_
      | refine block_r ?_
      | refine aw_ret ?_
  repeat' first
    | refine aw_seq ?_
    | refine aw_region ?_
    | refine aw_lex [] ?_
    | (refine isA ?_; refine do_F rfl ?_)
    | (refine isL ?_; refine lex_F rfl (by kernel_rfl) rfl rfl ?_)
    | (refine isLg rfl ?_; refine lex_S rfl (by kernel_rfl) rfl rfl ?_)
    | (refine isAc 65 ?_; refine do_R rfl (st_call rfl (c_in _ _ _) (.cons (.same rfl) (.cons (.same rfl) (.cons (.same rfl) .nil))) rfl) rfl ?_)
    | (refine isLc 65 rfl ?_; refine lex_R rfl (by kernel_rfl) rfl (st_call rfl (c_in _ _ _) (.cons (.same rfl) (.cons (.same rfl) (.cons (.same rfl) .nil))) rfl) rfl ?_)
    | refine aops_nil ?_
    | refine lex_done _ rfl (by kernel_rfl) ?_
    | refine aw_ct rfl ?_
    | refine aw_cf rfl ?_
    | refine aw_block ?_
    | refine then_n ?_
    | refine aw_skip ?_
    | refine aw_exit ?_
    | refine then_x ?_
    | refine then_r ?_
    | refine block_x ?_
    | refine block_n ?_
    | refine block_r ?_
    | refine aw_ret ?_
  refine do_br rfl rfl (fun k4 => ?_) (fun k4 => ?_)
  · repeat' first
      | refine aw_seq ?_
      | refine aw_region ?_
      | refine aw_lex [] ?_
      | (refine isA ?_; refine do_F rfl ?_)
      | (refine isL ?_; refine lex_F rfl (by kernel_rfl) rfl rfl ?_)
      | (refine isLg rfl ?_; refine lex_S rfl (by kernel_rfl) rfl rfl ?_)
      | exact (by rw [ad_no (by simp [badA, k4])]; exact finMCTf [2, 3] (by decide) (cell_is rfl rfl rfl rfl rfl) (le_tup (les_cons (le_agg (les_cons (le_refl rfl) (les_cons (le_refl rfl) (les_cons (le_sl rfl rfl) (les_cons (le_sl rfl rfl) les_nil))))) (les_cons (le_refl rfl) (les_cons (le_refl rfl) les_nil)))) (.cons rfl rfl rfl rfl (les_eq rfl (flat_noH _ _)) (.cons rfl rfl rfl rfl (les_eq rfl (flat_noH _ _)) .nil)) rfl (brK_flat _ _))
      | refine aops_nil ?_
      | refine lex_done _ rfl (by kernel_rfl) ?_
      | refine aw_ct rfl ?_
      | refine aw_cf rfl ?_
      | refine aw_block ?_
      | refine then_n ?_
      | refine aw_skip ?_
      | refine aw_exit ?_
      | refine then_x ?_
      | refine then_r ?_
      | refine block_x ?_
      | refine block_n ?_
      | refine block_r ?_
      | refine aw_ret ?_
  repeat' first
    | refine aw_seq ?_
    | refine aw_region ?_
    | refine aw_lex [] ?_
    | (refine isA ?_; refine do_F rfl ?_)
    | (refine isL ?_; refine lex_F rfl (by kernel_rfl) rfl rfl ?_)
    | (refine isLg rfl ?_; refine lex_S rfl (by kernel_rfl) rfl rfl ?_)
    | (refine isAc 65 ?_; refine do_R rfl (st_call rfl (c_in _ _ _) (.cons (.same rfl) (.cons (.same rfl) (.cons (.same rfl) .nil))) rfl) rfl ?_)
    | (refine isLc 65 rfl ?_; refine lex_R rfl (by kernel_rfl) rfl (st_call rfl (c_in _ _ _) (.cons (.same rfl) (.cons (.same rfl) (.cons (.same rfl) .nil))) rfl) rfl ?_)
    | refine aops_nil ?_
    | refine lex_done _ rfl (by kernel_rfl) ?_
    | refine aw_ct rfl ?_
    | refine aw_cf rfl ?_
    | refine aw_block ?_
    | refine then_n ?_
    | refine aw_skip ?_
    | refine aw_exit ?_
    | refine then_x ?_
    | refine then_r ?_
    | refine block_x ?_
    | refine block_n ?_
    | refine block_r ?_
    | refine aw_ret ?_
  refine aw_cond rfl (fun k5 => ?_) (fun k5 => ?_)
  · repeat' first
      | refine aw_seq ?_
      | refine aw_region ?_
      | refine aw_lex [] ?_
      | (refine isA ?_; refine do_F rfl ?_)
      | (refine isL ?_; refine lex_F rfl (by kernel_rfl) rfl rfl ?_)
      | (refine isLg rfl ?_; refine lex_S rfl (by kernel_rfl) rfl rfl ?_)
      | exact (by rw [ad_no (by simp [badA, k5])]; exact finMCTf [2, 3] (by decide) (cell_is rfl rfl rfl rfl rfl) (le_tup (les_cons (le_agg (les_cons (le_refl rfl) (les_cons (le_refl rfl) (les_cons (le_sl rfl rfl) (les_cons (le_sl rfl rfl) les_nil))))) (les_cons (le_refl rfl) (les_cons (le_refl rfl) les_nil)))) (.cons rfl rfl rfl rfl (les_eq rfl (flat_noH _ _)) (.cons rfl rfl rfl rfl (les_eq rfl (flat_noH _ _)) .nil)) rfl (brK_flat _ _))
      | refine aops_nil ?_
      | refine lex_done _ rfl (by kernel_rfl) ?_
      | refine aw_ct rfl ?_
      | refine aw_cf rfl ?_
      | refine aw_block ?_
      | refine then_n ?_
      | refine aw_skip ?_
      | refine aw_exit ?_
      | refine then_x ?_
      | refine then_r ?_
      | refine block_x ?_
      | refine block_n ?_
      | refine block_r ?_
      | refine aw_ret ?_
  have hb : badA b g r = false := by first | ((try simp only [Bool.not_eq_true', Bool.not_eq_false'] at *); simp only [badA, *, Bool.true_and, Bool.false_and, Bool.and_true, Bool.and_false, Bool.true_or, Bool.false_or, Bool.or_true, Bool.or_false, Bool.not_true, Bool.not_false, cond_true, cond_false]; done) | (simp_all [badA]; done) | (simp_all [badA]; intros; omega)
  repeat' first
    | refine aw_seq ?_
    | refine aw_region ?_
    | refine aw_lex [] ?_
    | (refine isA ?_; refine do_F rfl ?_)
    | (refine isL ?_; refine lex_F rfl (by kernel_rfl) rfl rfl ?_)
    | (refine isLg rfl ?_; refine lex_S rfl (by kernel_rfl) rfl rfl ?_)
    | (refine isAc 74 ?_; refine do_R rfl (st_call rfl (c_room _) (.cons (.same rfl) .nil) rfl) rfl ?_)
    | (refine isLc 74 rfl ?_; refine lex_R rfl (by kernel_rfl) rfl (st_call rfl (c_room _) (.cons (.same rfl) .nil) rfl) rfl ?_)
    | refine aops_nil ?_
    | refine lex_done _ rfl (by kernel_rfl) ?_
    | refine aw_ct rfl ?_
    | refine aw_cf rfl ?_
    | refine aw_block ?_
    | refine then_n ?_
    | refine aw_skip ?_
    | refine aw_exit ?_
    | refine then_x ?_
    | refine then_r ?_
    | refine block_x ?_
    | refine block_n ?_
    | refine block_r ?_
    | refine aw_ret ?_
  refine aw_cond rfl (fun k6 => ?_) (fun k6 => ?_)
  · repeat' first
      | refine aw_seq ?_
      | refine aw_region ?_
      | (refine isA ?_; refine do_F rfl ?_)
      | (refine isL ?_; refine lex_F rfl (by kernel_rfl) rfl rfl ?_)
      | (refine isLg rfl ?_; refine lex_S rfl (by kernel_rfl) rfl rfl ?_)
      | (refine isAp ?_; refine do_R rfl (ap_l (t := clT) (xs := b.act) (ys := [⟨b.next, g, r⟩]) rfl rfl rfl rfl (src_of rfl rfl rfl rfl) (by simp; omega) rfl) rfl ?_)
      | (refine isLp rfl ?_; refine lex_R rfl (by kernel_rfl) rfl (ap_l (t := clT) (xs := b.act) (ys := [⟨b.next, g, r⟩]) rfl rfl rfl rfl (src_of rfl rfl rfl rfl) (by simp; omega) rfl) rfl ?_)
      | refine aops_nil ?_
      | refine lex_done _ rfl (by kernel_rfl) ?_
      | refine aw_ct rfl ?_
      | refine aw_cf rfl ?_
      | refine aw_block ?_
      | refine then_n ?_
      | refine aw_skip ?_
      | refine aw_exit ?_
      | refine then_x ?_
      | refine then_r ?_
      | refine block_x ?_
      | refine block_n ?_
      | refine block_r ?_
      | refine aw_ret ?_
    refine aw_perG2 4 5 6 rfl ?_
    refine perG_R 0 ⟨rfl, rfl⟩ rfl (by kernel_rfl) rfl (fun H hG => rd_ag rfl rfl (hG.1.trans rfl) rfl rfl rfl) rfl ?_
    refine perG_P 1 ⟨rfl, rfl⟩ rfl (by kernel_rfl) rfl (fun _ => rfl) rfl ?_
    refine perG_R 2 ⟨rfl, rfl⟩ rfl (by kernel_rfl) rfl (fun H hG => rd_sc rfl rfl (hG.2.trans rfl) rfl rfl) rfl ?_
    refine perG_1 3 (by kernel_rfl) ?_
    refine br_W rfl rfl (store_ok (m := 0) (T := tab) TabC.ok rfl rfl rfl rfl rfl rfl rfl rfl rfl rfl) ⟨rfl, rfl⟩ rfl ?_
    refine perG_P 4 ⟨rfl, rfl⟩ rfl (by kernel_rfl) rfl (fun _ => rfl) rfl ?_
    refine perG_P 5 ⟨rfl, rfl⟩ rfl (by kernel_rfl) rfl (fun _ => rfl) rfl ?_
    refine perG_done (by kernel_rfl) ?_
    repeat' first
      | refine aw_seq ?_
      | refine aw_region ?_
      | refine aw_lex [] ?_
      | (refine isA ?_; refine do_F rfl ?_)
      | (refine isL ?_; refine lex_F rfl (by kernel_rfl) rfl rfl ?_)
      | (refine isLg rfl ?_; refine lex_S rfl (by kernel_rfl) rfl rfl ?_)
      | exact (by rw [ad_act hb k6]; exact finMCTf [7, 3] (by decide) (cell_is rfl rfl rfl rfl rfl) (le_tup (les_cons (le_agg (les_cons (le_refl rfl) (les_cons (le_refl rfl) (les_cons (le_sl rfl rfl) (les_cons (le_sl rfl rfl) les_nil))))) (les_cons (le_refl rfl) (les_cons (le_refl rfl) les_nil)))) (.cons rfl rfl rfl rfl (les_eq rfl (flat_noH _ _)) (.cons rfl rfl rfl rfl (les_eq rfl (flat_noH _ _)) .nil)) rfl (brK_flat _ _))
      | refine aops_nil ?_
      | refine lex_done _ rfl (by kernel_rfl) ?_
      | refine aw_ct rfl ?_
      | refine aw_cf rfl ?_
      | refine aw_block ?_
      | refine then_n ?_
      | refine aw_skip ?_
      | refine aw_exit ?_
      | refine then_x ?_
      | refine then_r ?_
      | refine block_x ?_
      | refine block_n ?_
      | refine block_r ?_
      | refine aw_ret ?_
  · repeat' first
      | refine aw_seq ?_
      | refine aw_region ?_
      | (refine isA ?_; refine do_F rfl ?_)
      | (refine isL ?_; refine lex_F rfl (by kernel_rfl) rfl rfl ?_)
      | (refine isLg rfl ?_; refine lex_S rfl (by kernel_rfl) rfl rfl ?_)
      | (refine isAp ?_; refine do_R rfl (ap_l (t := clT) (xs := b.wait) (ys := [⟨b.next, g, r⟩]) rfl rfl rfl rfl (src_of rfl rfl rfl rfl) (by simp; omega) rfl) rfl ?_)
      | (refine isLp rfl ?_; refine lex_R rfl (by kernel_rfl) rfl (ap_l (t := clT) (xs := b.wait) (ys := [⟨b.next, g, r⟩]) rfl rfl rfl rfl (src_of rfl rfl rfl rfl) (by simp; omega) rfl) rfl ?_)
      | refine aops_nil ?_
      | refine lex_done _ rfl (by kernel_rfl) ?_
      | refine aw_ct rfl ?_
      | refine aw_cf rfl ?_
      | refine aw_block ?_
      | refine then_n ?_
      | refine aw_skip ?_
      | refine aw_exit ?_
      | refine then_x ?_
      | refine then_r ?_
      | refine block_x ?_
      | refine block_n ?_
      | refine block_r ?_
      | refine aw_ret ?_
    refine aw_perG2 4 5 6 rfl ?_
    refine perG_R 0 ⟨rfl, rfl⟩ rfl (by kernel_rfl) rfl (fun H hG => rd_ag rfl rfl (hG.1.trans rfl) rfl rfl rfl) rfl ?_
    refine perG_P 1 ⟨rfl, rfl⟩ rfl (by kernel_rfl) rfl (fun _ => rfl) rfl ?_
    refine perG_R 2 ⟨rfl, rfl⟩ rfl (by kernel_rfl) rfl (fun H hG => rd_sc rfl rfl (hG.2.trans rfl) rfl rfl) rfl ?_
    refine perG_1 3 (by kernel_rfl) ?_
    refine br_W rfl rfl (store_ok (m := 0) (T := tab) TabC.ok rfl rfl rfl rfl rfl rfl rfl rfl rfl rfl) ⟨rfl, rfl⟩ rfl ?_
    refine perG_P 4 ⟨rfl, rfl⟩ rfl (by kernel_rfl) rfl (fun _ => rfl) rfl ?_
    refine perG_P 5 ⟨rfl, rfl⟩ rfl (by kernel_rfl) rfl (fun _ => rfl) rfl ?_
    refine perG_done (by kernel_rfl) ?_
    repeat' first
      | refine aw_seq ?_
      | refine aw_region ?_
      | refine aw_lex [] ?_
      | (refine isA ?_; refine do_F rfl ?_)
      | (refine isL ?_; refine lex_F rfl (by kernel_rfl) rfl rfl ?_)
      | (refine isLg rfl ?_; refine lex_S rfl (by kernel_rfl) rfl rfl ?_)
      | exact (by rw [ad_wait hb k6]; exact finMCTf [2, 7] (by decide) (cell_is rfl rfl rfl rfl rfl) (le_tup (les_cons (le_agg (les_cons (le_refl rfl) (les_cons (le_refl rfl) (les_cons (le_sl rfl rfl) (les_cons (le_sl rfl rfl) les_nil))))) (les_cons (le_refl rfl) (les_cons (le_refl rfl) les_nil)))) (.cons rfl rfl rfl rfl (les_eq rfl (flat_noH _ _)) (.cons rfl rfl rfl rfl (les_eq rfl (flat_noH _ _)) .nil)) rfl (brK_flat _ _))
      | refine aops_nil ?_
      | refine lex_done _ rfl (by kernel_rfl) ?_
      | refine aw_ct rfl ?_
      | refine aw_cf rfl ?_
      | refine aw_block ?_
      | refine then_n ?_
      | refine aw_skip ?_
      | refine aw_exit ?_
      | refine then_x ?_
      | refine then_r ?_
      | refine block_x ?_
      | refine block_n ?_
      | refine block_r ?_
      | refine aw_ret ?_

theorem c_iadd (b : Br) (g r : Int) (h1 : b.act.length ≤ 1000000000) (h2 : b.wait.length ≤ 1000000000) : Meets Go.Proofs.Try.prog 29 [.agg (brE b), I g, I r] [] (adR (adV b g r)) (brK (adV b g r).1.act (adV b g r).1.wait) false := by
  refine meets_ofCT 6 24 [7, 8] Go.Proofs.Try.func29 rfl rfl rfl ?_
  simp only [Go.Proofs.Try.ntmps29, List.length_cons, List.length_nil, Nat.reduceAdd, Nat.reduceSub, List.replicate_succ, List.replicate_zero, List.cons_append, List.nil_append]
  repeat' first
    | refine aw_seq ?_
    | refine aw_region ?_
    | refine aw_lex [] ?_
    | (refine isA ?_; refine do_F rfl ?_)
    | (refine isL ?_; refine lex_F rfl (by kernel_rfl) rfl rfl ?_)
    | (refine isLg rfl ?_; refine lex_S rfl (by kernel_rfl) rfl rfl ?_)
    | (refine isAc 80 ?_; refine do_R rfl (st_callK rfl (c_clone _ h1 h2) (.cons (.same rfl) .nil) (brK_noH _ _) rfl rfl) rfl ?_)
    | (refine isLc 80 rfl ?_; refine lex_R rfl (by kernel_rfl) rfl (st_callK rfl (c_clone _ h1 h2) (.cons (.same rfl) .nil) (brK_noH _ _) rfl rfl) rfl ?_)
    | (refine isAc 25 ?_; refine do_R rfl (st_call rfl (c_ivalid _ h1 h2) (.cons (.same rfl) .nil) rfl) rfl ?_)
    | (refine isLc 25 rfl ?_; refine lex_R rfl (by kernel_rfl) rfl (st_call rfl (c_ivalid _ h1 h2) (.cons (.same rfl) .nil) rfl) rfl ?_)
    | refine aops_nil ?_
    | refine lex_done _ rfl (by kernel_rfl) ?_
    | refine aw_ct rfl ?_
    | refine aw_cf rfl ?_
    | refine aw_block ?_
    | refine then_n ?_
    | refine aw_skip ?_
    | refine aw_exit ?_
    | refine then_x ?_
    | refine then_r ?_
    | refine block_x ?_
    | refine block_n ?_
    | refine block_r ?_
    | refine aw_ret ?_
  refine do_br rfl rfl (fun k1 => ?_) (fun k1 => ?_)
  · repeat' first
      | refine aw_seq ?_
      | refine aw_region ?_
      | refine aw_lex [] ?_
      | (refine isA ?_; refine do_F rfl ?_)
      | (refine isL ?_; refine lex_F rfl (by kernel_rfl) rfl rfl ?_)
      | (refine isLg rfl ?_; refine lex_S rfl (by kernel_rfl) rfl rfl ?_)
      | exact (by rw [ad_no (by simp [badA, k1])]; exact finMCTf [2, 3] (by decide) (cell_is rfl rfl rfl rfl rfl) (le_tup (les_cons (le_agg (les_cons (le_refl rfl) (les_cons (le_refl rfl) (les_cons (le_sl rfl rfl) (les_cons (le_sl rfl rfl) les_nil))))) (les_cons (le_refl rfl) (les_cons (le_refl rfl) les_nil)))) (.cons rfl rfl rfl rfl (les_eq rfl (flat_noH _ _)) (.cons rfl rfl rfl rfl (les_eq rfl (flat_noH _ _)) .nil)) rfl (brK_flat _ _))
      | refine aops_nil ?_
      | refine lex_done _ rfl (by kernel_rfl) ?_
      | refine aw_ct rfl ?_
      | refine aw_cf rfl ?_
      | refine aw_block ?_
      | refine then_n ?_
      | refine aw_skip ?_
      | refine aw_exit ?_
      | refine then_x ?_
      | refine then_r ?_
      | refine block_x ?_
      | refine block_n ?_
      | refine block_r ?_
      | refine aw_ret ?_
  repeat' first
    | refine aw_seq ?_
    | refine aw_region ?_
    | refine aw_lex [] ?_
    | (refine isA ?_; refine do_F rfl ?_)
    | (refine isL ?_; refine lex_F rfl (by kernel_rfl) rfl rfl ?_)
    | (refine isLg rfl ?_; refine lex_S rfl (by kernel_rfl) rfl rfl ?_)
    | (refine isAc 66 ?_; refine do_R rfl (st_call rfl (c_within _ _ _) (.cons (.same rfl) (.cons (.same rfl) (.cons (.same rfl) .nil))) rfl) rfl ?_)
    | (refine isLc 66 rfl ?_; refine lex_R rfl (by kernel_rfl) rfl (st_call rfl (c_within _ _ _) (.cons (.same rfl) (.cons (.same rfl) (.cons (.same rfl) .nil))) rfl) rfl ?_)
    | (refine isAc 81 ?_; refine do_R rfl (st_call rfl (c_isGrant _) (.cons (.same rfl) .nil) rfl) rfl ?_)
    | (refine isLc 81 rfl ?_; refine lex_R rfl (by kernel_rfl) rfl (st_call rfl (c_isGrant _) (.cons (.same rfl) .nil) rfl) rfl ?_)
    | refine aops_nil ?_
    | refine lex_done _ rfl (by kernel_rfl) ?_
    | refine aw_ct rfl ?_
    | refine aw_cf rfl ?_
    | refine aw_block ?_
    | refine then_n ?_
    | refine aw_skip ?_
    | refine aw_exit ?_
    | refine then_x ?_
    | refine then_r ?_
    | refine block_x ?_
    | refine block_n ?_
    | refine block_r ?_
    | refine aw_ret ?_
  refine do_br rfl rfl (fun k2 => ?_) (fun k2 => ?_)
  · repeat' first
      | refine aw_seq ?_
      | refine aw_region ?_
      | refine aw_lex [] ?_
      | (refine isA ?_; refine do_F rfl ?_)
      | (refine isL ?_; refine lex_F rfl (by kernel_rfl) rfl rfl ?_)
      | (refine isLg rfl ?_; refine lex_S rfl (by kernel_rfl) rfl rfl ?_)
      | exact (by rw [ad_no (by simp [badA, k2])]; exact finMCTf [2, 3] (by decide) (cell_is rfl rfl rfl rfl rfl) (le_tup (les_cons (le_agg (les_cons (le_refl rfl) (les_cons (le_refl rfl) (les_cons (le_sl rfl rfl) (les_cons (le_sl rfl rfl) les_nil))))) (les_cons (le_refl rfl) (les_cons (le_refl rfl) les_nil)))) (.cons rfl rfl rfl rfl (les_eq rfl (flat_noH _ _)) (.cons rfl rfl rfl rfl (les_eq rfl (flat_noH _ _)) .nil)) rfl (brK_flat _ _))
      | refine aops_nil ?_
      | refine lex_done _ rfl (by kernel_rfl) ?_
      | refine aw_ct rfl ?_
      | refine aw_cf rfl ?_
      | refine aw_block ?_
      | refine then_n ?_
      | refine aw_skip ?_
      | refine aw_exit ?_
      | refine then_x ?_
      | refine then_r ?_
      | refine block_x ?_
      | refine block_n ?_
      | refine block_r ?_
      | refine aw_ret ?_
  repeat' first
    | refine aw_seq ?_
    | refine aw_region ?_
    | refine aw_lex [] ?_
    | (refine isA ?_; refine do_F rfl ?_)
    | (refine isL ?_; refine lex_F rfl (by kernel_rfl) rfl rfl ?_)
    | (refine isLg rfl ?_; refine lex_S rfl (by kernel_rfl) rfl rfl ?_)
    | (refine isAc 66 ?_; refine do_R rfl (st_call rfl (c_within _ _ _) (.cons (.same rfl) (.cons (.same rfl) (.cons (.same rfl) .nil))) rfl) rfl ?_)
    | (refine isLc 66 rfl ?_; refine lex_R rfl (by kernel_rfl) rfl (st_call rfl (c_within _ _ _) (.cons (.same rfl) (.cons (.same rfl) (.cons (.same rfl) .nil))) rfl) rfl ?_)
    | (refine isAc 81 ?_; refine do_R rfl (st_call rfl (c_isGrant _) (.cons (.same rfl) .nil) rfl) rfl ?_)
    | (refine isLc 81 rfl ?_; refine lex_R rfl (by kernel_rfl) rfl (st_call rfl (c_isGrant _) (.cons (.same rfl) .nil) rfl) rfl ?_)
    | refine aops_nil ?_
    | refine lex_done _ rfl (by kernel_rfl) ?_
    | refine aw_ct rfl ?_
    | refine aw_cf rfl ?_
    | refine aw_block ?_
    | refine then_n ?_
    | refine aw_skip ?_
    | refine aw_exit ?_
    | refine then_x ?_
    | refine then_r ?_
    | refine block_x ?_
    | refine block_n ?_
    | refine block_r ?_
    | refine aw_ret ?_
  refine do_br rfl rfl (fun k3 => ?_) (fun k3 => ?_)
  · repeat' first
      | refine aw_seq ?_
      | refine aw_region ?_
      | refine aw_lex [] ?_
      | (refine isA ?_; refine do_F rfl ?_)
      | (refine isL ?_; refine lex_F rfl (by kernel_rfl) rfl rfl ?_)
      | (refine isLg rfl ?_; refine lex_S rfl (by kernel_rfl) rfl rfl ?_)
      | exact (by rw [ad_no (by simp [badA, k3])]; exact finMCTf [2, 3] (by decide) (cell_is rfl rfl rfl rfl rfl) (le_tup (les_cons (le_agg (les_cons (le_refl rfl) (les_cons (le_refl rfl) (les_cons (le_sl rfl rfl) (les_cons (le_sl rfl rfl) les_nil))))) (les_cons (le_refl rfl) (les_cons (le_refl rfl) les_nil)))) (.cons rfl rfl rfl rfl (les_eq rfl (flat_noH _ _)) (.cons rfl rfl rfl rfl (les_eq rfl (flat_noH _ _)) .nil)) rfl (brK_flat _ _))
      | refine aops_nil ?_
      | refine lex_done _ rfl (by kernel_rfl) ?_
      | refine aw_ct rfl ?_
      | refine aw_cf rfl ?_
      | refine aw_block ?_
      | refine then_n ?_
      | refine aw_skip ?_
      | refine aw_exit ?_
      | refine then_x ?_
      | refine then_r ?_
      | refine block_x ?_
      | refine block_n ?_
      | refine block_r ?_
      | refine aw_ret ?_
  repeat' first
    | refine aw_seq ?_
    | refine aw_region ?_
    | refine aw_lex [] ?_
    | (refine isA ?_; refine do_F rfl ?_)
    | (refine isL ?_; refine lex_F rfl (by kernel_rfl) rfl rfl ?_)
    | (refine isLg rfl ?_; refine lex_S rfl (by kernel_rfl) rfl rfl ?_)
    | (refine isAc 66 ?_; refine do_R rfl (st_call rfl (c_within _ _ _) (.cons (.same rfl) (.cons (.same rfl) (.cons (.same rfl) .nil))) rfl) rfl ?_)
    | (refine isLc 66 rfl ?_; refine lex_R rfl (by kernel_rfl) rfl (st_call rfl (c_within _ _ _) (.cons (.same rfl) (.cons (.same rfl) (.cons (.same rfl) .nil))) rfl) rfl ?_)
    | (refine isAc 81 ?_; refine do_R rfl (st_call rfl (c_isGrant _) (.cons (.same rfl) .nil) rfl) rfl ?_)
    | (refine isLc 81 rfl ?_; refine lex_R rfl (by kernel_rfl) rfl (st_call rfl (c_isGrant _) (.cons (.same rfl) .nil) rfl) rfl ?_)
    | refine aops_nil ?_
    | refine lex_done _ rfl (by kernel_rfl) ?_
    | refine aw_ct rfl ?_
    | refine aw_cf rfl ?_
    | refine aw_block ?_
    | refine then_n ?_
    | refine aw_skip ?_
    | refine aw_exit ?_
    | refine then_x ?_
    | refine then_r ?_
    | refine block_x ?_
    | refine block_n ?_
    | refine block_r ?_
    | refine aw_ret ?_
  refine do_br rfl rfl (fun k4 => ?_) (fun k4 => ?_)
  · repeat' first
      | refine aw_seq ?_
      | refine aw_region ?_
      | refine aw_lex [] ?_
      | (refine isA ?_; refine do_F rfl ?_)
      | (refine isL ?_; refine lex_F rfl (by kernel_rfl) rfl rfl ?_)
      | (refine isLg rfl ?_; refine lex_S rfl (by kernel_rfl) rfl rfl ?_)
      | exact (by rw [ad_no (by simp [badA, k4])]; exact finMCTf [2, 3] (by decide) (cell_is rfl rfl rfl rfl rfl) (le_tup (les_cons (le_agg (les_cons (le_refl rfl) (les_cons (le_refl rfl) (les_cons (le_sl rfl rfl) (les_cons (le_sl rfl rfl) les_nil))))) (les_cons (le_refl rfl) (les_cons (le_refl rfl) les_nil)))) (.cons rfl rfl rfl rfl (les_eq rfl (flat_noH _ _)) (.cons rfl rfl rfl rfl (les_eq rfl (flat_noH _ _)) .nil)) rfl (brK_flat _ _))
      | refine aops_nil ?_
      | refine lex_done _ rfl (by kernel_rfl) ?_
      | refine aw_ct rfl ?_
      | refine aw_cf rfl ?_
      | refine aw_block ?_
      | refine then_n ?_
      | refine aw_skip ?_
      | refine aw_exit ?_
      | refine then_x ?_
      | refine then_r ?_
      | refine block_x ?_
      | refine block_n ?_
      | refine block_r ?_
      | refine aw_ret ?_
  repeat' first
    | refine aw_seq ?_
    | refine aw_region ?_
    | refine aw_lex [] ?_
    | (refine isA ?_; refine do_F rfl ?_)
    | (refine isL ?_; refine lex_F rfl (by kernel_rfl) rfl rfl ?_)
    | (refine isLg rfl ?_; refine lex_S rfl (by kernel_rfl) rfl rfl ?_)
    | (refine isAc 66 ?_; refine do_R rfl (st_call rfl (c_within _ _ _) (.cons (.same rfl) (.cons (.same rfl) (.cons (.same rfl) .nil))) rfl) rfl ?_)
    | (refine isLc 66 rfl ?_; refine lex_R rfl (by kernel_rfl) rfl (st_call rfl (c_within _ _ _) (.cons (.same rfl) (.cons (.same rfl) (.cons (.same rfl) .nil))) rfl) rfl ?_)
    | (refine isAc 81 ?_; refine do_R rfl (st_call rfl (c_isGrant _) (.cons (.same rfl) .nil) rfl) rfl ?_)
    | (refine isLc 81 rfl ?_; refine lex_R rfl (by kernel_rfl) rfl (st_call rfl (c_isGrant _) (.cons (.same rfl) .nil) rfl) rfl ?_)
    | refine aops_nil ?_
    | refine lex_done _ rfl (by kernel_rfl) ?_
    | refine aw_ct rfl ?_
    | refine aw_cf rfl ?_
    | refine aw_block ?_
    | refine then_n ?_
    | refine aw_skip ?_
    | refine aw_exit ?_
    | refine then_x ?_
    | refine then_r ?_
    | refine block_x ?_
    | refine block_n ?_
    | refine block_r ?_
    | refine aw_ret ?_
  refine aw_cond rfl (fun k5 => ?_) (fun k5 => ?_)
  · repeat' first
      | refine aw_seq ?_
      | refine aw_region ?_
      | refine aw_lex [] ?_
      | (refine isA ?_; refine do_F rfl ?_)
      | (refine isL ?_; refine lex_F rfl (by kernel_rfl) rfl rfl ?_)
      | (refine isLg rfl ?_; refine lex_S rfl (by kernel_rfl) rfl rfl ?_)
      | exact (by rw [ad_no (by simp [badA, k5])]; exact finMCTf [2, 3] (by decide) (cell_is rfl rfl rfl rfl rfl) (le_tup (les_cons (le_agg (les_cons (le_refl rfl) (les_cons (le_refl rfl) (les_cons (le_sl rfl rfl) (les_cons (le_sl rfl rfl) les_nil))))) (les_cons (le_refl rfl) (les_cons (le_refl rfl) les_nil)))) (.cons rfl rfl rfl rfl (les_eq rfl (flat_noH _ _)) (.cons rfl rfl rfl rfl (les_eq rfl (flat_noH _ _)) .nil)) rfl (brK_flat _ _))
      | refine aops_nil ?_
      | refine lex_done _ rfl (by kernel_rfl) ?_
      | refine aw_ct rfl ?_
      | refine aw_cf rfl ?_
      | refine aw_block ?_
      | refine then_n ?_
      | refine aw_skip ?_
      | refine aw_exit ?_
      | refine then_x ?_
      | refine then_r ?_
      | refine block_x ?_
      | refine block_n ?_
      | refine block_r ?_
      | refine aw_ret ?_
  have hb : badA b g r = false := by first | ((try simp only [Bool.not_eq_true', Bool.not_eq_false'] at *); simp only [badA, *, Bool.true_and, Bool.false_and, Bool.and_true, Bool.and_false, Bool.true_or, Bool.false_or, Bool.or_true, Bool.or_false, Bool.not_true, Bool.not_false, cond_true, cond_false]; done) | (simp_all [badA]; done) | (simp_all [badA]; intros; omega)
  repeat' first
    | refine aw_seq ?_
    | refine aw_region ?_
    | refine aw_lex [] ?_
    | (refine isA ?_; refine do_F rfl ?_)
    | (refine isL ?_; refine lex_F rfl (by kernel_rfl) rfl rfl ?_)
    | (refine isLg rfl ?_; refine lex_S rfl (by kernel_rfl) rfl rfl ?_)
    | (refine isAc 77 ?_; refine do_R rfl (st_call rfl (c_iroom ⟨b.pool, IntKind.i64.wrap (b.next + 1), b.act, b.wait⟩) (.cons (.agg (.cons (.same rfl) (.cons (.same rfl) (.cons (pur_l rfl rfl) (.cons (pur_l rfl rfl) .nil))))) .nil) rfl) rfl ?_)
    | (refine isLc 77 rfl ?_; refine lex_R rfl (by kernel_rfl) rfl (st_call rfl (c_iroom ⟨b.pool, IntKind.i64.wrap (b.next + 1), b.act, b.wait⟩) (.cons (.agg (.cons (.same rfl) (.cons (.same rfl) (.cons (pur_l rfl rfl) (.cons (pur_l rfl rfl) .nil))))) .nil) rfl) rfl ?_)
    | refine aops_nil ?_
    | refine lex_done _ rfl (by kernel_rfl) ?_
    | refine aw_ct rfl ?_
    | refine aw_cf rfl ?_
    | refine aw_block ?_
    | refine then_n ?_
    | refine aw_skip ?_
    | refine aw_exit ?_
    | refine then_x ?_
    | refine then_r ?_
    | refine block_x ?_
    | refine block_n ?_
    | refine block_r ?_
    | refine aw_ret ?_
  refine aw_cond rfl (fun k6 => ?_) (fun k6 => ?_)
  · repeat' first
      | refine aw_seq ?_
      | refine aw_region ?_
      | (refine isA ?_; refine do_F rfl ?_)
      | (refine isL ?_; refine lex_F rfl (by kernel_rfl) rfl rfl ?_)
      | (refine isLg rfl ?_; refine lex_S rfl (by kernel_rfl) rfl rfl ?_)
      | (refine isAp ?_; refine do_R rfl (ap_l (t := clT) (xs := b.act) (ys := [⟨b.next, g, r⟩]) rfl rfl rfl rfl (src_of rfl rfl rfl rfl) (by simp; omega) rfl) rfl ?_)
      | (refine isLp rfl ?_; refine lex_R rfl (by kernel_rfl) rfl (ap_l (t := clT) (xs := b.act) (ys := [⟨b.next, g, r⟩]) rfl rfl rfl rfl (src_of rfl rfl rfl rfl) (by simp; omega) rfl) rfl ?_)
      | refine aops_nil ?_
      | refine lex_done _ rfl (by kernel_rfl) ?_
      | refine aw_ct rfl ?_
      | refine aw_cf rfl ?_
      | refine aw_block ?_
      | refine then_n ?_
      | refine aw_skip ?_
      | refine aw_exit ?_
      | refine then_x ?_
      | refine then_r ?_
      | refine block_x ?_
      | refine block_n ?_
      | refine block_r ?_
      | refine aw_ret ?_
    refine aw_perG2 4 5 6 rfl ?_
    refine perG_R 0 ⟨rfl, rfl⟩ rfl (by kernel_rfl) rfl (fun H hG => rd_ag rfl rfl (hG.1.trans rfl) rfl rfl rfl) rfl ?_
    refine perG_P 1 ⟨rfl, rfl⟩ rfl (by kernel_rfl) rfl (fun _ => rfl) rfl ?_
    refine perG_R 2 ⟨rfl, rfl⟩ rfl (by kernel_rfl) rfl (fun H hG => rd_sc rfl rfl (hG.2.trans rfl) rfl rfl) rfl ?_
    refine perG_1 3 (by kernel_rfl) ?_
    refine br_W rfl rfl (store_ok (m := 0) (T := tab) TabC.ok rfl rfl rfl rfl rfl rfl rfl rfl rfl rfl) ⟨rfl, rfl⟩ rfl ?_
    refine perG_P 4 ⟨rfl, rfl⟩ rfl (by kernel_rfl) rfl (fun _ => rfl) rfl ?_
    refine perG_P 5 ⟨rfl, rfl⟩ rfl (by kernel_rfl) rfl (fun _ => rfl) rfl ?_
    refine perG_done (by kernel_rfl) ?_
    repeat' first
      | refine aw_seq ?_
      | refine aw_region ?_
      | refine aw_lex [] ?_
      | (refine isA ?_; refine do_F rfl ?_)
      | (refine isL ?_; refine lex_F rfl (by kernel_rfl) rfl rfl ?_)
      | (refine isLg rfl ?_; refine lex_S rfl (by kernel_rfl) rfl rfl ?_)
      | exact (by rw [ad_act hb k6]; exact finMCTf [7, 3] (by decide) (cell_is rfl rfl rfl rfl rfl) (le_tup (les_cons (le_agg (les_cons (le_refl rfl) (les_cons (le_refl rfl) (les_cons (le_sl rfl rfl) (les_cons (le_sl rfl rfl) les_nil))))) (les_cons (le_refl rfl) (les_cons (le_refl rfl) les_nil)))) (.cons rfl rfl rfl rfl (les_eq rfl (flat_noH _ _)) (.cons rfl rfl rfl rfl (les_eq rfl (flat_noH _ _)) .nil)) rfl (brK_flat _ _))
      | refine aops_nil ?_
      | refine lex_done _ rfl (by kernel_rfl) ?_
      | refine aw_ct rfl ?_
      | refine aw_cf rfl ?_
      | refine aw_block ?_
      | refine then_n ?_
      | refine aw_skip ?_
      | refine aw_exit ?_
      | refine then_x ?_
      | refine then_r ?_
      | refine block_x ?_
      | refine block_n ?_
      | refine block_r ?_
      | refine aw_ret ?_
  · repeat' first
      | refine aw_seq ?_
      | refine aw_region ?_
      | (refine isA ?_; refine do_F rfl ?_)
      | (refine isL ?_; refine lex_F rfl (by kernel_rfl) rfl rfl ?_)
      | (refine isLg rfl ?_; refine lex_S rfl (by kernel_rfl) rfl rfl ?_)
      | (refine isAp ?_; refine do_R rfl (ap_l (t := clT) (xs := b.wait) (ys := [⟨b.next, g, r⟩]) rfl rfl rfl rfl (src_of rfl rfl rfl rfl) (by simp; omega) rfl) rfl ?_)
      | (refine isLp rfl ?_; refine lex_R rfl (by kernel_rfl) rfl (ap_l (t := clT) (xs := b.wait) (ys := [⟨b.next, g, r⟩]) rfl rfl rfl rfl (src_of rfl rfl rfl rfl) (by simp; omega) rfl) rfl ?_)
      | refine aops_nil ?_
      | refine lex_done _ rfl (by kernel_rfl) ?_
      | refine aw_ct rfl ?_
      | refine aw_cf rfl ?_
      | refine aw_block ?_
      | refine then_n ?_
      | refine aw_skip ?_
      | refine aw_exit ?_
      | refine then_x ?_
      | refine then_r ?_
      | refine block_x ?_
      | refine block_n ?_
      | refine block_r ?_
      | refine aw_ret ?_
    refine aw_perG2 4 5 6 rfl ?_
    refine perG_R 0 ⟨rfl, rfl⟩ rfl (by kernel_rfl) rfl (fun H hG => rd_ag rfl rfl (hG.1.trans rfl) rfl rfl rfl) rfl ?_
    refine perG_P 1 ⟨rfl, rfl⟩ rfl (by kernel_rfl) rfl (fun _ => rfl) rfl ?_
    refine perG_R 2 ⟨rfl, rfl⟩ rfl (by kernel_rfl) rfl (fun H hG => rd_sc rfl rfl (hG.2.trans rfl) rfl rfl) rfl ?_
    refine perG_1 3 (by kernel_rfl) ?_
    refine br_W rfl rfl (store_ok (m := 0) (T := tab) TabC.ok rfl rfl rfl rfl rfl rfl rfl rfl rfl rfl) ⟨rfl, rfl⟩ rfl ?_
    refine perG_P 4 ⟨rfl, rfl⟩ rfl (by kernel_rfl) rfl (fun _ => rfl) rfl ?_
    refine perG_P 5 ⟨rfl, rfl⟩ rfl (by kernel_rfl) rfl (fun _ => rfl) rfl ?_
    refine perG_done (by kernel_rfl) ?_
    repeat' first
      | refine aw_seq ?_
      | refine aw_region ?_
      | refine aw_lex [] ?_
      | (refine isA ?_; refine do_F rfl ?_)
      | (refine isL ?_; refine lex_F rfl (by kernel_rfl) rfl rfl ?_)
      | (refine isLg rfl ?_; refine lex_S rfl (by kernel_rfl) rfl rfl ?_)
      | exact (by rw [ad_wait hb k6]; exact finMCTf [2, 7] (by decide) (cell_is rfl rfl rfl rfl rfl) (le_tup (les_cons (le_agg (les_cons (le_refl rfl) (les_cons (le_refl rfl) (les_cons (le_sl rfl rfl) (les_cons (le_sl rfl rfl) les_nil))))) (les_cons (le_refl rfl) (les_cons (le_refl rfl) les_nil)))) (.cons rfl rfl rfl rfl (les_eq rfl (flat_noH _ _)) (.cons rfl rfl rfl rfl (les_eq rfl (flat_noH _ _)) .nil)) rfl (brK_flat _ _))
      | refine aops_nil ?_
      | refine lex_done _ rfl (by kernel_rfl) ?_
      | refine aw_ct rfl ?_
      | refine aw_cf rfl ?_
      | refine aw_block ?_
      | refine then_n ?_
      | refine aw_skip ?_
      | refine aw_exit ?_
      | refine then_x ?_
      | refine then_r ?_
      | refine block_x ?_
      | refine block_n ?_
      | refine block_r ?_
      | refine aw_ret ?_
end Go.Proofs.Ytjlhfemfmkdlhaa.Ab

/- BrkS -/
namespace Go.Proofs.Ytjlhfemfmkdlhaa.Ab
open Go.RowKit

theorem law_AddClient (b : Br) (g r : Int) (ha : b.act.length ≤ 9223372036854775807) (hw : b.wait.length ≤ 9223372036854775807) : Meets Go.Proofs.Try.prog 7 [.agg (brE b), I g, I r] [] (B true) [] false := by
  refine meets_of [6] Go.Proofs.Try.func7 rfl rfl ?_
  simp only [Go.Proofs.Try.ntmps7, List.length_cons, List.length_nil, Nat.reduceAdd, Nat.reduceSub, List.replicate_succ, List.replicate_zero, List.cons_append, List.nil_append]
  repeat' first
    | refine aw_seq ?_
    | refine aw_region ?_
    | refine aw_lex [] ?_
    | (refine isA ?_; refine do_F rfl ?_)
    | (refine isL ?_; refine lex_F rfl (by kernel_rfl) rfl rfl ?_)
    | (refine isLg rfl ?_; refine lex_S rfl (by kernel_rfl) rfl rfl ?_)
    | (refine isAc 20 ?_; refine do_R rfl (st_call rfl (c_szBroker _ _) (.cons (.same rfl) (.cons (.same rfl) .nil)) rfl) rfl ?_)
    | (refine isLc 20 rfl ?_; refine lex_R rfl (by kernel_rfl) rfl (st_call rfl (c_szBroker _ _) (.cons (.same rfl) (.cons (.same rfl) .nil)) rfl) rfl ?_)
    | refine aops_nil ?_
    | refine lex_done _ rfl (by kernel_rfl) ?_
    | refine aw_ct rfl ?_
    | refine aw_cf rfl ?_
    | refine aw_block ?_
    | refine then_n ?_
    | refine aw_skip ?_
    | refine aw_exit ?_
    | refine then_x ?_
    | refine then_r ?_
    | refine block_x ?_
    | refine block_n ?_
    | refine block_r ?_
    | refine aw_ret ?_
  refine aw_cond rfl (fun h => ?_) (fun h => ?_)
  · repeat' first
      | refine aw_seq ?_
      | refine aw_region ?_
      | refine aw_lex [] ?_
      | (refine isA ?_; refine do_F rfl ?_)
      | (refine isL ?_; refine lex_F rfl (by kernel_rfl) rfl rfl ?_)
      | (refine isLg rfl ?_; refine lex_S rfl (by kernel_rfl) rfl rfl ?_)
      | exact fin1 rfl rfl rfl
      | refine aops_nil ?_
      | refine lex_done _ rfl (by kernel_rfl) ?_
      | refine aw_ct rfl ?_
      | refine aw_cf rfl ?_
      | refine aw_block ?_
      | refine then_n ?_
      | refine aw_skip ?_
      | refine aw_exit ?_
      | refine then_x ?_
      | refine then_r ?_
      | refine block_x ?_
      | refine block_n ?_
      | refine block_r ?_
      | refine aw_ret ?_
  · obtain ⟨h1, h2⟩ := sz_len ha hw h
    have g1 : b.act.length ≤ 1000000000 := by omega
    have g2 : b.wait.length ≤ 1000000000 := by omega
    obtain ⟨e1, e2⟩ := adV_len b g r
    have r1 : (adV b g r).1.act.length ≤ 1000000000 := by omega
    have r2 : (adV b g r).1.wait.length ≤ 1000000000 := by omega
    have hm := mkN_pos b g1 g2
    have hm' := mkN_pos (adV b g r).1 r1 r2
    have hA := mkA_len 1 (adV b g r).1
    have hW := mkW_len 1 (adV b g r).1
    repeat' first
      | refine aw_seq ?_
      | refine aw_region ?_
      | refine aw_lex [] ?_
      | (refine isA ?_; refine do_F rfl ?_)
      | (refine isL ?_; refine lex_F rfl (by kernel_rfl) rfl rfl ?_)
      | (refine isLg rfl ?_; refine lex_S rfl (by kernel_rfl) rfl rfl ?_)
      | (refine isAc 22 (x := #[.tmp 27]) ?_; refine do_R rfl (st_call rfl (c_toBroker _ g1 g2) (.cons (.same rfl) .nil) rfl) rfl ?_)
      | (refine isLc 22 (x := #[.tmp 27]) rfl ?_; refine lex_R rfl (by kernel_rfl) rfl (st_call rfl (c_toBroker _ g1 g2) (.cons (.same rfl) .nil) rfl) rfl ?_)
      | (refine isAc 28 ?_; refine do_R rfl (st_call rfl ((c_sadd _ _ _ g1 g2).frozen (pur_br rfl)) (.cons (.same rfl) (.cons (.same rfl) (.cons (.same rfl) .nil))) rfl) rfl ?_)
      | (refine isLc 28 rfl ?_; refine lex_R rfl (by kernel_rfl) rfl (st_call rfl ((c_sadd _ _ _ g1 g2).frozen (pur_br rfl)) (.cons (.same rfl) (.cons (.same rfl) (.cons (.same rfl) .nil))) rfl) rfl ?_)
      | (refine isAc 22 (x := #[.tmp 35]) ?_; refine do_R rfl (st_callK rfl (c_toBrokerO _ g1 g2) (.cons (.same rfl) .nil) (brK_noH _ _) rfl rfl) rfl ?_)
      | (refine isLc 22 (x := #[.tmp 35]) rfl ?_; refine lex_R rfl (by kernel_rfl) rfl (st_callK rfl (c_toBrokerO _ g1 g2) (.cons (.same rfl) .nil) (brK_noH _ _) rfl rfl) rfl ?_)
      | (refine isAc 29 ?_; refine do_R rfl (st_callK rfl (c_iadd _ _ _ g1 g2) (.cons (.agg (.cons (.same rfl) (.cons (.same rfl) (.cons (pur_l rfl rfl) (.cons (pur_l rfl rfl) .nil))))) (.cons (.same rfl) (.cons (.same rfl) .nil))) (brK_noH _ _) rfl rfl) rfl ?_)
      | (refine isLc 29 rfl ?_; refine lex_R rfl (by kernel_rfl) rfl (st_callK rfl (c_iadd _ _ _ g1 g2) (.cons (.agg (.cons (.same rfl) (.cons (.same rfl) (.cons (pur_l rfl rfl) (.cons (pur_l rfl rfl) .nil))))) (.cons (.same rfl) (.cons (.same rfl) .nil))) (brK_noH _ _) rfl rfl) rfl ?_)
      | (refine isAc 17 ?_; refine do_R rfl (st_call rfl (c_eqBroker (adV b g r).1 r1 r2) (.cons (.agg (.cons (.same rfl) (.cons (.same rfl) (.cons (pur_l rfl rfl) (.cons (pur_l rfl rfl) .nil))))) (.cons (.same rfl) .nil)) rfl) rfl ?_)
      | (refine isLc 17 rfl ?_; refine lex_R rfl (by kernel_rfl) rfl (st_call rfl (c_eqBroker (adV b g r).1 r1 r2) (.cons (.agg (.cons (.same rfl) (.cons (.same rfl) (.cons (pur_l rfl rfl) (.cons (pur_l rfl rfl) .nil))))) (.cons (.same rfl) .nil)) rfl) rfl ?_)
      | refine aops_nil ?_
      | refine lex_done _ rfl (by kernel_rfl) ?_
      | refine aw_ct rfl ?_
      | refine aw_cf rfl ?_
      | refine aw_block ?_
      | refine then_n ?_
      | refine aw_skip ?_
      | refine aw_exit ?_
      | refine then_x ?_
      | refine then_r ?_
      | refine block_x ?_
      | refine block_n ?_
      | refine block_r ?_
      | refine aw_ret ?_
    refine do_br rfl rfl (fun h => by simp at h) (fun _ => ?_)
    repeat' first
      | refine aw_seq ?_
      | refine aw_region ?_
      | refine aw_lex [] ?_
      | (refine isA ?_; refine do_F rfl ?_)
      | (refine isL ?_; refine lex_F rfl (by kernel_rfl) rfl rfl ?_)
      | (refine isLg rfl ?_; refine lex_S rfl (by kernel_rfl) rfl rfl ?_)
      | refine aops_nil ?_
      | refine lex_done _ rfl (by kernel_rfl) ?_
      | refine aw_ct rfl ?_
      | refine aw_cf rfl ?_
      | refine aw_block ?_
      | refine then_n ?_
      | refine aw_skip ?_
      | refine aw_exit ?_
      | refine then_x ?_
      | refine then_r ?_
      | refine block_x ?_
      | refine block_n ?_
      | refine block_r ?_
      | refine aw_ret ?_
    refine aw_cond rfl (fun h => by simp at h) (fun _ => ?_)
    repeat' first
      | refine aw_seq ?_
      | refine aw_region ?_
      | refine aw_lex [] ?_
      | (refine isA ?_; refine do_F rfl ?_)
      | (refine isL ?_; refine lex_F rfl (by kernel_rfl) rfl rfl ?_)
      | (refine isLg rfl ?_; refine lex_S rfl (by kernel_rfl) rfl rfl ?_)
      | (refine isAc 22 ?_; refine do_R rfl (st_call rfl (c_toBroker _ g1 g2) (.cons (.same rfl) .nil) rfl) rfl ?_)
      | (refine isLc 22 rfl ?_; refine lex_R rfl (by kernel_rfl) rfl (st_call rfl (c_toBroker _ g1 g2) (.cons (.same rfl) .nil) rfl) rfl ?_)
      | (refine isAc 17 ?_; refine do_R rfl (st_call rfl (c_eqBroker b g1 g2) (.cons (.agg (.cons (.same rfl) (.cons (.same rfl) (.cons (pur_l rfl rfl) (.cons (pur_l rfl rfl) .nil))))) (.cons (.same rfl) .nil)) rfl) rfl ?_)
      | (refine isLc 17 rfl ?_; refine lex_R rfl (by kernel_rfl) rfl (st_call rfl (c_eqBroker b g1 g2) (.cons (.agg (.cons (.same rfl) (.cons (.same rfl) (.cons (pur_l rfl rfl) (.cons (pur_l rfl rfl) .nil))))) (.cons (.same rfl) .nil)) rfl) rfl ?_)
      | (refine isAc 18 ?_; refine do_R rfl (step_callMs (K := []) (Rs' := brK (mkA 1 b) (mkW 1 b)) [2, 3] (by decide) rfl (c_markBroker b 1 g1 g2) (.cons rfl rfl rfl (flat_noH _ _) (flat_noH _ _) (.cons rfl rfl rfl (flat_noH _ _) (flat_noH _ _) .nil)) (.cons (.agg (.cons (.same rfl) (.cons (.same rfl) (.cons (.sl rfl) (.cons (.sl rfl) .nil))))) (.cons (.same rfl) .nil)) (fun q hq => by cases hq) rfl) rfl ?_)
      | (refine isLc 18 rfl ?_; refine lex_R rfl (by kernel_rfl) rfl (step_callMs (K := []) (Rs' := brK (mkA 1 b) (mkW 1 b)) [2, 3] (by decide) rfl (c_markBroker b 1 g1 g2) (.cons rfl rfl rfl (flat_noH _ _) (flat_noH _ _) (.cons rfl rfl rfl (flat_noH _ _) (flat_noH _ _) .nil)) (.cons (.agg (.cons (.same rfl) (.cons (.same rfl) (.cons (.sl rfl) (.cons (.sl rfl) .nil))))) (.cons (.same rfl) .nil)) (fun q hq => by cases hq) rfl) rfl ?_)
      | refine aops_nil ?_
      | refine lex_done _ rfl (by kernel_rfl) ?_
      | refine aw_ct rfl ?_
      | refine aw_cf rfl ?_
      | refine aw_block ?_
      | refine then_n ?_
      | refine aw_skip ?_
      | refine aw_exit ?_
      | refine then_x ?_
      | refine then_r ?_
      | refine block_x ?_
      | refine block_n ?_
      | refine block_r ?_
      | refine aw_ret ?_
    refine do_br rfl rfl (fun h => by rw [hm] at h; cases h) (fun _ => ?_)
    repeat' first
      | refine aw_seq ?_
      | refine aw_region ?_
      | refine aw_lex [] ?_
      | (refine isA ?_; refine do_F rfl ?_)
      | (refine isL ?_; refine lex_F rfl (by kernel_rfl) rfl rfl ?_)
      | (refine isLg rfl ?_; refine lex_S rfl (by kernel_rfl) rfl rfl ?_)
      | (refine isAc 17 ?_; refine do_R rfl (st_call rfl (c_eqBroker (adV b g r).1 r1 r2) (.cons (.agg (.cons (.same rfl) (.cons (.same rfl) (.cons (pur_l rfl rfl) (.cons (pur_l rfl rfl) .nil))))) (.cons (.same rfl) .nil)) rfl) rfl ?_)
      | (refine isLc 17 rfl ?_; refine lex_R rfl (by kernel_rfl) rfl (st_call rfl (c_eqBroker (adV b g r).1 r1 r2) (.cons (.agg (.cons (.same rfl) (.cons (.same rfl) (.cons (pur_l rfl rfl) (.cons (pur_l rfl rfl) .nil))))) (.cons (.same rfl) .nil)) rfl) rfl ?_)
      | refine aops_nil ?_
      | refine lex_done _ rfl (by kernel_rfl) ?_
      | refine aw_ct rfl ?_
      | refine aw_cf rfl ?_
      | refine aw_block ?_
      | refine then_n ?_
      | refine aw_skip ?_
      | refine aw_exit ?_
      | refine then_x ?_
      | refine then_r ?_
      | refine block_x ?_
      | refine block_n ?_
      | refine block_r ?_
      | refine aw_ret ?_
    refine do_br rfl rfl (fun h => by simp at h) (fun _ => ?_)
    repeat' first
      | refine aw_seq ?_
      | refine aw_region ?_
      | refine aw_lex [] ?_
      | (refine isA ?_; refine do_F rfl ?_)
      | (refine isL ?_; refine lex_F rfl (by kernel_rfl) rfl rfl ?_)
      | (refine isLg rfl ?_; refine lex_S rfl (by kernel_rfl) rfl rfl ?_)
      | refine aops_nil ?_
      | refine lex_done _ rfl (by kernel_rfl) ?_
      | refine aw_ct rfl ?_
      | refine aw_cf rfl ?_
      | refine aw_block ?_
      | refine then_n ?_
      | refine aw_skip ?_
      | refine aw_exit ?_
      | refine then_x ?_
      | refine then_r ?_
      | refine block_x ?_
      | refine block_n ?_
      | refine block_r ?_
      | refine aw_ret ?_
    refine aw_cond rfl (fun h => by simp at h) (fun _ => ?_)
    repeat' first
      | refine aw_seq ?_
      | refine aw_region ?_
      | refine aw_lex [] ?_
      | (refine isA ?_; refine do_F rfl ?_)
      | (refine isL ?_; refine lex_F rfl (by kernel_rfl) rfl rfl ?_)
      | (refine isLg rfl ?_; refine lex_S rfl (by kernel_rfl) rfl rfl ?_)
      | (refine isAc 18 ?_; refine do_R rfl (step_callMs (K := []) (Rs' := brK (mkA 1 (adV b g r).1) (mkW 1 (adV b g r).1)) [5, 6] (by decide) rfl (c_markBroker (adV b g r).1 1 r1 r2) (.cons rfl rfl rfl (flat_noH _ _) (flat_noH _ _) (.cons rfl rfl rfl (flat_noH _ _) (flat_noH _ _) .nil)) (.cons (.agg (.cons (.same rfl) (.cons (.same rfl) (.cons (.sl rfl) (.cons (.sl rfl) .nil))))) (.cons (.same rfl) .nil)) (fun q hq => by cases hq) rfl) rfl ?_)
      | (refine isLc 18 rfl ?_; refine lex_R rfl (by kernel_rfl) rfl (step_callMs (K := []) (Rs' := brK (mkA 1 (adV b g r).1) (mkW 1 (adV b g r).1)) [5, 6] (by decide) rfl (c_markBroker (adV b g r).1 1 r1 r2) (.cons rfl rfl rfl (flat_noH _ _) (flat_noH _ _) (.cons rfl rfl rfl (flat_noH _ _) (flat_noH _ _) .nil)) (.cons (.agg (.cons (.same rfl) (.cons (.same rfl) (.cons (.sl rfl) (.cons (.sl rfl) .nil))))) (.cons (.same rfl) .nil)) (fun q hq => by cases hq) rfl) rfl ?_)
      | (refine isAc 19 ?_; refine do_R rfl (st_call rfl (c_heldBroker (adV b g r).1 r1 r2) (.cons (.agg (.cons (.same rfl) (.cons (.same rfl) (.cons (pur_L rfl rfl rfl hA.symm) (.cons (pur_L rfl rfl rfl hW.symm) .nil))))) (.cons (.same rfl) .nil)) rfl) rfl ?_)
      | (refine isLc 19 rfl ?_; refine lex_R rfl (by kernel_rfl) rfl (st_call rfl (c_heldBroker (adV b g r).1 r1 r2) (.cons (.agg (.cons (.same rfl) (.cons (.same rfl) (.cons (pur_L rfl rfl rfl hA.symm) (.cons (pur_L rfl rfl rfl hW.symm) .nil))))) (.cons (.same rfl) .nil)) rfl) rfl ?_)
      | refine aops_nil ?_
      | refine lex_done _ rfl (by kernel_rfl) ?_
      | refine aw_ct rfl ?_
      | refine aw_cf rfl ?_
      | refine aw_block ?_
      | refine then_n ?_
      | refine aw_skip ?_
      | refine aw_exit ?_
      | refine then_x ?_
      | refine then_r ?_
      | refine block_x ?_
      | refine block_n ?_
      | refine block_r ?_
      | refine aw_ret ?_
    refine aw_cond rfl (fun h => by rw [hm'] at h; cases h) (fun _ => ?_)
    repeat' first
      | refine aw_seq ?_
      | refine aw_region ?_
      | refine aw_lex [] ?_
      | (refine isA ?_; refine do_F rfl ?_)
      | (refine isL ?_; refine lex_F rfl (by kernel_rfl) rfl rfl ?_)
      | (refine isLg rfl ?_; refine lex_S rfl (by kernel_rfl) rfl rfl ?_)
      | refine aops_nil ?_
      | refine lex_done _ rfl (by kernel_rfl) ?_
      | refine aw_ct rfl ?_
      | refine aw_cf rfl ?_
      | refine aw_block ?_
      | refine then_n ?_
      | refine aw_skip ?_
      | refine aw_exit ?_
      | refine then_x ?_
      | refine then_r ?_
      | refine block_x ?_
      | refine block_n ?_
      | refine block_r ?_
      | refine aw_ret ?_
    refine aw_cond rfl (fun h => by simp at h) (fun _ => ?_)
    repeat' first
      | refine aw_seq ?_
      | refine aw_region ?_
      | refine aw_lex [] ?_
      | (refine isA ?_; refine do_F rfl ?_)
      | (refine isL ?_; refine lex_F rfl (by kernel_rfl) rfl rfl ?_)
      | (refine isLg rfl ?_; refine lex_S rfl (by kernel_rfl) rfl rfl ?_)
      | (refine isAc 22 ?_; refine do_R rfl (st_call rfl (c_toBroker _ g1 g2) (.cons (.same rfl) .nil) rfl) rfl ?_)
      | (refine isLc 22 rfl ?_; refine lex_R rfl (by kernel_rfl) rfl (st_call rfl (c_toBroker _ g1 g2) (.cons (.same rfl) .nil) rfl) rfl ?_)
      | (refine isAc 29 ?_; refine do_R rfl (st_call rfl ((c_iadd _ _ _ g1 g2).frozen (pur_br rfl)) (.cons (.same rfl) (.cons (.same rfl) (.cons (.same rfl) .nil))) rfl) rfl ?_)
      | (refine isLc 29 rfl ?_; refine lex_R rfl (by kernel_rfl) rfl (st_call rfl ((c_iadd _ _ _ g1 g2).frozen (pur_br rfl)) (.cons (.same rfl) (.cons (.same rfl) (.cons (.same rfl) .nil))) rfl) rfl ?_)
      | (refine isAc 17 ?_; refine do_R rfl (st_call rfl (c_eqBroker (adV b g r).1 r1 r2) (.cons (.same rfl) (.cons (.same rfl) .nil)) rfl) rfl ?_)
      | (refine isLc 17 rfl ?_; refine lex_R rfl (by kernel_rfl) rfl (st_call rfl (c_eqBroker (adV b g r).1 r1 r2) (.cons (.same rfl) (.cons (.same rfl) .nil)) rfl) rfl ?_)
      | refine aops_nil ?_
      | refine lex_done _ rfl (by kernel_rfl) ?_
      | refine aw_ct rfl ?_
      | refine aw_cf rfl ?_
      | refine aw_block ?_
      | refine then_n ?_
      | refine aw_skip ?_
      | refine aw_exit ?_
      | refine then_x ?_
      | refine then_r ?_
      | refine block_x ?_
      | refine block_n ?_
      | refine block_r ?_
      | refine aw_ret ?_
    refine do_br rfl rfl (fun h => by simp at h) (fun _ => ?_)
    repeat' first
      | refine aw_seq ?_
      | refine aw_region ?_
      | refine aw_lex [] ?_
      | (refine isA ?_; refine do_F rfl ?_)
      | (refine isL ?_; refine lex_F rfl (by kernel_rfl) rfl rfl ?_)
      | (refine isLg rfl ?_; refine lex_S rfl (by kernel_rfl) rfl rfl ?_)
      | refine aops_nil ?_
      | refine lex_done _ rfl (by kernel_rfl) ?_
      | refine aw_ct rfl ?_
      | refine aw_cf rfl ?_
      | refine aw_block ?_
      | refine then_n ?_
      | refine aw_skip ?_
      | refine aw_exit ?_
      | refine then_x ?_
      | refine then_r ?_
      | refine block_x ?_
      | refine block_n ?_
      | refine block_r ?_
      | refine aw_ret ?_
    refine aw_cond rfl (fun h => by simp at h) (fun _ => ?_)
    repeat' first
      | refine aw_seq ?_
      | refine aw_region ?_
      | refine aw_lex [] ?_
      | (refine isA ?_; refine do_F rfl ?_)
      | (refine isL ?_; refine lex_F rfl (by kernel_rfl) rfl rfl ?_)
      | (refine isLg rfl ?_; refine lex_S rfl (by kernel_rfl) rfl rfl ?_)
      | (refine isAc 19 ?_; refine do_R rfl (st_call rfl (c_heldBroker (adV b g r).1 r1 r2) (.cons (.agg (.cons (.same rfl) (.cons (.same rfl) (.cons (pur_L rfl rfl rfl hA.symm) (.cons (pur_L rfl rfl rfl hW.symm) .nil))))) (.cons (.same rfl) .nil)) rfl) rfl ?_)
      | (refine isLc 19 rfl ?_; refine lex_R rfl (by kernel_rfl) rfl (st_call rfl (c_heldBroker (adV b g r).1 r1 r2) (.cons (.agg (.cons (.same rfl) (.cons (.same rfl) (.cons (pur_L rfl rfl rfl hA.symm) (.cons (pur_L rfl rfl rfl hW.symm) .nil))))) (.cons (.same rfl) .nil)) rfl) rfl ?_)
      | refine aops_nil ?_
      | refine lex_done _ rfl (by kernel_rfl) ?_
      | refine aw_ct rfl ?_
      | refine aw_cf rfl ?_
      | refine aw_block ?_
      | refine then_n ?_
      | refine aw_skip ?_
      | refine aw_exit ?_
      | refine then_x ?_
      | refine then_r ?_
      | refine block_x ?_
      | refine block_n ?_
      | refine block_r ?_
      | refine aw_ret ?_
    refine aw_cond rfl (fun h => by rw [hm'] at h; cases h) (fun _ => ?_)
    repeat' first
      | refine aw_seq ?_
      | refine aw_region ?_
      | refine aw_lex [] ?_
      | (refine isA ?_; refine do_F rfl ?_)
      | (refine isL ?_; refine lex_F rfl (by kernel_rfl) rfl rfl ?_)
      | (refine isLg rfl ?_; refine lex_S rfl (by kernel_rfl) rfl rfl ?_)
      | refine aops_nil ?_
      | refine lex_done _ rfl (by kernel_rfl) ?_
      | refine aw_ct rfl ?_
      | refine aw_cf rfl ?_
      | refine aw_block ?_
      | refine then_n ?_
      | refine aw_skip ?_
      | refine aw_exit ?_
      | refine then_x ?_
      | refine then_r ?_
      | refine block_x ?_
      | refine block_n ?_
      | refine block_r ?_
      | refine aw_ret ?_
    refine aw_cond rfl (fun h => by simp at h) (fun _ => ?_)
    repeat' first
      | refine aw_seq ?_
      | refine aw_region ?_
      | refine aw_lex [] ?_
      | (refine isA ?_; refine do_F rfl ?_)
      | (refine isL ?_; refine lex_F rfl (by kernel_rfl) rfl rfl ?_)
      | (refine isLg rfl ?_; refine lex_S rfl (by kernel_rfl) rfl rfl ?_)
      | exact fin1 rfl rfl rfl
      | refine aops_nil ?_
      | refine lex_done _ rfl (by kernel_rfl) ?_
      | refine aw_ct rfl ?_
      | refine aw_cf rfl ?_
      | refine aw_block ?_
      | refine then_n ?_
      | refine aw_skip ?_
      | refine aw_exit ?_
      | refine then_x ?_
      | refine then_r ?_
      | refine block_x ?_
      | refine block_n ?_
      | refine block_r ?_
      | refine aw_ret ?_
end Go.Proofs.Ytjlhfemfmkdlhaa.Ab
