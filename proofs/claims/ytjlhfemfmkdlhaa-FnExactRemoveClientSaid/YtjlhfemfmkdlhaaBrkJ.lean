/-
  Marks of brokers; FnExactComputeGrants.
-/
import Derived.Test.YtjlhfemfmkdlhaaBrkI
import Derived.Test.YtjlhfemfmkdlhaaBrkH
namespace Go.Proofs.Ytjlhfemfmkdlhaa.Ab
open Go.RowKit
set_option linter.unusedVariables false
set_option linter.unusedSimpArgs false
set_option maxRecDepth 20000
set_option maxHeartbeats 2000000

def mkCl (k : Int) (j : Nat) : Cl := ⟨kk k (3 * j), kk k (3 * j + 1), kk k (3 * j + 2)⟩
def mkC (k : Int) (xs : List Cl) (i : Nat) : List Cl := (List.range i).map (mkCl k) ++ xs.drop i
theorem mkC_len (k : Int) {xs : List Cl} {i : Nat} (h : i ≤ xs.length) : (mkC k xs i).length = xs.length := by simp [mkC]; omega

theorem c_markClientS (xs : List Cl) (k : Int) (hl : xs.length ≤ 1000000000) : Meets Go.Proofs.Try.prog 68 [.sl 0 0 xs.length, I k] [regOf clT 53 xs] (I (kk k (3 * xs.length))) [regOf clT 53 (mkC k xs xs.length)] true := by
  refine meets_of [4] Go.Proofs.Try.func68 rfl rfl ?_
  simp only [Go.Proofs.Try.ntmps68, List.length_cons, List.length_nil, Nat.reduceAdd, Nat.reduceSub, List.replicate_succ, List.replicate_zero, List.cons_append, List.nil_append]
  repeat' first
    | refine aw_seq ?_
    | refine aw_region ?_
    | refine aw_lex [] ?_
    | (refine isA ?_; refine do_F rfl ?_)
    | (refine isL ?_; refine lex_F rfl (by kernel_rfl) rfl rfl ?_)
    | (refine isLg rfl ?_; refine lex_S rfl (by kernel_rfl) rfl rfl ?_)
    | refine aops_nil ?_
    | refine lex_done _ rfl (by kernel_rfl) ?_
    | refine aw_ct rfl ?_
    | refine aw_cf rfl ?_
    | refine aw_block ?_
    | refine then_n ?_
    | refine aw_skip ?_
    | refine aw_exit ?_
    | refine then_x ?_
    | refine then_r ?_
    | refine block_x ?_
    | refine block_n ?_
    | refine block_r ?_
    | refine aw_ret ?_
  refine aw_loop (α := { i : Nat // i ≤ xs.length }) (fun i => ⟨[.sl 0 0 xs.length, I (kk k (3 * i.1)), .any, .any, .any, I i.1, .any, .any, .any, .any, .any, .any, .any, .any, .any, .any, .any, .any, .any, .any, .any, .any, .any, .any, .any, .any, .any, .any, .any, .any, .any, .any, .any, .any], [regOf clT 53 (mkC k xs i.1)], 1⟩) (fun i => xs.length - i.1) ⟨0, Nat.zero_le _⟩ ?_ ?_
  · exact subm 1 [0] rfl rfl fix1 (by decide) (.cons rfl rfl rfl rfl (les_refl (flat_noH _ _)) .nil) (by repeat' first | exact les_nil | refine les_cons ?_ ?_ | exact le_any | exact le_refl rfl | exact le_sl rfl rfl | exact le_ptr rfl)
  · rintro ⟨i, hi⟩
    have hgl := mkC_len k hi
    repeat' first
      | refine aw_seq ?_
      | refine aw_region ?_
      | refine aw_lex [] ?_
      | (refine isA ?_; refine do_F rfl ?_)
      | (refine isL ?_; refine lex_F rfl (by kernel_rfl) rfl rfl ?_)
      | (refine isLg rfl ?_; refine lex_S rfl (by kernel_rfl) rfl rfl ?_)
      | refine aops_nil ?_
      | refine lex_done _ rfl (by kernel_rfl) ?_
      | refine aw_ct rfl ?_
      | refine aw_cf rfl ?_
      | refine aw_block ?_
      | refine then_n ?_
      | refine aw_skip ?_
      | refine aw_exit ?_
      | refine then_x ?_
      | refine then_r ?_
      | refine block_x ?_
      | refine block_n ?_
      | refine block_r ?_
      | refine aw_ret ?_
    refine aw_cond rfl (fun h => ?_) (fun h => ?_)
    · have hlt : i < xs.length := by simpa using h
      obtain ⟨z, hz⟩ : ∃ z, (mkC k xs i)[0 + i]? = some z := ⟨_, List.getElem?_eq_getElem (by rw [hgl]; omega)⟩
      have hlt' : 0 + i < (mkC k xs i).length := by rw [hgl]; omega
      have hz1 : ((mkC k xs i).set (0 + i) ⟨kk k (3 * i), z.b, z.c⟩)[0 + i]? = some ⟨kk k (3 * i), z.b, z.c⟩ := List.getElem?_set_self hlt'
      have hz2 : (((mkC k xs i).set (0 + i) ⟨kk k (3 * i), z.b, z.c⟩).set (0 + i) ⟨kk k (3 * i), kk k (3 * i + 1), z.c⟩)[0 + i]? = some ⟨kk k (3 * i), kk k (3 * i + 1), z.c⟩ := List.getElem?_set_self (by rw [List.length_set]; exact hlt')
      repeat' first
        | refine aw_seq ?_
        | refine aw_region ?_
        | refine aw_lex [] ?_
        | (refine isA ?_; refine do_F rfl ?_)
        | (refine isL ?_; refine lex_F rfl (by kernel_rfl) rfl rfl ?_)
        | (refine isLg rfl ?_; refine lex_S rfl (by kernel_rfl) rfl rfl ?_)
        | (refine isAi ?_; refine do_R rfl (step_ia_sl (j := i) rfl rfl rfl (Nat.zero_le _) rfl rfl (Int.natCast_nonneg i) (by omega)) rfl ?_)
        | (refine isLi rfl ?_; refine lex_R rfl (by kernel_rfl) rfl (step_ia_sl (j := i) rfl rfl rfl (Nat.zero_le _) rfl rfl (Int.natCast_nonneg i) (by omega)) rfl ?_)
        | (refine isAs (x := .tmp 16) ?_; refine do_R rfl (set_f (T := clT) (i := 0 + i) (off := 0) (z := z) (z' := ⟨kk k (3 * i), z.b, z.c⟩) rfl rfl rfl rfl (by decide) rfl hz rfl) rfl ?_)
        | (refine isLs (x := .tmp 16) rfl ?_; refine lex_R rfl (by kernel_rfl) rfl (set_f (T := clT) (i := 0 + i) (off := 0) (z := z) (z' := ⟨kk k (3 * i), z.b, z.c⟩) rfl rfl rfl rfl (by decide) rfl hz rfl) rfl ?_)
        | (refine isAs (x := .tmp 23) ?_; refine do_R rfl (set_f (T := clT) (i := 0 + i) (off := 1) (z := ⟨kk k (3 * i), z.b, z.c⟩) (z' := ⟨kk k (3 * i), kk k (3 * i + 1), z.c⟩) rfl rfl rfl rfl (by decide) rfl hz1 rfl) rfl ?_)
        | (refine isLs (x := .tmp 23) rfl ?_; refine lex_R rfl (by kernel_rfl) rfl (set_f (T := clT) (i := 0 + i) (off := 1) (z := ⟨kk k (3 * i), z.b, z.c⟩) (z' := ⟨kk k (3 * i), kk k (3 * i + 1), z.c⟩) rfl rfl rfl rfl (by decide) rfl hz1 rfl) rfl ?_)
        | (refine isAs (x := .tmp 30) ?_; refine do_R rfl (set_f (T := clT) (i := 0 + i) (off := 2) (z := ⟨kk k (3 * i), kk k (3 * i + 1), z.c⟩) (z' := mkCl k i) rfl rfl rfl rfl (by decide) rfl hz2 rfl) rfl ?_)
        | (refine isLs (x := .tmp 30) rfl ?_; refine lex_R rfl (by kernel_rfl) rfl (set_f (T := clT) (i := 0 + i) (off := 2) (z := ⟨kk k (3 * i), kk k (3 * i + 1), z.c⟩) (z' := mkCl k i) rfl rfl rfl rfl (by decide) rfl hz2 rfl) rfl ?_)
        | refine aops_nil ?_
        | refine lex_done _ rfl (by kernel_rfl) ?_
        | refine aw_ct rfl ?_
        | refine aw_cf rfl ?_
        | refine aw_block ?_
        | refine then_n ?_
        | refine aw_skip ?_
        | refine aw_exit ?_
        | refine then_x ?_
        | refine then_r ?_
        | refine block_x ?_
        | refine block_n ?_
        | refine block_r ?_
        | refine aw_ret ?_
      refine ⟨⟨i + 1, hlt⟩, by simp only; omega, ?_⟩
      exact subm 1 [0] rfl rfl fix1 (by decide) (.cons rfl rfl rfl rfl (les_eq (by rw [Nat.zero_add]; show clT.flat (((List.set _ i _).set i _).set i _) = _; rw [List.set_set, List.set_set]; exact congrArg clT.flat (mk_step (g := mkCl k) hlt)) (flat_noH _ _)) .nil) (by repeat' first | exact les_nil | refine les_cons ?_ ?_ | exact le_any | exact le_refl rfl | exact le_sl rfl rfl | exact le_ptr rfl | exact le_i (by assumption) (by omega))
    · have hge : i = xs.length := by
        have : ¬ ((i : Int) < xs.length) := by simpa using h
        omega
      subst hge
      repeat' first
        | refine aw_seq ?_
        | refine aw_region ?_
        | refine aw_lex [] ?_
        | (refine isA ?_; refine do_F rfl ?_)
        | (refine isL ?_; refine lex_F rfl (by kernel_rfl) rfl rfl ?_)
        | (refine isLg rfl ?_; refine lex_S rfl (by kernel_rfl) rfl rfl ?_)
        | exact finM 1 [0] fix1 (by decide) rfl (le_refl rfl) (.cons rfl rfl rfl rfl (les_refl (flat_noH _ _)) .nil)
        | refine aops_nil ?_
        | refine lex_done _ rfl (by kernel_rfl) ?_
        | refine aw_ct rfl ?_
        | refine aw_cf rfl ?_
        | refine aw_block ?_
        | refine then_n ?_
        | refine aw_skip ?_
        | refine aw_exit ?_
        | refine then_x ?_
        | refine then_r ?_
        | refine block_x ?_
        | refine block_n ?_
        | refine block_r ?_
        | refine aw_ret ?_

def mkA (k : Int) (b : Br) : List Cl := mkC k b.act b.act.length
def mkW (k : Int) (b : Br) : List Cl := mkC (kk k (3 * b.act.length)) b.wait b.wait.length
def mkN (k : Int) (b : Br) : Int := kk (kk k (3 * b.act.length)) (3 * b.wait.length)

theorem c_markBroker (b : Br) (k : Int) (h1 : b.act.length ≤ 1000000000) (h2 : b.wait.length ≤ 1000000000) : Meets Go.Proofs.Try.prog 18 [.agg (brO b), I k] (brK b.act b.wait) (I (mkN k b)) (brK (mkA k b) (mkW k b)) true := by
  refine meets_of [4] Go.Proofs.Try.func18 rfl rfl ?_
  simp only [Go.Proofs.Try.ntmps18, List.length_cons, List.length_nil, Nat.reduceAdd, Nat.reduceSub, List.replicate_succ, List.replicate_zero, List.cons_append, List.nil_append]
  repeat' first
    | refine aw_seq ?_
    | refine aw_region ?_
    | refine aw_lex [] ?_
    | (refine isA ?_; refine do_F rfl ?_)
    | (refine isL ?_; refine lex_F rfl (by kernel_rfl) rfl rfl ?_)
    | (refine isLg rfl ?_; refine lex_S rfl (by kernel_rfl) rfl rfl ?_)
    | (refine isAc 68 ?_; refine do_R rfl (step_callMs (K := []) (Rs' := [_]) [0] (by decide) rfl (c_markClientS _ k h1) (.cons rfl rfl rfl (flat_noH _ _) (flat_noH _ _) .nil) (.cons (.sl rfl) (.cons (.same rfl) .nil)) (fun q hq => by cases hq) rfl) rfl ?_)
    | (refine isAc 68 ?_; refine do_R rfl (step_callMs (K := []) (Rs' := [_]) [1] (by decide) rfl (c_markClientS _ _ h2) (.cons rfl rfl rfl (flat_noH _ _) (flat_noH _ _) .nil) (.cons (.sl rfl) (.cons (.same rfl) .nil)) (fun q hq => by cases hq) rfl) rfl ?_)
    | exact finM 2 [0, 1] fix2 (by decide) rfl (le_refl rfl) (.cons rfl rfl rfl rfl (les_refl (flat_noH _ _)) (.cons rfl rfl rfl rfl (les_refl (flat_noH _ _)) .nil))
    | refine aops_nil ?_
    | refine lex_done _ rfl (by kernel_rfl) ?_
    | refine aw_ct rfl ?_
    | refine aw_cf rfl ?_
    | refine aw_block ?_
    | refine then_n ?_
    | refine aw_skip ?_
    | refine aw_exit ?_
    | refine then_x ?_
    | refine then_r ?_
    | refine block_x ?_
    | refine block_n ?_
    | refine block_r ?_
    | refine aw_ret ?_

theorem mkN_pos (b : Br) (h1 : b.act.length ≤ 1000000000) (h2 : b.wait.length ≤ 1000000000) : decide (mkN 1 b < 0) = false := by
  have e1 : kk 1 (3 * b.act.length) = 1 + (3 * b.act.length : Nat) := kk_val (by omega) (by omega) (by omega)
  have e2 : mkN 1 b = (1 + (3 * b.act.length : Nat)) + (3 * b.wait.length : Nat) := by rw [mkN, e1]; exact kk_val (by omega) (by omega) (by omega)
  rw [e2]
  simp
  omega
theorem kk_pos {n : Nat} (h : n ≤ 1000000000) : decide (kk 1 n < 0) = false := by
  rw [kk_val (by omega) (by omega) (by omega)]
  simp
  omega
theorem mkI_at {k : Int} {xs : List Int} : ∀ (i : Nat) (x : Int), (mkI k xs xs.length)[i]? = some x → x = kk k i := fun i x h => by
  unfold mkI at h
  rw [List.drop_length, List.append_nil, List.getElem?_map] at h
  cases hi : (List.range xs.length)[i]? with
  | none => rw [hi] at h; cases h
  | some j =>
    rw [hi] at h
    have hj : j = i := by
      have := List.getElem?_eq_some_iff.1 hi
      obtain ⟨q, e⟩ := this
      simpa using e.symm
    subst hj
    simpa using h.symm
theorem cg_le (b : Br) (h1 : b.act.length ≤ 1000000000) : (cg b).length ≤ 1000000000 := by
  cases h : validB b with
  | true => rw [cg_len h]; exact h1
  | false => simp [cg, h]

theorem law_ComputeGrants (b : Br) (ha : b.act.length ≤ 9223372036854775807) (hw : b.wait.length ≤ 9223372036854775807) : Meets Go.Proofs.Try.prog 8 [.agg (brE b)] [] (B true) [] false := by
  refine meets_of [2] Go.Proofs.Try.func8 rfl rfl ?_
  simp only [Go.Proofs.Try.ntmps8, List.length_cons, List.length_nil, Nat.reduceAdd, Nat.reduceSub, List.replicate_succ, List.replicate_zero, List.cons_append, List.nil_append]
  repeat' first
    | refine aw_seq ?_
    | refine aw_region ?_
    | refine aw_lex [] ?_
    | (refine isA ?_; refine do_F rfl ?_)
    | (refine isL ?_; refine lex_F rfl (by kernel_rfl) rfl rfl ?_)
    | (refine isLg rfl ?_; refine lex_S rfl (by kernel_rfl) rfl rfl ?_)
    | (refine isAc 20 ?_; refine do_R rfl (st_call rfl (c_szBroker _ _) (.cons (.same rfl) (.cons (.same rfl) .nil)) rfl) rfl ?_)
    | (refine isLc 20 rfl ?_; refine lex_R rfl (by kernel_rfl) rfl (st_call rfl (c_szBroker _ _) (.cons (.same rfl) (.cons (.same rfl) .nil)) rfl) rfl ?_)
    | refine aops_nil ?_
    | refine lex_done _ rfl (by kernel_rfl) ?_
    | refine aw_ct rfl ?_
    | refine aw_cf rfl ?_
    | refine aw_block ?_
    | refine then_n ?_
    | refine aw_skip ?_
    | refine aw_exit ?_
    | refine then_x ?_
    | refine then_r ?_
    | refine block_x ?_
    | refine block_n ?_
    | refine block_r ?_
    | refine aw_ret ?_
  refine aw_cond rfl (fun h => ?_) (fun h => ?_)
  · repeat' first
      | refine aw_seq ?_
      | refine aw_region ?_
      | refine aw_lex [] ?_
      | (refine isA ?_; refine do_F rfl ?_)
      | (refine isL ?_; refine lex_F rfl (by kernel_rfl) rfl rfl ?_)
      | (refine isLg rfl ?_; refine lex_S rfl (by kernel_rfl) rfl rfl ?_)
      | exact fin1 rfl rfl rfl
      | refine aops_nil ?_
      | refine lex_done _ rfl (by kernel_rfl) ?_
      | refine aw_ct rfl ?_
      | refine aw_cf rfl ?_
      | refine aw_block ?_
      | refine then_n ?_
      | refine aw_skip ?_
      | refine aw_exit ?_
      | refine then_x ?_
      | refine then_r ?_
      | refine block_x ?_
      | refine block_n ?_
      | refine block_r ?_
      | refine aw_ret ?_
  · obtain ⟨h1, h2⟩ := sz_len ha hw h
    have g1 : b.act.length ≤ 1000000000 := by omega
    have g2 : b.wait.length ≤ 1000000000 := by omega
    have hcl := cg_le b g1
    have hml := mkI_len 1 (Nat.le_refl (cg b).length)
    have hm := mkN_pos b g1 g2
    have hk := kk_pos (n := (cg b).length) hcl
    repeat' first
      | refine aw_seq ?_
      | refine aw_region ?_
      | refine aw_lex [] ?_
      | (refine isA ?_; refine do_F rfl ?_)
      | (refine isL ?_; refine lex_F rfl (by kernel_rfl) rfl rfl ?_)
      | (refine isLg rfl ?_; refine lex_S rfl (by kernel_rfl) rfl rfl ?_)
      | (refine isAc 22 (x := #[.tmp 16]) ?_; refine do_R rfl (st_call rfl (c_toBroker _ g1 g2) (.cons (.same rfl) .nil) rfl) rfl ?_)
      | (refine isLc 22 (x := #[.tmp 16]) rfl ?_; refine lex_R rfl (by kernel_rfl) rfl (st_call rfl (c_toBroker _ g1 g2) (.cons (.same rfl) .nil) rfl) rfl ?_)
      | (refine isAc 30 ?_; refine do_R rfl (st_call rfl (c_scg _ g1 g2) (.cons (.same rfl) .nil) rfl) rfl ?_)
      | (refine isLc 30 rfl ?_; refine lex_R rfl (by kernel_rfl) rfl (st_call rfl (c_scg _ g1 g2) (.cons (.same rfl) .nil) rfl) rfl ?_)
      | (refine isAc 22 (x := #[.tmp 19]) ?_; refine do_R rfl (st_callK rfl (c_toBrokerO _ g1 g2) (.cons (.same rfl) .nil) (fun q hq => by simp [brK] at hq; rcases hq with rfl | rfl <;> exact flat_noH _ _) rfl rfl) rfl ?_)
      | (refine isLc 22 (x := #[.tmp 19]) rfl ?_; refine lex_R rfl (by kernel_rfl) rfl (st_callK rfl (c_toBrokerO _ g1 g2) (.cons (.same rfl) .nil) (fun q hq => by simp [brK] at hq; rcases hq with rfl | rfl <;> exact flat_noH _ _) rfl rfl) rfl ?_)
      | (refine isAc 31 (x := #[.tmp 21]) ?_; refine do_R rfl (st_callK rfl (c_icgO _ g1 g2) (.cons (.agg (.cons (.same rfl) (.cons (.same rfl) (.cons (pur_l rfl rfl) (.cons (pur_l rfl rfl) .nil))))) .nil) (fun q hq => by simp at hq; subst hq; exact flat_noH _ _) rfl rfl) rfl ?_)
      | (refine isLc 31 (x := #[.tmp 21]) rfl ?_; refine lex_R rfl (by kernel_rfl) rfl (st_callK rfl (c_icgO _ g1 g2) (.cons (.agg (.cons (.same rfl) (.cons (.same rfl) (.cons (pur_l rfl rfl) (.cons (pur_l rfl rfl) .nil))))) .nil) (fun q hq => by simp at hq; subst hq; exact flat_noH _ _) rfl rfl) rfl ?_)
      | (refine isAc 32 ?_; refine do_R rfl (st_call rfl (c_eqIntS _ hcl) (.cons (pur_l rfl rfl) (.cons (.same rfl) .nil)) rfl) rfl ?_)
      | (refine isLc 32 rfl ?_; refine lex_R rfl (by kernel_rfl) rfl (st_call rfl (c_eqIntS _ hcl) (.cons (pur_l rfl rfl) (.cons (.same rfl) .nil)) rfl) rfl ?_)
      | (refine isAc 22 (x := #[.tmp 28]) ?_; refine do_R rfl (st_call rfl (c_toBroker _ g1 g2) (.cons (.same rfl) .nil) rfl) rfl ?_)
      | (refine isLc 22 (x := #[.tmp 28]) rfl ?_; refine lex_R rfl (by kernel_rfl) rfl (st_call rfl (c_toBroker _ g1 g2) (.cons (.same rfl) .nil) rfl) rfl ?_)
      | (refine isAc 17 ?_; refine do_R rfl (st_call rfl (c_eqBroker _ g1 g2) (.cons (.agg (.cons (.same rfl) (.cons (.same rfl) (.cons (pur_l rfl rfl) (.cons (pur_l rfl rfl) .nil))))) (.cons (.same rfl) .nil)) rfl) rfl ?_)
      | (refine isLc 17 rfl ?_; refine lex_R rfl (by kernel_rfl) rfl (st_call rfl (c_eqBroker _ g1 g2) (.cons (.agg (.cons (.same rfl) (.cons (.same rfl) (.cons (pur_l rfl rfl) (.cons (pur_l rfl rfl) .nil))))) (.cons (.same rfl) .nil)) rfl) rfl ?_)
      | (refine isAc 18 ?_; refine do_R rfl (step_callMs (K := []) (Rs' := brK (mkA 1 b) (mkW 1 b)) [1, 2] (by decide) rfl (c_markBroker _ _ g1 g2) (.cons rfl rfl rfl (flat_noH _ _) (flat_noH _ _) (.cons rfl rfl rfl (flat_noH _ _) (flat_noH _ _) .nil)) (.cons (.agg (.cons (.same rfl) (.cons (.same rfl) (.cons (.sl rfl) (.cons (.sl rfl) .nil))))) (.cons (.same rfl) .nil)) (fun q hq => by cases hq) rfl) rfl ?_)
      | (refine isLc 18 rfl ?_; refine lex_R rfl (by kernel_rfl) rfl (step_callMs (K := []) (Rs' := brK (mkA 1 b) (mkW 1 b)) [1, 2] (by decide) rfl (c_markBroker _ _ g1 g2) (.cons rfl rfl rfl (flat_noH _ _) (flat_noH _ _) (.cons rfl rfl rfl (flat_noH _ _) (flat_noH _ _) .nil)) (.cons (.agg (.cons (.same rfl) (.cons (.same rfl) (.cons (.sl rfl) (.cons (.sl rfl) .nil))))) (.cons (.same rfl) .nil)) (fun q hq => by cases hq) rfl) rfl ?_)
      | refine aops_nil ?_
      | refine lex_done _ rfl (by kernel_rfl) ?_
      | refine aw_ct rfl ?_
      | refine aw_cf rfl ?_
      | refine aw_block ?_
      | refine then_n ?_
      | refine aw_skip ?_
      | refine aw_exit ?_
      | refine then_x ?_
      | refine then_r ?_
      | refine block_x ?_
      | refine block_n ?_
      | refine block_r ?_
      | refine aw_ret ?_
    refine do_br rfl rfl (fun h => by rw [hm] at h; cases h) (fun _ => ?_)
    repeat' first
      | refine aw_seq ?_
      | refine aw_region ?_
      | refine aw_lex [] ?_
      | (refine isA ?_; refine do_F rfl ?_)
      | (refine isL ?_; refine lex_F rfl (by kernel_rfl) rfl rfl ?_)
      | (refine isLg rfl ?_; refine lex_S rfl (by kernel_rfl) rfl rfl ?_)
      | (refine isAc 32 ?_; refine do_R rfl (st_call rfl (c_eqIntS _ hcl) (.cons (pur_l rfl rfl) (.cons (.same rfl) .nil)) rfl) rfl ?_)
      | (refine isLc 32 rfl ?_; refine lex_R rfl (by kernel_rfl) rfl (st_call rfl (c_eqIntS _ hcl) (.cons (pur_l rfl rfl) (.cons (.same rfl) .nil)) rfl) rfl ?_)
      | (refine isAc 33 ?_; refine do_R rfl (step_callMs (K := []) (Rs' := [_]) [4] (by decide) rfl (c_markIntS _ 1 hcl) (.cons rfl rfl rfl (flat_noH _ _) (flat_noH _ _) .nil) (.cons (.sl rfl) (.cons (.same rfl) .nil)) (fun q hq => by cases hq) rfl) rfl ?_)
      | (refine isLc 33 rfl ?_; refine lex_R rfl (by kernel_rfl) rfl (step_callMs (K := []) (Rs' := [_]) [4] (by decide) rfl (c_markIntS _ 1 hcl) (.cons rfl rfl rfl (flat_noH _ _) (flat_noH _ _) .nil) (.cons (.sl rfl) (.cons (.same rfl) .nil)) (fun q hq => by cases hq) rfl) rfl ?_)
      | (refine isAc 34 ?_; refine do_R rfl (st_call rfl (c_heldIntS _ 1 (by rw [hml]; exact hcl) mkI_at) (.cons (pur_L rfl rfl rfl hml.symm) (.cons (.same rfl) .nil)) rfl) rfl ?_)
      | (refine isLc 34 rfl ?_; refine lex_R rfl (by kernel_rfl) rfl (st_call rfl (c_heldIntS _ 1 (by rw [hml]; exact hcl) mkI_at) (.cons (pur_L rfl rfl rfl hml.symm) (.cons (.same rfl) .nil)) rfl) rfl ?_)
      | refine aops_nil ?_
      | refine lex_done _ rfl (by kernel_rfl) ?_
      | refine aw_ct rfl ?_
      | refine aw_cf rfl ?_
      | refine aw_block ?_
      | refine then_n ?_
      | refine aw_skip ?_
      | refine aw_exit ?_
      | refine then_x ?_
      | refine then_r ?_
      | refine block_x ?_
      | refine block_n ?_
      | refine block_r ?_
      | refine aw_ret ?_
    rw [hml]
    refine aw_cond rfl (fun h => by rw [hk] at h; cases h) (fun _ => ?_)
    repeat' first
      | refine aw_seq ?_
      | refine aw_region ?_
      | refine aw_lex [] ?_
      | (refine isA ?_; refine do_F rfl ?_)
      | (refine isL ?_; refine lex_F rfl (by kernel_rfl) rfl rfl ?_)
      | (refine isLg rfl ?_; refine lex_S rfl (by kernel_rfl) rfl rfl ?_)
      | refine aops_nil ?_
      | refine lex_done _ rfl (by kernel_rfl) ?_
      | refine aw_ct rfl ?_
      | refine aw_cf rfl ?_
      | refine aw_block ?_
      | refine then_n ?_
      | refine aw_skip ?_
      | refine aw_exit ?_
      | refine then_x ?_
      | refine then_r ?_
      | refine block_x ?_
      | refine block_n ?_
      | refine block_r ?_
      | refine aw_ret ?_
    refine aw_cond rfl (fun h => by simp at h) (fun _ => ?_)
    repeat' first
      | refine aw_seq ?_
      | refine aw_region ?_
      | refine aw_lex [] ?_
      | (refine isA ?_; refine do_F rfl ?_)
      | (refine isL ?_; refine lex_F rfl (by kernel_rfl) rfl rfl ?_)
      | (refine isLg rfl ?_; refine lex_S rfl (by kernel_rfl) rfl rfl ?_)
      | (refine isAc 22 ?_; refine do_R rfl (st_call rfl (c_toBroker _ g1 g2) (.cons (.same rfl) .nil) rfl) rfl ?_)
      | (refine isLc 22 rfl ?_; refine lex_R rfl (by kernel_rfl) rfl (st_call rfl (c_toBroker _ g1 g2) (.cons (.same rfl) .nil) rfl) rfl ?_)
      | (refine isAc 31 ?_; refine do_R rfl (st_call rfl (c_icg _ g1 g2) (.cons (.same rfl) .nil) rfl) rfl ?_)
      | (refine isLc 31 rfl ?_; refine lex_R rfl (by kernel_rfl) rfl (st_call rfl (c_icg _ g1 g2) (.cons (.same rfl) .nil) rfl) rfl ?_)
      | (refine isAc 32 ?_; refine do_R rfl (st_call rfl (c_eqIntS _ hcl) (.cons (.same rfl) (.cons (.same rfl) .nil)) rfl) rfl ?_)
      | (refine isLc 32 rfl ?_; refine lex_R rfl (by kernel_rfl) rfl (st_call rfl (c_eqIntS _ hcl) (.cons (.same rfl) (.cons (.same rfl) .nil)) rfl) rfl ?_)
      | (refine isAc 34 ?_; refine do_R rfl (st_call rfl (c_heldIntS _ 1 (by rw [hml]; exact hcl) mkI_at) (.cons (pur_L rfl rfl rfl hml.symm) (.cons (.same rfl) .nil)) rfl) rfl ?_)
      | (refine isLc 34 rfl ?_; refine lex_R rfl (by kernel_rfl) rfl (st_call rfl (c_heldIntS _ 1 (by rw [hml]; exact hcl) mkI_at) (.cons (pur_L rfl rfl rfl hml.symm) (.cons (.same rfl) .nil)) rfl) rfl ?_)
      | refine aops_nil ?_
      | refine lex_done _ rfl (by kernel_rfl) ?_
      | refine aw_ct rfl ?_
      | refine aw_cf rfl ?_
      | refine aw_block ?_
      | refine then_n ?_
      | refine aw_skip ?_
      | refine aw_exit ?_
      | refine then_x ?_
      | refine then_r ?_
      | refine block_x ?_
      | refine block_n ?_
      | refine block_r ?_
      | refine aw_ret ?_
    rw [hml]
    refine aw_cond rfl (fun h => by rw [hk] at h; cases h) (fun _ => ?_)
    repeat' first
      | refine aw_seq ?_
      | refine aw_region ?_
      | refine aw_lex [] ?_
      | (refine isA ?_; refine do_F rfl ?_)
      | (refine isL ?_; refine lex_F rfl (by kernel_rfl) rfl rfl ?_)
      | (refine isLg rfl ?_; refine lex_S rfl (by kernel_rfl) rfl rfl ?_)
      | refine aops_nil ?_
      | refine lex_done _ rfl (by kernel_rfl) ?_
      | refine aw_ct rfl ?_
      | refine aw_cf rfl ?_
      | refine aw_block ?_
      | refine then_n ?_
      | refine aw_skip ?_
      | refine aw_exit ?_
      | refine then_x ?_
      | refine then_r ?_
      | refine block_x ?_
      | refine block_n ?_
      | refine block_r ?_
      | refine aw_ret ?_
    refine aw_cond rfl (fun h => by simp at h) (fun _ => ?_)
    repeat' first
      | refine aw_seq ?_
      | refine aw_region ?_
      | refine aw_lex [] ?_
      | (refine isA ?_; refine do_F rfl ?_)
      | (refine isL ?_; refine lex_F rfl (by kernel_rfl) rfl rfl ?_)
      | (refine isLg rfl ?_; refine lex_S rfl (by kernel_rfl) rfl rfl ?_)
      | exact fin1 rfl rfl rfl
      | refine aops_nil ?_
      | refine lex_done _ rfl (by kernel_rfl) ?_
      | refine aw_ct rfl ?_
      | refine aw_cf rfl ?_
      | refine aw_block ?_
      | refine then_n ?_
      | refine aw_skip ?_
      | refine aw_exit ?_
      | refine then_x ?_
      | refine then_r ?_
      | refine block_x ?_
      | refine block_n ?_
      | refine block_r ?_
      | refine aw_ret ?_
end Go.Proofs.Ytjlhfemfmkdlhaa.Ab
