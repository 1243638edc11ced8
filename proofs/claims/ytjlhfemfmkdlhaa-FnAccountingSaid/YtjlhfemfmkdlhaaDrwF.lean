/-
  Draws of accounts: l9Acct.
-/
import Derived.Test.YtjlhfemfmkdlhaaDrwE
namespace Go.Proofs.Ytjlhfemfmkdlhaa.Ab
open Go.RowKit
set_option linter.unusedVariables false
set_option linter.unusedSimpArgs false
set_option maxRecDepth 20000
set_option maxHeartbeats 2000000

theorem finMC1 {l : List V} {H : List Reg} {t : Tmp} {n : Nat} {v r : V} {K : Reg} (hv : CellIs l H t n v) (hr : Le [0] r v) (hH : HLes [0] H [0] [K]) :
    (Exit.ret = .ret ∨ Exit.ret = .normal) ∧ ∃ v, CellIs l H t n v ∧ Out true r [K] v ⟨l, H, 1⟩ := ⟨Or.inl rfl, v, hv, out_of (S := ⟨l, H, 1⟩) [0] fix1 (hle_of (by decide) hH) hr (Or.inl rfl)⟩

theorem c_acct (c : Cur) (hl : c.code.length ≤ 1000000000) : Meets Go.Proofs.Try.prog 91 [.ptr 0 0] [curR c] (.agg (acE (drawA c).1)) [curR (drawA c).2] true := by
  refine meets_ofC 2 64 Go.Proofs.Try.func91 rfl rfl ?_
  simp only [Go.Proofs.Try.ntmps91, List.length_cons, List.length_nil, Nat.reduceAdd, Nat.reduceSub, List.replicate_succ, List.replicate_zero, List.cons_append, List.nil_append]
  repeat' first
    | (refine isA ?_; refine do_R rfl (lit_of rfl rfl rfl rfl rfl) rfl ?_)
    | refine aw_seq ?_
    | refine aw_region ?_
    | refine aw_lex [] ?_
    | (refine isA ?_; refine do_F rfl ?_)
    | (refine isL ?_; refine lex_F rfl (by kernel_rfl) rfl rfl ?_)
    | (refine isLg rfl ?_; refine lex_S rfl (by kernel_rfl) rfl rfl ?_)
    | (refine isAc 88 ?_; refine do_R rfl (step_callMs (K := []) (Rs' := [_]) [0] (by decide) rfl (c_pickL [8, 20, 60] c hl (by decide)) (.cons rfl rfl rfl (curR_noH _) (curR_noH _) .nil) (.cons (.ptr rfl) (.cons (.same rfl) .nil)) (fun q hq => by cases hq) rfl) rfl ?_)
    | (refine isLc 88 rfl ?_; refine lex_R rfl (by kernel_rfl) rfl (step_callMs (K := []) (Rs' := [_]) [0] (by decide) rfl (c_pickL [8, 20, 60] c hl (by decide)) (.cons rfl rfl rfl (curR_noH _) (curR_noH _) .nil) (.cons (.ptr rfl) (.cons (.same rfl) .nil)) (fun q hq => by cases hq) rfl) rfl ?_)
    | (refine isAc 64 ?_; refine do_R rfl (st_call rfl (c_sna _) (.cons (.same rfl) .nil) rfl) rfl ?_)
    | (refine isLc 64 rfl ?_; refine lex_R rfl (by kernel_rfl) rfl (st_call rfl (c_sna _) (.cons (.same rfl) .nil) rfl) rfl ?_)
    | (refine isAc 90 ?_; refine do_R rfl (step_callMs (K := []) (Rs' := [_]) [0] (by decide) rfl (c_below 6 (beC 3 c) hl) (.cons rfl rfl rfl (curR_noH _) (curR_noH _) .nil) (.cons (.ptr rfl) (.cons (.same rfl) .nil)) (fun q hq => by cases hq) rfl) rfl ?_)
    | (refine isLc 90 rfl ?_; refine lex_R rfl (by kernel_rfl) rfl (step_callMs (K := []) (Rs' := [_]) [0] (by decide) rfl (c_below 6 (beC 3 c) hl) (.cons rfl rfl rfl (curR_noH _) (curR_noH _) .nil) (.cons (.ptr rfl) (.cons (.same rfl) .nil)) (fun q hq => by cases hq) rfl) rfl ?_)
    | refine aops_nil ?_
    | refine lex_done _ rfl (by kernel_rfl) ?_
    | refine aw_ct rfl ?_
    | refine aw_cf rfl ?_
    | refine aw_block ?_
    | refine then_n ?_
    | refine aw_skip ?_
    | refine aw_exit ?_
    | refine then_x ?_
    | refine then_r ?_
    | refine block_x ?_
    | refine block_n ?_
    | refine block_r ?_
    | refine aw_ret ?_
  obtain ⟨k0, k1⟩ := beV_range (n := 6) (by omega) (beC 3 c)
  obtain ⟨k, hk⟩ : ∃ k : Nat, beV 6 (beC 3 c) = k := ⟨(beV 6 (beC 3 c)).toNat, by omega⟩
  generalize hp : ((naV (pkV [8, 20, 60] c)).1, beC 6 (beC 3 c)) = p
  have hda : drawA c = lastA (turnsA p k) := by rw [drawA, hp, hk]; rfl
  have hpc : p.2.code.length ≤ 1000000000 := by rw [← hp]; show (beC 6 (beC 3 c)).code.length ≤ _; rw [beC_code, beC_code]; exact hl
  refine aw_loop (α := { j : Nat // j ≤ k }) (fun j => ⟨[.ptr 0 0, .any, .ptr 1 0, .ptr 2 0, .any, I ((k : Int) - j.1), .any, .any, .any, .any, .any, .any, .any, .any, .any, .any, .any, .any, .any, .any, .any, .any, .any, .any, .any, .any, .any, .any, .any, .any, .any, .any, .any, .any, .any, .any, .any, .any, .any, .any, .any, .any, .any, .any, .any, .any, .any, .any, .any, .any, .any, .any, .any, .any, .any, .any, .any, .any, .any, .any, .any, .any, .any, .any, .any, .any, .any, .any, .any, .any, .any], [curR (turnsA p j.1).2, ⟨64, 4, [I 0, I 0, I 0, I 0], 0⟩, ⟨64, 4, acE (turnsA p j.1).1, 0⟩], 1⟩) (fun j => k - j.1) ⟨0, Nat.zero_le _⟩ ?_ ?_
  · exact subm 1 [0, 1, 2] rfl rfl fix1 (by decide) (.cons rfl rfl rfl rfl (les_eq (by rw [turnsA, ← hp]) (curR_noH _)) (.cons rfl rfl rfl rfl (les_refl' rfl) (.cons rfl rfl rfl rfl (les_eq (by rw [turnsA, ← hp]; rfl) (noHs_mem rfl)) .nil))) (by
      repeat' first
        | exact les_nil
        | refine les_cons ?_ ?_
        | exact le_any
        | exact le_refl rfl
        | exact le_ptr rfl
        | exact le_k (congrArg _ (by rw [hk]; simp)))
  · rintro ⟨j, hj⟩
    have hcl : (beC 3 (turnsA p j).2).code.length ≤ 1000000000 := by rw [beC_code, turnsA_code]; exact hpc
    have hcl0 : (turnsA p j).2.code.length ≤ 1000000000 := by rw [turnsA_code]; exact hpc
    repeat' first
      | refine aw_seq ?_
      | refine aw_region ?_
      | refine aw_lex [] ?_
      | (refine isA ?_; refine do_F rfl ?_)
      | (refine isL ?_; refine lex_F rfl (by kernel_rfl) rfl rfl ?_)
      | (refine isLg rfl ?_; refine lex_S rfl (by kernel_rfl) rfl rfl ?_)
      | refine aops_nil ?_
      | refine lex_done _ rfl (by kernel_rfl) ?_
      | refine aw_ct rfl ?_
      | refine aw_cf rfl ?_
      | refine aw_block ?_
      | refine then_n ?_
      | refine aw_skip ?_
      | refine aw_exit ?_
      | refine then_x ?_
      | refine then_r ?_
      | refine block_x ?_
      | refine block_n ?_
      | refine block_r ?_
      | refine aw_ret ?_
    refine aw_cond rfl (fun h => ?_) (fun h => ?_)
    · have hlt : j < k := by have := of_decide_eq_true h; simp only at this; omega
      repeat' first
        | refine aw_seq ?_
        | refine aw_region ?_
        | refine aw_lex [] ?_
        | (refine isA ?_; refine do_F rfl ?_)
        | (refine isL ?_; refine lex_F rfl (by kernel_rfl) rfl rfl ?_)
        | (refine isLg rfl ?_; refine lex_S rfl (by kernel_rfl) rfl rfl ?_)
        | (refine isAc 90 ?_; refine do_R rfl (step_callMs (K := []) (Rs' := [_]) [0] (by decide) rfl (c_below 3 (turnsA p j).2 hcl0) (.cons rfl rfl rfl (curR_noH _) (curR_noH _) .nil) (.cons (.ptr rfl) (.cons (.same rfl) .nil)) (fun q hq => by cases hq) rfl) rfl ?_)
        | (refine isLc 90 rfl ?_; refine lex_R rfl (by kernel_rfl) rfl (step_callMs (K := []) (Rs' := [_]) [0] (by decide) rfl (c_below 3 (turnsA p j).2 hcl0) (.cons rfl rfl rfl (curR_noH _) (curR_noH _) .nil) (.cons (.ptr rfl) (.cons (.same rfl) .nil)) (fun q hq => by cases hq) rfl) rfl ?_)
        | refine aops_nil ?_
        | refine lex_done _ rfl (by kernel_rfl) ?_
        | refine aw_ct rfl ?_
        | refine aw_cf rfl ?_
        | refine aw_block ?_
        | refine then_n ?_
        | refine aw_skip ?_
        | refine aw_exit ?_
        | refine then_x ?_
        | refine then_r ?_
        | refine block_x ?_
        | refine block_n ?_
        | refine block_r ?_
        | refine aw_ret ?_
      refine aw_cond rfl (fun a0 => ?_) (fun a0 => ?_)
      · have E : turnsA p (j + 1) = ((chV (turnsA p j).1 (beV 20 (beC 3 (turnsA p j).2))).1, beC 20 (beC 3 (turnsA p j).2)) := by rw [turnsA, turnA, a0]; rfl
        refine aw_per [2, 7] 8 rfl ?_
        refine per_P 1 rfl (by kernel_rfl) rfl (fun _ => rfl) rfl ?_
        refine per_2F 2 0 rfl rfl (by kernel_rfl) (by kernel_rfl) rfl rfl (step_callMs (K := []) (Rs' := [_]) [0] (by decide) rfl (c_below 20 (beC 3 (turnsA p j).2) hcl) (.cons rfl rfl rfl (curR_noH _) (curR_noH _) .nil) (.cons (.ptr rfl) (.cons (.same rfl) .nil)) (fun q hq => by cases hq) rfl) rfl rfl rfl rfl ?_ ?_
        · refine per_F 0 rfl (by kernel_rfl) rfl rfl rfl ?_
          refine per_R 3 rfl (by kernel_rfl) rfl (st_call rfl (c_sch (turnsA p j).1 _) (.cons (.same rfl) (.cons (.same rfl) .nil)) rfl) rfl ?_
          refine per_P 4 rfl (by kernel_rfl) rfl (fun _ => rfl) rfl ?_
          refine per_P 5 rfl (by kernel_rfl) rfl (fun _ => rfl) rfl ?_
          refine per_P 6 rfl (by kernel_rfl) rfl (fun _ => rfl) rfl ?_
          refine per_W 7 rfl (by kernel_rfl) rfl rfl (store_ok (m := 1) (T := tab) TabC.ok rfl rfl rfl rfl rfl rfl rfl rfl rfl rfl) rfl ?_
          refine per_done (by kernel_rfl) ?_
          repeat' first
            | refine aw_seq ?_
            | refine aw_region ?_
            | refine aw_lex [] ?_
            | (refine isA ?_; refine do_F rfl ?_)
            | (refine isL ?_; refine lex_F rfl (by kernel_rfl) rfl rfl ?_)
            | (refine isLg rfl ?_; refine lex_S rfl (by kernel_rfl) rfl rfl ?_)
            | refine aops_nil ?_
            | refine lex_done _ rfl (by kernel_rfl) ?_
            | refine aw_ct rfl ?_
            | refine aw_cf rfl ?_
            | refine aw_block ?_
            | refine then_n ?_
            | refine aw_skip ?_
            | refine aw_exit ?_
            | refine then_x ?_
            | refine then_r ?_
            | refine block_x ?_
            | refine block_n ?_
            | refine block_r ?_
            | refine aw_ret ?_
          refine ⟨⟨j + 1, by omega⟩, by simp only; omega, ?_⟩
          exact subm 1 [0, 1, 2] rfl rfl fix1 (by decide) (.cons rfl rfl rfl rfl (les_eq (by rw [E]) (curR_noH _)) (.cons rfl rfl rfl rfl (les_refl' rfl) (.cons rfl rfl rfl rfl (les_eq (by rw [E]; rfl) (noHs_mem rfl)) .nil))) (by
            repeat' first
              | exact les_nil
              | refine les_cons ?_ ?_
              | exact le_any
              | exact le_refl rfl
              | exact le_ptr rfl
              | exact le_k (congrArg _ (show (k : Int) - ((j + 1 : Nat) : Int) = IntKind.i64.wrap ((k : Int) - (j : Int) - 1) by rw [IntKind.wrap_i64]; omega)))
        · refine per_W 2 rfl (by kernel_rfl) rfl rfl (step_callMs (K := []) (Rs' := [_]) [0] (by decide) rfl (c_below 20 (beC 3 (turnsA p j).2) hcl) (.cons rfl rfl rfl (curR_noH _) (curR_noH _) .nil) (.cons (.ptr rfl) (.cons (.same rfl) .nil)) (fun q hq => by cases hq) rfl) rfl ?_
          refine per_R 3 rfl (by kernel_rfl) rfl (st_call rfl (c_sch (turnsA p j).1 _) (.cons (.same rfl) (.cons (.same rfl) .nil)) rfl) rfl ?_
          refine per_P 4 rfl (by kernel_rfl) rfl (fun _ => rfl) rfl ?_
          refine per_P 5 rfl (by kernel_rfl) rfl (fun _ => rfl) rfl ?_
          refine per_P 6 rfl (by kernel_rfl) rfl (fun _ => rfl) rfl ?_
          refine per_W 7 rfl (by kernel_rfl) rfl rfl (store_ok (m := 1) (T := tab) TabC.ok rfl rfl rfl rfl rfl rfl rfl rfl rfl rfl) rfl ?_
          refine per_done (by kernel_rfl) ?_
          repeat' first
            | refine aw_seq ?_
            | refine aw_region ?_
            | refine aw_lex [] ?_
            | (refine isA ?_; refine do_F rfl ?_)
            | (refine isL ?_; refine lex_F rfl (by kernel_rfl) rfl rfl ?_)
            | (refine isLg rfl ?_; refine lex_S rfl (by kernel_rfl) rfl rfl ?_)
            | refine aops_nil ?_
            | refine lex_done _ rfl (by kernel_rfl) ?_
            | refine aw_ct rfl ?_
            | refine aw_cf rfl ?_
            | refine aw_block ?_
            | refine then_n ?_
            | refine aw_skip ?_
            | refine aw_exit ?_
            | refine then_x ?_
            | refine then_r ?_
            | refine block_x ?_
            | refine block_n ?_
            | refine block_r ?_
            | refine aw_ret ?_
          refine ⟨⟨j + 1, by omega⟩, by simp only; omega, ?_⟩
          exact subm 1 [0, 1, 2] rfl rfl fix1 (by decide) (.cons rfl rfl rfl rfl (les_eq (by rw [E]) (curR_noH _)) (.cons rfl rfl rfl rfl (les_refl' rfl) (.cons rfl rfl rfl rfl (les_eq (by rw [E]; rfl) (noHs_mem rfl)) .nil))) (by
            repeat' first
              | exact les_nil
              | refine les_cons ?_ ?_
              | exact le_any
              | exact le_refl rfl
              | exact le_ptr rfl
              | exact le_k (congrArg _ (show (k : Int) - ((j + 1 : Nat) : Int) = IntKind.i64.wrap ((k : Int) - (j : Int) - 1) by rw [IntKind.wrap_i64]; omega)))
      · repeat' first
          | refine aw_seq ?_
          | refine aw_region ?_
          | refine aw_lex [] ?_
          | (refine isA ?_; refine do_F rfl ?_)
          | (refine isL ?_; refine lex_F rfl (by kernel_rfl) rfl rfl ?_)
          | (refine isLg rfl ?_; refine lex_S rfl (by kernel_rfl) rfl rfl ?_)
          | refine aops_nil ?_
          | refine lex_done _ rfl (by kernel_rfl) ?_
          | refine aw_ct rfl ?_
          | refine aw_cf rfl ?_
          | refine aw_block ?_
          | refine then_n ?_
          | refine aw_skip ?_
          | refine aw_exit ?_
          | refine then_x ?_
          | refine then_r ?_
          | refine block_x ?_
          | refine block_n ?_
          | refine block_r ?_
          | refine aw_ret ?_
        refine aw_cond rfl (fun a1 => ?_) (fun a1 => ?_)
        · have E : turnsA p (j + 1) = ((reV (turnsA p j).1 (beV 10 (beC 3 (turnsA p j).2))).1, beC 10 (beC 3 (turnsA p j).2)) := by rw [turnsA, turnA, a0, a1]; rfl
          refine aw_per [2, 7] 8 rfl ?_
          refine per_P 1 rfl (by kernel_rfl) rfl (fun _ => rfl) rfl ?_
          refine per_2F 2 0 rfl rfl (by kernel_rfl) (by kernel_rfl) rfl rfl (step_callMs (K := []) (Rs' := [_]) [0] (by decide) rfl (c_below 10 (beC 3 (turnsA p j).2) hcl) (.cons rfl rfl rfl (curR_noH _) (curR_noH _) .nil) (.cons (.ptr rfl) (.cons (.same rfl) .nil)) (fun q hq => by cases hq) rfl) rfl rfl rfl rfl ?_ ?_
          · refine per_F 0 rfl (by kernel_rfl) rfl rfl rfl ?_
            refine per_R 3 rfl (by kernel_rfl) rfl (st_call rfl (c_srel (turnsA p j).1 _) (.cons (.same rfl) (.cons (.same rfl) .nil)) rfl) rfl ?_
            refine per_P 4 rfl (by kernel_rfl) rfl (fun _ => rfl) rfl ?_
            refine per_P 5 rfl (by kernel_rfl) rfl (fun _ => rfl) rfl ?_
            refine per_P 6 rfl (by kernel_rfl) rfl (fun _ => rfl) rfl ?_
            refine per_W 7 rfl (by kernel_rfl) rfl rfl (store_ok (m := 1) (T := tab) TabC.ok rfl rfl rfl rfl rfl rfl rfl rfl rfl rfl) rfl ?_
            refine per_done (by kernel_rfl) ?_
            repeat' first
              | refine aw_seq ?_
              | refine aw_region ?_
              | refine aw_lex [] ?_
              | (refine isA ?_; refine do_F rfl ?_)
              | (refine isL ?_; refine lex_F rfl (by kernel_rfl) rfl rfl ?_)
              | (refine isLg rfl ?_; refine lex_S rfl (by kernel_rfl) rfl rfl ?_)
              | refine aops_nil ?_
              | refine lex_done _ rfl (by kernel_rfl) ?_
              | refine aw_ct rfl ?_
              | refine aw_cf rfl ?_
              | refine aw_block ?_
              | refine then_n ?_
              | refine aw_skip ?_
              | refine aw_exit ?_
              | refine then_x ?_
              | refine then_r ?_
              | refine block_x ?_
              | refine block_n ?_
              | refine block_r ?_
              | refine aw_ret ?_
            refine ⟨⟨j + 1, by omega⟩, by simp only; omega, ?_⟩
            exact subm 1 [0, 1, 2] rfl rfl fix1 (by decide) (.cons rfl rfl rfl rfl (les_eq (by rw [E]) (curR_noH _)) (.cons rfl rfl rfl rfl (les_refl' rfl) (.cons rfl rfl rfl rfl (les_eq (by rw [E]; rfl) (noHs_mem rfl)) .nil))) (by
              repeat' first
                | exact les_nil
                | refine les_cons ?_ ?_
                | exact le_any
                | exact le_refl rfl
                | exact le_ptr rfl
                | exact le_k (congrArg _ (show (k : Int) - ((j + 1 : Nat) : Int) = IntKind.i64.wrap ((k : Int) - (j : Int) - 1) by rw [IntKind.wrap_i64]; omega)))
          · refine per_W 2 rfl (by kernel_rfl) rfl rfl (step_callMs (K := []) (Rs' := [_]) [0] (by decide) rfl (c_below 10 (beC 3 (turnsA p j).2) hcl) (.cons rfl rfl rfl (curR_noH _) (curR_noH _) .nil) (.cons (.ptr rfl) (.cons (.same rfl) .nil)) (fun q hq => by cases hq) rfl) rfl ?_
            refine per_R 3 rfl (by kernel_rfl) rfl (st_call rfl (c_srel (turnsA p j).1 _) (.cons (.same rfl) (.cons (.same rfl) .nil)) rfl) rfl ?_
            refine per_P 4 rfl (by kernel_rfl) rfl (fun _ => rfl) rfl ?_
            refine per_P 5 rfl (by kernel_rfl) rfl (fun _ => rfl) rfl ?_
            refine per_P 6 rfl (by kernel_rfl) rfl (fun _ => rfl) rfl ?_
            refine per_W 7 rfl (by kernel_rfl) rfl rfl (store_ok (m := 1) (T := tab) TabC.ok rfl rfl rfl rfl rfl rfl rfl rfl rfl rfl) rfl ?_
            refine per_done (by kernel_rfl) ?_
            repeat' first
              | refine aw_seq ?_
              | refine aw_region ?_
              | refine aw_lex [] ?_
              | (refine isA ?_; refine do_F rfl ?_)
              | (refine isL ?_; refine lex_F rfl (by kernel_rfl) rfl rfl ?_)
              | (refine isLg rfl ?_; refine lex_S rfl (by kernel_rfl) rfl rfl ?_)
              | refine aops_nil ?_
              | refine lex_done _ rfl (by kernel_rfl) ?_
              | refine aw_ct rfl ?_
              | refine aw_cf rfl ?_
              | refine aw_block ?_
              | refine then_n ?_
              | refine aw_skip ?_
              | refine aw_exit ?_
              | refine then_x ?_
              | refine then_r ?_
              | refine block_x ?_
              | refine block_n ?_
              | refine block_r ?_
              | refine aw_ret ?_
            refine ⟨⟨j + 1, by omega⟩, by simp only; omega, ?_⟩
            exact subm 1 [0, 1, 2] rfl rfl fix1 (by decide) (.cons rfl rfl rfl rfl (les_eq (by rw [E]) (curR_noH _)) (.cons rfl rfl rfl rfl (les_refl' rfl) (.cons rfl rfl rfl rfl (les_eq (by rw [E]; rfl) (noHs_mem rfl)) .nil))) (by
              repeat' first
                | exact les_nil
                | refine les_cons ?_ ?_
                | exact le_any
                | exact le_refl rfl
                | exact le_ptr rfl
                | exact le_k (congrArg _ (show (k : Int) - ((j + 1 : Nat) : Int) = IntKind.i64.wrap ((k : Int) - (j : Int) - 1) by rw [IntKind.wrap_i64]; omega)))
        · have E : turnsA p (j + 1) = ((sgV (turnsA p j).1 (IntKind.i64.wrap (8 + beV 40 (beC 3 (turnsA p j).2)))).1, beC 40 (beC 3 (turnsA p j).2)) := by rw [turnsA, turnA, a0, a1]; rfl
          refine aw_per [2, 8] 9 rfl ?_
          refine per_P 1 rfl (by kernel_rfl) rfl (fun _ => rfl) rfl ?_
          refine per_2F 2 0 rfl rfl (by kernel_rfl) (by kernel_rfl) rfl rfl (step_callMs (K := []) (Rs' := [_]) [0] (by decide) rfl (c_below 40 (beC 3 (turnsA p j).2) hcl) (.cons rfl rfl rfl (curR_noH _) (curR_noH _) .nil) (.cons (.ptr rfl) (.cons (.same rfl) .nil)) (fun q hq => by cases hq) rfl) rfl rfl rfl rfl ?_ ?_
          · refine per_F 0 rfl (by kernel_rfl) rfl rfl rfl ?_
            refine per_P 3 rfl (by kernel_rfl) rfl (fun _ => rfl) rfl ?_
            refine per_R 4 rfl (by kernel_rfl) rfl (st_call rfl (c_ssg (turnsA p j).1 _) (.cons (.same rfl) (.cons (.same rfl) .nil)) rfl) rfl ?_
            refine per_P 5 rfl (by kernel_rfl) rfl (fun _ => rfl) rfl ?_
            refine per_P 6 rfl (by kernel_rfl) rfl (fun _ => rfl) rfl ?_
            refine per_P 7 rfl (by kernel_rfl) rfl (fun _ => rfl) rfl ?_
            refine per_W 8 rfl (by kernel_rfl) rfl rfl (store_ok (m := 1) (T := tab) TabC.ok rfl rfl rfl rfl rfl rfl rfl rfl rfl rfl) rfl ?_
            refine per_done (by kernel_rfl) ?_
            repeat' first
              | refine aw_seq ?_
              | refine aw_region ?_
              | refine aw_lex [] ?_
              | (refine isA ?_; refine do_F rfl ?_)
              | (refine isL ?_; refine lex_F rfl (by kernel_rfl) rfl rfl ?_)
              | (refine isLg rfl ?_; refine lex_S rfl (by kernel_rfl) rfl rfl ?_)
              | refine aops_nil ?_
              | refine lex_done _ rfl (by kernel_rfl) ?_
              | refine aw_ct rfl ?_
              | refine aw_cf rfl ?_
              | refine aw_block ?_
              | refine then_n ?_
              | refine aw_skip ?_
              | refine aw_exit ?_
              | refine then_x ?_
              | refine then_r ?_
              | refine block_x ?_
              | refine block_n ?_
              | refine block_r ?_
              | refine aw_ret ?_
            refine ⟨⟨j + 1, by omega⟩, by simp only; omega, ?_⟩
            exact subm 1 [0, 1, 2] rfl rfl fix1 (by decide) (.cons rfl rfl rfl rfl (les_eq (by rw [E]) (curR_noH _)) (.cons rfl rfl rfl rfl (les_refl' rfl) (.cons rfl rfl rfl rfl (les_eq (by rw [E]; rfl) (noHs_mem rfl)) .nil))) (by
              repeat' first
                | exact les_nil
                | refine les_cons ?_ ?_
                | exact le_any
                | exact le_refl rfl
                | exact le_ptr rfl
                | exact le_k (congrArg _ (show (k : Int) - ((j + 1 : Nat) : Int) = IntKind.i64.wrap ((k : Int) - (j : Int) - 1) by rw [IntKind.wrap_i64]; omega)))
          · refine per_W 2 rfl (by kernel_rfl) rfl rfl (step_callMs (K := []) (Rs' := [_]) [0] (by decide) rfl (c_below 40 (beC 3 (turnsA p j).2) hcl) (.cons rfl rfl rfl (curR_noH _) (curR_noH _) .nil) (.cons (.ptr rfl) (.cons (.same rfl) .nil)) (fun q hq => by cases hq) rfl) rfl ?_
            refine per_P 3 rfl (by kernel_rfl) rfl (fun _ => rfl) rfl ?_
            refine per_R 4 rfl (by kernel_rfl) rfl (st_call rfl (c_ssg (turnsA p j).1 _) (.cons (.same rfl) (.cons (.same rfl) .nil)) rfl) rfl ?_
            refine per_P 5 rfl (by kernel_rfl) rfl (fun _ => rfl) rfl ?_
            refine per_P 6 rfl (by kernel_rfl) rfl (fun _ => rfl) rfl ?_
            refine per_P 7 rfl (by kernel_rfl) rfl (fun _ => rfl) rfl ?_
            refine per_W 8 rfl (by kernel_rfl) rfl rfl (store_ok (m := 1) (T := tab) TabC.ok rfl rfl rfl rfl rfl rfl rfl rfl rfl rfl) rfl ?_
            refine per_done (by kernel_rfl) ?_
            repeat' first
              | refine aw_seq ?_
              | refine aw_region ?_
              | refine aw_lex [] ?_
              | (refine isA ?_; refine do_F rfl ?_)
              | (refine isL ?_; refine lex_F rfl (by kernel_rfl) rfl rfl ?_)
              | (refine isLg rfl ?_; refine lex_S rfl (by kernel_rfl) rfl rfl ?_)
              | refine aops_nil ?_
              | refine lex_done _ rfl (by kernel_rfl) ?_
              | refine aw_ct rfl ?_
              | refine aw_cf rfl ?_
              | refine aw_block ?_
              | refine then_n ?_
              | refine aw_skip ?_
              | refine aw_exit ?_
              | refine then_x ?_
              | refine then_r ?_
              | refine block_x ?_
              | refine block_n ?_
              | refine block_r ?_
              | refine aw_ret ?_
            refine ⟨⟨j + 1, by omega⟩, by simp only; omega, ?_⟩
            exact subm 1 [0, 1, 2] rfl rfl fix1 (by decide) (.cons rfl rfl rfl rfl (les_eq (by rw [E]) (curR_noH _)) (.cons rfl rfl rfl rfl (les_refl' rfl) (.cons rfl rfl rfl rfl (les_eq (by rw [E]; rfl) (noHs_mem rfl)) .nil))) (by
              repeat' first
                | exact les_nil
                | refine les_cons ?_ ?_
                | exact le_any
                | exact le_refl rfl
                | exact le_ptr rfl
                | exact le_k (congrArg _ (show (k : Int) - ((j + 1 : Nat) : Int) = IntKind.i64.wrap ((k : Int) - (j : Int) - 1) by rw [IntKind.wrap_i64]; omega)))
    · have hge : j = k := by have := of_decide_eq_false h; simp only at this; omega
      subst hge
      have hcp : (beC 12 (turnsA p j).2).code.length ≤ 1000000000 := by rw [beC_code]; exact hcl0
      repeat' first
        | refine aw_seq ?_
        | refine aw_region ?_
        | refine aw_lex [] ?_
        | (refine isA ?_; refine do_F rfl ?_)
        | (refine isL ?_; refine lex_F rfl (by kernel_rfl) rfl rfl ?_)
        | (refine isLg rfl ?_; refine lex_S rfl (by kernel_rfl) rfl rfl ?_)
        | (refine isAc 90 ?_; refine do_R rfl (step_callMs (K := []) (Rs' := [_]) [0] (by decide) rfl (c_below 12 (turnsA p j).2 hcl0) (.cons rfl rfl rfl (curR_noH _) (curR_noH _) .nil) (.cons (.ptr rfl) (.cons (.same rfl) .nil)) (fun q hq => by cases hq) rfl) rfl ?_)
        | (refine isLc 90 rfl ?_; refine lex_R rfl (by kernel_rfl) rfl (step_callMs (K := []) (Rs' := [_]) [0] (by decide) rfl (c_below 12 (turnsA p j).2 hcl0) (.cons rfl rfl rfl (curR_noH _) (curR_noH _) .nil) (.cons (.ptr rfl) (.cons (.same rfl) .nil)) (fun q hq => by cases hq) rfl) rfl ?_)
        | refine aops_nil ?_
        | refine lex_done _ rfl (by kernel_rfl) ?_
        | refine aw_ct rfl ?_
        | refine aw_cf rfl ?_
        | refine aw_block ?_
        | refine then_n ?_
        | refine aw_skip ?_
        | refine aw_exit ?_
        | refine then_x ?_
        | refine then_r ?_
        | refine block_x ?_
        | refine block_n ?_
        | refine block_r ?_
        | refine aw_ret ?_
      refine aw_cond rfl (fun b0 => ?_) (fun b0 => ?_)
      · skip
        have D : drawA c = (⟨pkV [-1, 61, IntKind.i64.wrap ((turnsA p j).1.p + 1)] (beC 12 (turnsA p j).2), (turnsA p j).1.g, (turnsA p j).1.p, (turnsA p j).1.s⟩, beC 3 (beC 12 (turnsA p j).2)) := by rw [hda, lastA, b0]; rfl
        repeat' first
          | (refine isA ?_; refine do_R rfl (lit_of rfl rfl rfl rfl rfl) rfl ?_)
          | refine aw_seq ?_
          | refine aw_region ?_
          | refine aw_lex [] ?_
          | (refine isA ?_; refine do_F rfl ?_)
          | (refine isL ?_; refine lex_F rfl (by kernel_rfl) rfl rfl ?_)
          | (refine isLg rfl ?_; refine lex_S rfl (by kernel_rfl) rfl rfl ?_)
          | (refine isAc 88 ?_; refine do_R rfl (step_callMs (K := []) (Rs' := [_]) [0] (by decide) rfl (c_pickL [-1, 61, IntKind.i64.wrap ((turnsA p j).1.p + 1)] (beC 12 (turnsA p j).2) hcp (Nat.zero_lt_succ _)) (.cons rfl rfl rfl (curR_noH _) (curR_noH _) .nil) (.cons (.ptr rfl) (.cons (.same rfl) .nil)) (fun q hq => by cases hq) rfl) rfl ?_)
          | (refine isLc 88 rfl ?_; refine lex_R rfl (by kernel_rfl) rfl (step_callMs (K := []) (Rs' := [_]) [0] (by decide) rfl (c_pickL [-1, 61, IntKind.i64.wrap ((turnsA p j).1.p + 1)] (beC 12 (turnsA p j).2) hcp (Nat.zero_lt_succ _)) (.cons rfl rfl rfl (curR_noH _) (curR_noH _) .nil) (.cons (.ptr rfl) (.cons (.same rfl) .nil)) (fun q hq => by cases hq) rfl) rfl ?_)
          | exact (by rw [D]; exact finMC1 (cell_is rfl rfl rfl rfl rfl) (le_refl rfl) (.cons rfl rfl rfl rfl (les_refl (curR_noH _)) .nil))
          | refine aops_nil ?_
          | refine lex_done _ rfl (by kernel_rfl) ?_
          | refine aw_ct rfl ?_
          | refine aw_cf rfl ?_
          | refine aw_block ?_
          | refine then_n ?_
          | refine aw_skip ?_
          | refine aw_exit ?_
          | refine then_x ?_
          | refine then_r ?_
          | refine block_x ?_
          | refine block_n ?_
          | refine block_r ?_
          | refine aw_ret ?_
      · repeat' first
          | refine aw_seq ?_
          | refine aw_region ?_
          | refine aw_lex [] ?_
          | (refine isA ?_; refine do_F rfl ?_)
          | (refine isL ?_; refine lex_F rfl (by kernel_rfl) rfl rfl ?_)
          | (refine isLg rfl ?_; refine lex_S rfl (by kernel_rfl) rfl rfl ?_)
          | refine aops_nil ?_
          | refine lex_done _ rfl (by kernel_rfl) ?_
          | refine aw_ct rfl ?_
          | refine aw_cf rfl ?_
          | refine aw_block ?_
          | refine then_n ?_
          | refine aw_skip ?_
          | refine aw_exit ?_
          | refine then_x ?_
          | refine then_r ?_
          | refine block_x ?_
          | refine block_n ?_
          | refine block_r ?_
          | refine aw_ret ?_
        refine aw_cond rfl (fun b1 => ?_) (fun b1 => ?_)
        · skip
          have D : drawA c = (⟨(turnsA p j).1.u, pkV [7, 61] (beC 12 (turnsA p j).2), (turnsA p j).1.p, (turnsA p j).1.s⟩, beC 2 (beC 12 (turnsA p j).2)) := by rw [hda, lastA, b0, b1]; rfl
          repeat' first
            | (refine isA ?_; refine do_R rfl (lit_of rfl rfl rfl rfl rfl) rfl ?_)
            | refine aw_seq ?_
            | refine aw_region ?_
            | refine aw_lex [] ?_
            | (refine isA ?_; refine do_F rfl ?_)
            | (refine isL ?_; refine lex_F rfl (by kernel_rfl) rfl rfl ?_)
            | (refine isLg rfl ?_; refine lex_S rfl (by kernel_rfl) rfl rfl ?_)
            | (refine isAc 88 ?_; refine do_R rfl (step_callMs (K := []) (Rs' := [_]) [0] (by decide) rfl (c_pickL [7, 61] (beC 12 (turnsA p j).2) hcp (Nat.zero_lt_succ _)) (.cons rfl rfl rfl (curR_noH _) (curR_noH _) .nil) (.cons (.ptr rfl) (.cons (.same rfl) .nil)) (fun q hq => by cases hq) rfl) rfl ?_)
            | (refine isLc 88 rfl ?_; refine lex_R rfl (by kernel_rfl) rfl (step_callMs (K := []) (Rs' := [_]) [0] (by decide) rfl (c_pickL [7, 61] (beC 12 (turnsA p j).2) hcp (Nat.zero_lt_succ _)) (.cons rfl rfl rfl (curR_noH _) (curR_noH _) .nil) (.cons (.ptr rfl) (.cons (.same rfl) .nil)) (fun q hq => by cases hq) rfl) rfl ?_)
            | exact (by rw [D]; exact finMC1 (cell_is rfl rfl rfl rfl rfl) (le_refl rfl) (.cons rfl rfl rfl rfl (les_refl (curR_noH _)) .nil))
            | refine aops_nil ?_
            | refine lex_done _ rfl (by kernel_rfl) ?_
            | refine aw_ct rfl ?_
            | refine aw_cf rfl ?_
            | refine aw_block ?_
            | refine then_n ?_
            | refine aw_skip ?_
            | refine aw_exit ?_
            | refine then_x ?_
            | refine then_r ?_
            | refine block_x ?_
            | refine block_n ?_
            | refine block_r ?_
            | refine aw_ret ?_
        · repeat' first
            | refine aw_seq ?_
            | refine aw_region ?_
            | refine aw_lex [] ?_
            | (refine isA ?_; refine do_F rfl ?_)
            | (refine isL ?_; refine lex_F rfl (by kernel_rfl) rfl rfl ?_)
            | (refine isLg rfl ?_; refine lex_S rfl (by kernel_rfl) rfl rfl ?_)
            | refine aops_nil ?_
            | refine lex_done _ rfl (by kernel_rfl) ?_
            | refine aw_ct rfl ?_
            | refine aw_cf rfl ?_
            | refine aw_block ?_
            | refine then_n ?_
            | refine aw_skip ?_
            | refine aw_exit ?_
            | refine then_x ?_
            | refine then_r ?_
            | refine block_x ?_
            | refine block_n ?_
            | refine block_r ?_
            | refine aw_ret ?_
          refine aw_cond rfl (fun b2 => ?_) (fun b2 => ?_)
          · skip
            have D : drawA c = (⟨(turnsA p j).1.u, (turnsA p j).1.g, (turnsA p j).1.p, pkV [-1, 1000, 1001] (beC 12 (turnsA p j).2)⟩, beC 3 (beC 12 (turnsA p j).2)) := by rw [hda, lastA, b0, b1, b2]; rfl
            repeat' first
              | (refine isA ?_; refine do_R rfl (lit_of rfl rfl rfl rfl rfl) rfl ?_)
              | refine aw_seq ?_
              | refine aw_region ?_
              | refine aw_lex [] ?_
              | (refine isA ?_; refine do_F rfl ?_)
              | (refine isL ?_; refine lex_F rfl (by kernel_rfl) rfl rfl ?_)
              | (refine isLg rfl ?_; refine lex_S rfl (by kernel_rfl) rfl rfl ?_)
              | (refine isAc 88 ?_; refine do_R rfl (step_callMs (K := []) (Rs' := [_]) [0] (by decide) rfl (c_pickL [-1, 1000, 1001] (beC 12 (turnsA p j).2) hcp (Nat.zero_lt_succ _)) (.cons rfl rfl rfl (curR_noH _) (curR_noH _) .nil) (.cons (.ptr rfl) (.cons (.same rfl) .nil)) (fun q hq => by cases hq) rfl) rfl ?_)
              | (refine isLc 88 rfl ?_; refine lex_R rfl (by kernel_rfl) rfl (step_callMs (K := []) (Rs' := [_]) [0] (by decide) rfl (c_pickL [-1, 1000, 1001] (beC 12 (turnsA p j).2) hcp (Nat.zero_lt_succ _)) (.cons rfl rfl rfl (curR_noH _) (curR_noH _) .nil) (.cons (.ptr rfl) (.cons (.same rfl) .nil)) (fun q hq => by cases hq) rfl) rfl ?_)
              | exact (by rw [D]; exact finMC1 (cell_is rfl rfl rfl rfl rfl) (le_refl rfl) (.cons rfl rfl rfl rfl (les_refl (curR_noH _)) .nil))
              | refine aops_nil ?_
              | refine lex_done _ rfl (by kernel_rfl) ?_
              | refine aw_ct rfl ?_
              | refine aw_cf rfl ?_
              | refine aw_block ?_
              | refine then_n ?_
              | refine aw_skip ?_
              | refine aw_exit ?_
              | refine then_x ?_
              | refine then_r ?_
              | refine block_x ?_
              | refine block_n ?_
              | refine block_r ?_
              | refine aw_ret ?_
          · skip
            have D : drawA c = ((turnsA p j).1, (beC 12 (turnsA p j).2)) := by rw [hda, lastA, b0, b1, b2]; rfl
            repeat' first
              | refine aw_seq ?_
              | refine aw_region ?_
              | refine aw_lex [] ?_
              | (refine isA ?_; refine do_F rfl ?_)
              | (refine isL ?_; refine lex_F rfl (by kernel_rfl) rfl rfl ?_)
              | (refine isLg rfl ?_; refine lex_S rfl (by kernel_rfl) rfl rfl ?_)
              | exact (by rw [D]; exact finMC1 (cell_is rfl rfl rfl rfl rfl) (le_refl rfl) (.cons rfl rfl rfl rfl (les_refl (curR_noH _)) .nil))
              | refine aops_nil ?_
              | refine lex_done _ rfl (by kernel_rfl) ?_
              | refine aw_ct rfl ?_
              | refine aw_cf rfl ?_
              | refine aw_block ?_
              | refine then_n ?_
              | refine aw_skip ?_
              | refine aw_exit ?_
              | refine then_x ?_
              | refine then_r ?_
              | refine block_x ?_
              | refine block_n ?_
              | refine block_r ?_
              | refine aw_ret ?_
end Go.Proofs.Ytjlhfemfmkdlhaa.Ab
