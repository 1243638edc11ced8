/- Texts DrwK, DrwL in one. -/
import Derived.Test.YtjlhfemfmkdlhaaMrgE
import Derived.Test.YtjlhfemfmkdlhaaMrgD
set_option linter.unusedVariables false
set_option linter.unusedSimpArgs false
set_option maxRecDepth 20000
set_option maxHeartbeats 4000000
/- DrwK -/
namespace Go.Proofs.Ytjlhfemfmkdlhaa.Ab
open Go.RowKit

def nbV (n : Int) : Br × Bool := cond (inV n 8 120) (⟨n, 0, [], []⟩, true) (⟨0, 0, [], []⟩, false)
abbrev nilS : V := .k (.slice none 0 0)
def nbE (n : Int) : List V := [I (nbV n).1.pool, I 0, nilS, nilS]
theorem c_snb (n : Int) : Meets Go.Proofs.Try.prog 15 [I n] [] (.tup [.agg (nbE n), B (nbV n).2]) [] true := by
  refine meets_ofCT 2 24 [3] Go.Proofs.Try.func15 rfl rfl rfl ?_
  simp only [Go.Proofs.Try.ntmps15, List.length_cons, List.length_nil, Nat.reduceAdd, Nat.reduceSub, List.replicate_succ, List.replicate_zero, List.cons_append, List.nil_append]
  repeat' first
    | refine aw_seq ?_
    | refine aw_region ?_
    | refine aw_lex [] ?_
    | (refine isA ?_; refine do_F rfl ?_)
    | (refine isL ?_; refine lex_F rfl (by kernel_rfl) rfl rfl ?_)
    | (refine isLg rfl ?_; refine lex_S rfl (by kernel_rfl) rfl rfl ?_)
    | (refine isAc 65 ?_; refine do_R rfl (st_call rfl (c_in _ _ _) (.cons (.same rfl) (.cons (.same rfl) (.cons (.same rfl) .nil))) rfl) rfl ?_)
    | (refine isLc 65 rfl ?_; refine lex_R rfl (by kernel_rfl) rfl (st_call rfl (c_in _ _ _) (.cons (.same rfl) (.cons (.same rfl) (.cons (.same rfl) .nil))) rfl) rfl ?_)
    | refine aops_nil ?_
    | refine lex_done _ rfl (by kernel_rfl) ?_
    | refine aw_ct rfl ?_
    | refine aw_cf rfl ?_
    | refine aw_block ?_
    | refine then_n ?_
    | refine aw_skip ?_
    | refine aw_exit ?_
    | refine then_x ?_
    | refine then_r ?_
    | refine block_x ?_
    | refine block_n ?_
    | refine block_r ?_
    | refine aw_ret ?_
  refine aw_cond rfl (fun k1 => ?_) (fun k1 => ?_)
  · have k1 : inV n 8 120 = false := by simpa using k1
    repeat' first
      | refine aw_seq ?_
      | refine aw_region ?_
      | refine aw_lex [] ?_
      | (refine isA ?_; refine do_F rfl ?_)
      | (refine isL ?_; refine lex_F rfl (by kernel_rfl) rfl rfl ?_)
      | (refine isLg rfl ?_; refine lex_S rfl (by kernel_rfl) rfl rfl ?_)
      | exact (by rw [nbE, nbV, k1]; exact finCT (cell_is rfl rfl rfl rfl rfl) (.same rfl))
      | refine aops_nil ?_
      | refine lex_done _ rfl (by kernel_rfl) ?_
      | refine aw_ct rfl ?_
      | refine aw_cf rfl ?_
      | refine aw_block ?_
      | refine then_n ?_
      | refine aw_skip ?_
      | refine aw_exit ?_
      | refine then_x ?_
      | refine then_r ?_
      | refine block_x ?_
      | refine block_n ?_
      | refine block_r ?_
      | refine aw_ret ?_
  · have k1 : inV n 8 120 = true := by simpa using k1
    repeat' first
      | refine aw_seq ?_
      | refine aw_region ?_
      | refine aw_lex [] ?_
      | (refine isA ?_; refine do_F rfl ?_)
      | (refine isL ?_; refine lex_F rfl (by kernel_rfl) rfl rfl ?_)
      | (refine isLg rfl ?_; refine lex_S rfl (by kernel_rfl) rfl rfl ?_)
      | exact (by rw [nbE, nbV, k1]; exact finCT (cell_is rfl rfl rfl rfl rfl) (.same rfl))
      | refine aops_nil ?_
      | refine lex_done _ rfl (by kernel_rfl) ?_
      | refine aw_ct rfl ?_
      | refine aw_cf rfl ?_
      | refine aw_block ?_
      | refine then_n ?_
      | refine aw_skip ?_
      | refine aw_exit ?_
      | refine then_x ?_
      | refine then_r ?_
      | refine block_x ?_
      | refine block_n ?_
      | refine block_r ?_
      | refine aw_ret ?_

def turnB (p : Br × Cur) : Br × Cur :=
  cond (decide (beV 4 p.2 = 0)) ((rmV p.1 (beV 6 (beC 4 p.2))).1, beC 6 (beC 4 p.2))
    (cond (decide (beV 4 p.2 = 1)) ((srV p.1 (beV 6 (beC 4 p.2)) (IntKind.i64.wrap (8 + beV 30 (beC 6 (beC 4 p.2))))).1, beC 30 (beC 6 (beC 4 p.2)))
      ((adV p.1 (IntKind.i64.wrap (8 + beV 40 (beC 4 p.2))) (beV 4 (beC 40 (beC 4 p.2)))).1, beC 4 (beC 40 (beC 4 p.2))))
def turnsB (p : Br × Cur) : Nat → Br × Cur
  | 0 => p
  | i + 1 => turnB (turnsB p i)
def lastB (p : Br × Cur) : Br × Cur :=
  cond (decide (beV 14 p.2 = 0)) (⟨pkV [7, 121, 9] (beC 14 p.2), p.1.next, p.1.act, p.1.wait⟩, beC 3 (beC 14 p.2))
    (cond (decide (beV 14 p.2 = 1)) (⟨p.1.pool, pkV [0, -1, 1001, 1000] (beC 14 p.2), p.1.act, p.1.wait⟩, beC 4 (beC 14 p.2))
      (cond (decide (beV 14 p.2 = 2)) (⟨p.1.pool, p.1.next, p.1.act, p.1.wait ++ [⟨2, 8, 0⟩]⟩, beC 14 p.2) (p.1, beC 14 p.2)))
def drawB (c : Cur) : Br × Cur := lastB (turnsB ((nbV (pkV [8, 20, 30, 60, 120] c)).1, beC 9 (beC 5 c)) (beV 9 (beC 5 c)).toNat)
theorem turnB_code (p : Br × Cur) : (turnB p).2.code = p.2.code := by
  unfold turnB
  cases decide (beV 4 p.2 = 0) <;> cases decide (beV 4 p.2 = 1) <;> simp [beC_code]
theorem turnsB_code (p : Br × Cur) : ∀ i, (turnsB p i).2.code = p.2.code
  | 0 => rfl
  | i + 1 => by rw [turnsB, turnB_code, turnsB_code p i]
theorem drawB_code (c : Cur) : (drawB c).2.code = c.code := by
  unfold drawB lastB
  generalize hq : turnsB ((nbV (pkV [8, 20, 30, 60, 120] c)).1, beC 9 (beC 5 c)) (beV 9 (beC 5 c)).toNat = q
  have hc : q.2.code = c.code := by rw [← hq, turnsB_code]; show (beC 9 (beC 5 c)).code = _; rw [beC_code, beC_code]
  cases decide (beV 14 q.2 = 0) <;> cases decide (beV 14 q.2 = 1) <;> cases decide (beV 14 q.2 = 2) <;> simp [beC_code, hc]
theorem turnB_len (p : Br × Cur) : (turnB p).1.act.length ≤ p.1.act.length + 1 ∧ (turnB p).1.wait.length ≤ p.1.wait.length + 1 := by
  unfold turnB
  have h1 := rmV_len p.1 (beV 6 (beC 4 p.2))
  have h2 := srV_len p.1 (beV 6 (beC 4 p.2)) (IntKind.i64.wrap (8 + beV 30 (beC 6 (beC 4 p.2))))
  have h3 := adV_len p.1 (IntKind.i64.wrap (8 + beV 40 (beC 4 p.2))) (beV 4 (beC 40 (beC 4 p.2)))
  cases decide (beV 4 p.2 = 0)
  · cases decide (beV 4 p.2 = 1)
    · simpa using h3
    · simp only [cond_true, cond_false]; omega
  · simpa using h1
theorem turnsB_len (p : Br × Cur) : ∀ i, (turnsB p i).1.act.length ≤ p.1.act.length + i ∧ (turnsB p i).1.wait.length ≤ p.1.wait.length + i
  | 0 => ⟨Nat.le_refl _, Nat.le_refl _⟩
  | i + 1 => by
    have h1 := turnsB_len p i
    have h2 := turnB_len (turnsB p i)
    rw [turnsB]
    omega
theorem nb_len (n : Int) : (nbV n).1.act = [] ∧ (nbV n).1.wait = [] ∧ (nbV n).1.next = 0 := by unfold nbV; cases inV n 8 120 <;> exact ⟨rfl, rfl, rfl⟩
theorem drawB_len (c : Cur) : (drawB c).1.act.length ≤ 10 ∧ (drawB c).1.wait.length ≤ 10 := by
  unfold drawB lastB
  generalize hq : turnsB ((nbV (pkV [8, 20, 30, 60, 120] c)).1, beC 9 (beC 5 c)) (beV 9 (beC 5 c)).toNat = q
  obtain ⟨k0, k1⟩ := beV_range (n := 9) (by omega) (beC 5 c)
  have h1 := turnsB_len ((nbV (pkV [8, 20, 30, 60, 120] c)).1, beC 9 (beC 5 c)) (beV 9 (beC 5 c)).toNat
  obtain ⟨n1, n2, _⟩ := nb_len (pkV [8, 20, 30, 60, 120] c)
  rw [hq] at h1
  simp only [n1, n2, List.length_nil] at h1
  cases decide (beV 14 q.2 = 0) <;> cases decide (beV 14 q.2 = 1) <;> cases decide (beV 14 q.2 = 2) <;> simp <;> omega

theorem finMC1n {l : List V} {H : List Reg} {t : Tmp} {n : Nat} {v r : V} {K : List Reg} (ψ : List Nat) (hfix : ∀ i, i < 1 → ψ[i]? = some i) (hnd : ψ.Nodup) (hv : CellIs l H t n v) (hr : Le ψ r v) (hH : HLes ψ H ψ K) :
    (Exit.ret = .ret ∨ Exit.ret = .normal) ∧ ∃ v, CellIs l H t n v ∧ Out true r K v ⟨l, H, 1⟩ := ⟨Or.inl rfl, v, hv, out_of (S := ⟨l, H, 1⟩) ψ hfix (hle_of hnd hH) hr (Or.inl rfl)⟩

abbrev cellB (b : Br) : Reg := ⟨24, 4, [I b.pool, I b.next, .sl 3 0 b.act.length, .sl 4 0 b.wait.length], 0⟩
abbrev cell0 : Reg := ⟨24, 4, [I 0, I 0, nilS, nilS], 0⟩

theorem c_broker (c : Cur) (hl : c.code.length ≤ 1000000000) : Meets Go.Proofs.Try.prog 82 [.ptr 0 0] [curR c] (.agg [I (drawB c).1.pool, I (drawB c).1.next, .sl 1 0 (drawB c).1.act.length, .sl 2 0 (drawB c).1.wait.length]) (curR (drawB c).2 :: brK (drawB c).1.act (drawB c).1.wait) true := by
  refine meets_ofC 2 24 Go.Proofs.Try.func82 rfl rfl ?_
  simp only [Go.Proofs.Try.ntmps82, List.length_cons, List.length_nil, Nat.reduceAdd, Nat.reduceSub, List.replicate_succ, List.replicate_zero, List.cons_append, List.nil_append]
  repeat' first
    | (refine isA ?_; refine do_R rfl (lit_of rfl rfl rfl rfl rfl) rfl ?_)
    | refine aw_seq ?_
    | refine aw_region ?_
    | refine aw_lex [] ?_
    | (refine isA ?_; refine do_F rfl ?_)
    | (refine isL ?_; refine lex_F rfl (by kernel_rfl) rfl rfl ?_)
    | (refine isLg rfl ?_; refine lex_S rfl (by kernel_rfl) rfl rfl ?_)
    | (refine isAc 88 ?_; refine do_R rfl (step_callMs (K := []) (Rs' := [_]) [0] (by decide) rfl (c_pickL [8, 20, 30, 60, 120] c hl (by decide)) (.cons rfl rfl rfl (curR_noH _) (curR_noH _) .nil) (.cons (.ptr rfl) (.cons (.same rfl) .nil)) (fun q hq => by cases hq) rfl) rfl ?_)
    | (refine isLc 88 rfl ?_; refine lex_R rfl (by kernel_rfl) rfl (step_callMs (K := []) (Rs' := [_]) [0] (by decide) rfl (c_pickL [8, 20, 30, 60, 120] c hl (by decide)) (.cons rfl rfl rfl (curR_noH _) (curR_noH _) .nil) (.cons (.ptr rfl) (.cons (.same rfl) .nil)) (fun q hq => by cases hq) rfl) rfl ?_)
    | (refine isAc 15 ?_; refine do_R rfl (st_call rfl (c_snb _) (.cons (.same rfl) .nil) rfl) rfl ?_)
    | (refine isLc 15 rfl ?_; refine lex_R rfl (by kernel_rfl) rfl (st_call rfl (c_snb _) (.cons (.same rfl) .nil) rfl) rfl ?_)
    | (refine isAc 90 ?_; refine do_R rfl (step_callMs (K := []) (Rs' := [_]) [0] (by decide) rfl (c_below 9 (beC 5 c) hl) (.cons rfl rfl rfl (curR_noH _) (curR_noH _) .nil) (.cons (.ptr rfl) (.cons (.same rfl) .nil)) (fun q hq => by cases hq) rfl) rfl ?_)
    | (refine isLc 90 rfl ?_; refine lex_R rfl (by kernel_rfl) rfl (step_callMs (K := []) (Rs' := [_]) [0] (by decide) rfl (c_below 9 (beC 5 c) hl) (.cons rfl rfl rfl (curR_noH _) (curR_noH _) .nil) (.cons (.ptr rfl) (.cons (.same rfl) .nil)) (fun q hq => by cases hq) rfl) rfl ?_)
    | refine aops_nil ?_
    | refine lex_done _ rfl (by kernel_rfl) ?_
    | refine aw_ct rfl ?_
    | refine aw_cf rfl ?_
    | refine aw_block ?_
    | refine then_n ?_
    | refine aw_skip ?_
    | refine aw_exit ?_
    | refine then_x ?_
    | refine then_r ?_
    | refine block_x ?_
    | refine block_n ?_
    | refine block_r ?_
    | refine aw_ret ?_
  obtain ⟨k0, k1⟩ := beV_range (n := 9) (by omega) (beC 5 c)
  obtain ⟨k, hk⟩ : ∃ k : Nat, beV 9 (beC 5 c) = k := ⟨(beV 9 (beC 5 c)).toNat, by omega⟩
  obtain ⟨n1, n2, n3⟩ := nb_len (pkV [8, 20, 30, 60, 120] c)
  generalize hp : ((nbV (pkV [8, 20, 30, 60, 120] c)).1, beC 9 (beC 5 c)) = p
  have hda : drawB c = lastB (turnsB p k) := by rw [drawB, hp, hk]; rfl
  have hpc : p.2.code.length ≤ 1000000000 := by rw [← hp]; show (beC 9 (beC 5 c)).code.length ≤ _; rw [beC_code, beC_code]; exact hl
  have hpa : p.1.act = [] := by rw [← hp]; exact n1
  have hpw : p.1.wait = [] := by rw [← hp]; exact n2
  have hpn : p.1.next = 0 := by rw [← hp]; exact n3
  have hpp : (nbV (pkV [8, 20, 30, 60, 120] c)).1.pool = p.1.pool := by rw [← hp]
  refine aw_loop (α := { j : Nat // j ≤ k }) (fun j => ⟨((.ptr 0 0) :: .any :: (.ptr 1 0) :: (.ptr 2 0) :: .any :: (I ((k : Int) - j.1)) :: .any :: .any :: .any :: .any :: .any :: .any :: .any :: .any :: .any :: .any :: .any :: .any :: .any :: .any :: .any :: .any :: .any :: .any :: .any :: .any :: .any :: .any :: .any :: .any :: .any :: .any :: .any :: .any :: .any :: .any :: .any :: .any :: .any :: .any :: .any :: .any :: .any :: .any :: .any :: .any :: .any :: .any :: .any :: .any :: .any :: .any :: .any :: .any :: .any :: .any :: .any :: .any :: .any :: .any :: .any :: .any :: .any :: .any :: .any :: .any :: .any :: .any :: .any :: .any :: .any :: .any :: .any :: .any :: .any :: .any :: []), curR (turnsB p j.1).2 :: cell0 :: cellB (turnsB p j.1).1 :: brK (turnsB p j.1).1.act (turnsB p j.1).1.wait, 1⟩) (fun j => k - j.1) ⟨0, Nat.zero_le _⟩ ?_ ?_
  · refine Sub.trans ?_ (sub_nil 53 3 (.rest _) (.cons (.rest _) (.cons (.rest _) (.cons (.cons (.same _) (.cons (.same _) (.cons .nil (.rest _)))) (.rest _)))))
    refine Sub.trans ?_ (sub_nil 53 3 (.rest _) (.cons (.rest _) (.cons (.rest _) (.cons (.cons (.same _) (.cons (.same _) (.cons (.same _) (.cons .nil (.rest _))))) (.rest _)))))
    exact subm 1 [0, 1, 2, 3, 4] rfl rfl fix1 (by decide) (.cons rfl rfl rfl rfl (les_eq (by rw [turnsB, ← hp]) (curR_noH _)) (.cons rfl rfl rfl rfl (les_refl' rfl) (.cons rfl rfl rfl rfl (les_cons (le_k (congrArg _ hpp.symm)) (les_cons (le_k (congrArg _ hpn)) (les_cons (le_sl rfl (by rw [turnsB, hpa]; rfl)) (les_cons (le_sl rfl (by rw [turnsB, hpw]; rfl)) les_nil)))) (.cons rfl rfl rfl rfl (les_eq (by rw [turnsB, hpa]; rfl) (flat_noH _ _)) (.cons rfl rfl rfl rfl (les_eq (by rw [turnsB, hpw]; rfl) (flat_noH _ _)) .nil))))) (by
        repeat' first
          | exact les_nil
          | refine les_cons ?_ ?_
          | exact le_any
          | exact le_refl rfl
          | exact le_ptr rfl
          | exact le_k (congrArg _ (by rw [hk]; simp)))
  · rintro ⟨j, hj⟩
    have hcl0 : (turnsB p j).2.code.length ≤ 1000000000 := by rw [turnsB_code]; exact hpc
    have hlen := turnsB_len p j
    rw [hpa, hpw] at hlen
    simp only [List.length_nil, Nat.zero_add] at hlen
    have hla : (turnsB p j).1.act.length ≤ 1000000000 := by omega
    have hlw : (turnsB p j).1.wait.length ≤ 1000000000 := by omega
    repeat' first
      | refine aw_seq ?_
      | refine aw_region ?_
      | refine aw_lex [] ?_
      | (refine isA ?_; refine do_F rfl ?_)
      | (refine isL ?_; refine lex_F rfl (by kernel_rfl) rfl rfl ?_)
      | (refine isLg rfl ?_; refine lex_S rfl (by kernel_rfl) rfl rfl ?_)
      | refine aops_nil ?_
      | refine lex_done _ rfl (by kernel_rfl) ?_
      | refine aw_ct rfl ?_
      | refine aw_cf rfl ?_
      | refine aw_block ?_
      | refine then_n ?_
      | refine aw_skip ?_
      | refine aw_exit ?_
      | refine then_x ?_
      | refine then_r ?_
      | refine block_x ?_
      | refine block_n ?_
      | refine block_r ?_
      | refine aw_ret ?_
    refine aw_cond rfl (fun h => ?_) (fun h => ?_)
    · have hlt : j < k := by have := of_decide_eq_true h; simp only at this; omega
      repeat' first
        | refine aw_seq ?_
        | refine aw_region ?_
        | refine aw_lex [] ?_
        | (refine isA ?_; refine do_F rfl ?_)
        | (refine isL ?_; refine lex_F rfl (by kernel_rfl) rfl rfl ?_)
        | (refine isLg rfl ?_; refine lex_S rfl (by kernel_rfl) rfl rfl ?_)
        | (refine isAc 90 ?_; refine do_R rfl (step_callMs (K := []) (Rs' := [_]) [0] (by decide) rfl (c_below 4 (turnsB p j).2 (by first | exact hcl0 | (simp only [beC_code]; exact hcl0))) (.cons rfl rfl rfl (curR_noH _) (curR_noH _) .nil) (.cons (.ptr rfl) (.cons (.same rfl) .nil)) (fun q hq => by cases hq) rfl) rfl ?_)
        | (refine isLc 90 rfl ?_; refine lex_R rfl (by kernel_rfl) rfl (step_callMs (K := []) (Rs' := [_]) [0] (by decide) rfl (c_below 4 (turnsB p j).2 (by first | exact hcl0 | (simp only [beC_code]; exact hcl0))) (.cons rfl rfl rfl (curR_noH _) (curR_noH _) .nil) (.cons (.ptr rfl) (.cons (.same rfl) .nil)) (fun q hq => by cases hq) rfl) rfl ?_)
        | refine aops_nil ?_
        | refine lex_done _ rfl (by kernel_rfl) ?_
        | refine aw_ct rfl ?_
        | refine aw_cf rfl ?_
        | refine aw_block ?_
        | refine then_n ?_
        | refine aw_skip ?_
        | refine aw_exit ?_
        | refine then_x ?_
        | refine then_r ?_
        | refine block_x ?_
        | refine block_n ?_
        | refine block_r ?_
        | refine aw_ret ?_
      refine aw_cond rfl (fun a0 => ?_) (fun a0 => ?_)
      · have E : turnsB p (j + 1) = ((rmV (turnsB p j).1 (beV 6 (beC 4 (turnsB p j).2))).1, beC 6 (beC 4 (turnsB p j).2)) := by rw [turnsB, turnB, a0]; rfl
        refine aw_per [2, 3, 7] 8 rfl ?_
        refine per_P 1 rfl (by kernel_rfl) rfl (fun _ => rfl) rfl ?_
        refine per_2F 2 0 rfl rfl (by kernel_rfl) (by kernel_rfl) rfl rfl (step_callMs (K := []) (Rs' := [_]) [0] (by decide) rfl (c_below 6 (beC 4 (turnsB p j).2) (by first | exact hcl0 | (simp only [beC_code]; exact hcl0))) (.cons rfl rfl rfl (curR_noH _) (curR_noH _) .nil) (.cons (.ptr rfl) (.cons (.same rfl) .nil)) (fun q hq => by cases hq) rfl) rfl rfl rfl rfl ?_ ?_
        · skip
          refine per_F 0 rfl (by kernel_rfl) rfl rfl rfl ?_
          refine per_W 3 rfl (by kernel_rfl) rfl rfl (st_callK rfl (c_srm (turnsB p j).1 (beV 6 (beC 4 (turnsB p j).2)) hla hlw) (.cons (.agg (.cons (.same rfl) (.cons (.same rfl) (.cons (pur_l rfl rfl) (.cons (pur_l rfl rfl) .nil))))) (.cons (.same rfl) .nil)) (brK_noH _ _) rfl rfl) rfl ?_
          refine per_P 4 rfl (by kernel_rfl) rfl (fun _ => rfl) rfl ?_
          refine per_P 5 rfl (by kernel_rfl) rfl (fun _ => rfl) rfl ?_
          refine per_P 6 rfl (by kernel_rfl) rfl (fun _ => rfl) rfl ?_
          refine per_W 7 rfl (by kernel_rfl) rfl rfl (store_ok (m := 1) (T := tab) TabC.ok rfl rfl rfl rfl rfl rfl rfl rfl rfl rfl) rfl ?_
          refine per_done (by kernel_rfl) ?_
          repeat' first
            | refine aw_seq ?_
            | refine aw_region ?_
            | refine aw_lex [] ?_
            | (refine isA ?_; refine do_F rfl ?_)
            | (refine isL ?_; refine lex_F rfl (by kernel_rfl) rfl rfl ?_)
            | (refine isLg rfl ?_; refine lex_S rfl (by kernel_rfl) rfl rfl ?_)
            | refine aops_nil ?_
            | refine lex_done _ rfl (by kernel_rfl) ?_
            | refine aw_ct rfl ?_
            | refine aw_cf rfl ?_
            | refine aw_block ?_
            | refine then_n ?_
            | refine aw_skip ?_
            | refine aw_exit ?_
            | refine then_x ?_
            | refine then_r ?_
            | refine block_x ?_
            | refine block_n ?_
            | refine block_r ?_
            | refine aw_ret ?_
          refine ⟨⟨j + 1, by omega⟩, by simp only; omega, ?_⟩
          refine subm 1 [0, 1, 2, 5, 6] rfl rfl fix1 (by decide) (.cons rfl rfl rfl rfl (les_eq (by rw [E]) (curR_noH _)) (.cons rfl rfl rfl rfl (les_refl' rfl) (.cons rfl rfl rfl rfl (les_cons (le_k (congrArg _ (by rw [E]))) (les_cons (le_k (congrArg _ (by rw [E]))) (les_cons (le_sl rfl (by rw [E])) (les_cons (le_sl rfl (by rw [E])) les_nil)))) (.cons rfl rfl rfl rfl (les_eq (by rw [E]) (flat_noH _ _)) (.cons rfl rfl rfl rfl (les_eq (by rw [E]) (flat_noH _ _)) .nil))))) (by
            repeat' first
              | exact les_nil
              | refine les_cons ?_ ?_
              | exact le_any
              | exact le_refl rfl
              | exact le_ptr rfl
              | exact le_k (congrArg _ (show (k : Int) - ((j + 1 : Nat) : Int) = IntKind.i64.wrap ((k : Int) - (j : Int) - 1) by rw [IntKind.wrap_i64]; omega)))
        · skip
          refine per_W 2 rfl (by kernel_rfl) rfl rfl (step_callMs (K := []) (Rs' := [_]) [0] (by decide) rfl (c_below 6 (beC 4 (turnsB p j).2) (by first | exact hcl0 | (simp only [beC_code]; exact hcl0))) (.cons rfl rfl rfl (curR_noH _) (curR_noH _) .nil) (.cons (.ptr rfl) (.cons (.same rfl) .nil)) (fun q hq => by cases hq) rfl) rfl ?_
          refine per_W 3 rfl (by kernel_rfl) rfl rfl (st_callK rfl (c_srm (turnsB p j).1 (beV 6 (beC 4 (turnsB p j).2)) hla hlw) (.cons (.agg (.cons (.same rfl) (.cons (.same rfl) (.cons (pur_l rfl rfl) (.cons (pur_l rfl rfl) .nil))))) (.cons (.same rfl) .nil)) (brK_noH _ _) rfl rfl) rfl ?_
          refine per_P 4 rfl (by kernel_rfl) rfl (fun _ => rfl) rfl ?_
          refine per_P 5 rfl (by kernel_rfl) rfl (fun _ => rfl) rfl ?_
          refine per_P 6 rfl (by kernel_rfl) rfl (fun _ => rfl) rfl ?_
          refine per_W 7 rfl (by kernel_rfl) rfl rfl (store_ok (m := 1) (T := tab) TabC.ok rfl rfl rfl rfl rfl rfl rfl rfl rfl rfl) rfl ?_
          refine per_done (by kernel_rfl) ?_
          repeat' first
            | refine aw_seq ?_
            | refine aw_region ?_
            | refine aw_lex [] ?_
            | (refine isA ?_; refine do_F rfl ?_)
            | (refine isL ?_; refine lex_F rfl (by kernel_rfl) rfl rfl ?_)
            | (refine isLg rfl ?_; refine lex_S rfl (by kernel_rfl) rfl rfl ?_)
            | refine aops_nil ?_
            | refine lex_done _ rfl (by kernel_rfl) ?_
            | refine aw_ct rfl ?_
            | refine aw_cf rfl ?_
            | refine aw_block ?_
            | refine then_n ?_
            | refine aw_skip ?_
            | refine aw_exit ?_
            | refine then_x ?_
            | refine then_r ?_
            | refine block_x ?_
            | refine block_n ?_
            | refine block_r ?_
            | refine aw_ret ?_
          refine ⟨⟨j + 1, by omega⟩, by simp only; omega, ?_⟩
          refine subm 1 [0, 1, 2, 5, 6] rfl rfl fix1 (by decide) (.cons rfl rfl rfl rfl (les_eq (by rw [E]) (curR_noH _)) (.cons rfl rfl rfl rfl (les_refl' rfl) (.cons rfl rfl rfl rfl (les_cons (le_k (congrArg _ (by rw [E]))) (les_cons (le_k (congrArg _ (by rw [E]))) (les_cons (le_sl rfl (by rw [E])) (les_cons (le_sl rfl (by rw [E])) les_nil)))) (.cons rfl rfl rfl rfl (les_eq (by rw [E]) (flat_noH _ _)) (.cons rfl rfl rfl rfl (les_eq (by rw [E]) (flat_noH _ _)) .nil))))) (by
            repeat' first
              | exact les_nil
              | refine les_cons ?_ ?_
              | exact le_any
              | exact le_refl rfl
              | exact le_ptr rfl
              | exact le_k (congrArg _ (show (k : Int) - ((j + 1 : Nat) : Int) = IntKind.i64.wrap ((k : Int) - (j : Int) - 1) by rw [IntKind.wrap_i64]; omega)))
      · repeat' first
          | refine aw_seq ?_
          | refine aw_region ?_
          | refine aw_lex [] ?_
          | (refine isA ?_; refine do_F rfl ?_)
          | (refine isL ?_; refine lex_F rfl (by kernel_rfl) rfl rfl ?_)
          | (refine isLg rfl ?_; refine lex_S rfl (by kernel_rfl) rfl rfl ?_)
          | refine aops_nil ?_
          | refine lex_done _ rfl (by kernel_rfl) ?_
          | refine aw_ct rfl ?_
          | refine aw_cf rfl ?_
          | refine aw_block ?_
          | refine then_n ?_
          | refine aw_skip ?_
          | refine aw_exit ?_
          | refine then_x ?_
          | refine then_r ?_
          | refine block_x ?_
          | refine block_n ?_
          | refine block_r ?_
          | refine aw_ret ?_
        refine aw_cond rfl (fun a1 => ?_) (fun a1 => ?_)
        · have E : turnsB p (j + 1) = ((srV (turnsB p j).1 (beV 6 (beC 4 (turnsB p j).2)) (IntKind.i64.wrap (8 + beV 30 (beC 6 (beC 4 (turnsB p j).2))))).1, beC 30 (beC 6 (beC 4 (turnsB p j).2))) := by rw [turnsB, turnB, a0, a1]; rfl
          refine aw_per [2, 4, 6, 10] 11 rfl ?_
          refine per_P 1 rfl (by kernel_rfl) rfl (fun _ => rfl) rfl ?_
          refine per_P 3 rfl (by kernel_rfl) rfl (fun _ => rfl) rfl ?_
          refine per_2F 2 0 rfl rfl (by kernel_rfl) (by kernel_rfl) rfl rfl (step_callMs (K := []) (Rs' := [_]) [0] (by decide) rfl (c_below 6 (beC 4 (turnsB p j).2) (by first | exact hcl0 | (simp only [beC_code]; exact hcl0))) (.cons rfl rfl rfl (curR_noH _) (curR_noH _) .nil) (.cons (.ptr rfl) (.cons (.same rfl) .nil)) (fun q hq => by cases hq) rfl) rfl rfl rfl rfl ?_ ?_
          · skip
            refine per_2F 4 0 rfl rfl (by kernel_rfl) (by kernel_rfl) rfl rfl (step_callMs (K := []) (Rs' := [_]) [0] (by decide) rfl (c_below 30 (beC 6 (beC 4 (turnsB p j).2)) (by first | exact hcl0 | (simp only [beC_code]; exact hcl0))) (.cons rfl rfl rfl (curR_noH _) (curR_noH _) .nil) (.cons (.ptr rfl) (.cons (.same rfl) .nil)) (fun q hq => by cases hq) rfl) rfl rfl rfl rfl ?_ ?_
            · skip
              refine per_P 5 rfl (by kernel_rfl) rfl (fun _ => rfl) rfl ?_
              refine per_F 0 rfl (by kernel_rfl) rfl rfl rfl ?_
              refine per_W 6 rfl (by kernel_rfl) rfl rfl (st_callK rfl (c_sset (turnsB p j).1 (beV 6 (beC 4 (turnsB p j).2)) (IntKind.i64.wrap (8 + beV 30 (beC 6 (beC 4 (turnsB p j).2)))) hla hlw) (.cons (.agg (.cons (.same rfl) (.cons (.same rfl) (.cons (pur_l rfl rfl) (.cons (pur_l rfl rfl) .nil))))) (.cons (.same rfl) (.cons (.same rfl) .nil))) (brK_noH _ _) rfl rfl) rfl ?_
              refine per_P 7 rfl (by kernel_rfl) rfl (fun _ => rfl) rfl ?_
              refine per_P 8 rfl (by kernel_rfl) rfl (fun _ => rfl) rfl ?_
              refine per_P 9 rfl (by kernel_rfl) rfl (fun _ => rfl) rfl ?_
              refine per_W 10 rfl (by kernel_rfl) rfl rfl (store_ok (m := 1) (T := tab) TabC.ok rfl rfl rfl rfl rfl rfl rfl rfl rfl rfl) rfl ?_
              refine per_done (by kernel_rfl) ?_
              repeat' first
                | refine aw_seq ?_
                | refine aw_region ?_
                | refine aw_lex [] ?_
                | (refine isA ?_; refine do_F rfl ?_)
                | (refine isL ?_; refine lex_F rfl (by kernel_rfl) rfl rfl ?_)
                | (refine isLg rfl ?_; refine lex_S rfl (by kernel_rfl) rfl rfl ?_)
                | refine aops_nil ?_
                | refine lex_done _ rfl (by kernel_rfl) ?_
                | refine aw_ct rfl ?_
                | refine aw_cf rfl ?_
                | refine aw_block ?_
                | refine then_n ?_
                | refine aw_skip ?_
                | refine aw_exit ?_
                | refine then_x ?_
                | refine then_r ?_
                | refine block_x ?_
                | refine block_n ?_
                | refine block_r ?_
                | refine aw_ret ?_
              refine ⟨⟨j + 1, by omega⟩, by simp only; omega, ?_⟩
              refine subm 1 [0, 1, 2, 5, 6] rfl rfl fix1 (by decide) (.cons rfl rfl rfl rfl (les_eq (by rw [E]) (curR_noH _)) (.cons rfl rfl rfl rfl (les_refl' rfl) (.cons rfl rfl rfl rfl (les_cons (le_k (congrArg _ (by rw [E]))) (les_cons (le_k (congrArg _ (by rw [E]))) (les_cons (le_sl rfl (by rw [E])) (les_cons (le_sl rfl (by rw [E])) les_nil)))) (.cons rfl rfl rfl rfl (les_eq (by rw [E]) (flat_noH _ _)) (.cons rfl rfl rfl rfl (les_eq (by rw [E]) (flat_noH _ _)) .nil))))) (by
                repeat' first
                  | exact les_nil
                  | refine les_cons ?_ ?_
                  | exact le_any
                  | exact le_refl rfl
                  | exact le_ptr rfl
                  | exact le_k (congrArg _ (show (k : Int) - ((j + 1 : Nat) : Int) = IntKind.i64.wrap ((k : Int) - (j : Int) - 1) by rw [IntKind.wrap_i64]; omega)))
            · skip
              refine per_W 4 rfl (by kernel_rfl) rfl rfl (step_callMs (K := []) (Rs' := [_]) [0] (by decide) rfl (c_below 30 (beC 6 (beC 4 (turnsB p j).2)) (by first | exact hcl0 | (simp only [beC_code]; exact hcl0))) (.cons rfl rfl rfl (curR_noH _) (curR_noH _) .nil) (.cons (.ptr rfl) (.cons (.same rfl) .nil)) (fun q hq => by cases hq) rfl) rfl ?_
              refine per_P 5 rfl (by kernel_rfl) rfl (fun _ => rfl) rfl ?_
              refine per_W 6 rfl (by kernel_rfl) rfl rfl (st_callK rfl (c_sset (turnsB p j).1 (beV 6 (beC 4 (turnsB p j).2)) (IntKind.i64.wrap (8 + beV 30 (beC 6 (beC 4 (turnsB p j).2)))) hla hlw) (.cons (.agg (.cons (.same rfl) (.cons (.same rfl) (.cons (pur_l rfl rfl) (.cons (pur_l rfl rfl) .nil))))) (.cons (.same rfl) (.cons (.same rfl) .nil))) (brK_noH _ _) rfl rfl) rfl ?_
              refine per_P 7 rfl (by kernel_rfl) rfl (fun _ => rfl) rfl ?_
              refine per_P 8 rfl (by kernel_rfl) rfl (fun _ => rfl) rfl ?_
              refine per_P 9 rfl (by kernel_rfl) rfl (fun _ => rfl) rfl ?_
              refine per_W 10 rfl (by kernel_rfl) rfl rfl (store_ok (m := 1) (T := tab) TabC.ok rfl rfl rfl rfl rfl rfl rfl rfl rfl rfl) rfl ?_
              refine per_done (by kernel_rfl) ?_
              repeat' first
                | refine aw_seq ?_
                | refine aw_region ?_
                | refine aw_lex [] ?_
                | (refine isA ?_; refine do_F rfl ?_)
                | (refine isL ?_; refine lex_F rfl (by kernel_rfl) rfl rfl ?_)
                | (refine isLg rfl ?_; refine lex_S rfl (by kernel_rfl) rfl rfl ?_)
                | refine aops_nil ?_
                | refine lex_done _ rfl (by kernel_rfl) ?_
                | refine aw_ct rfl ?_
                | refine aw_cf rfl ?_
                | refine aw_block ?_
                | refine then_n ?_
                | refine aw_skip ?_
                | refine aw_exit ?_
                | refine then_x ?_
                | refine then_r ?_
                | refine block_x ?_
                | refine block_n ?_
                | refine block_r ?_
                | refine aw_ret ?_
              refine ⟨⟨j + 1, by omega⟩, by simp only; omega, ?_⟩
              refine subm 1 [0, 1, 2, 5, 6] rfl rfl fix1 (by decide) (.cons rfl rfl rfl rfl (les_eq (by rw [E]) (curR_noH _)) (.cons rfl rfl rfl rfl (les_refl' rfl) (.cons rfl rfl rfl rfl (les_cons (le_k (congrArg _ (by rw [E]))) (les_cons (le_k (congrArg _ (by rw [E]))) (les_cons (le_sl rfl (by rw [E])) (les_cons (le_sl rfl (by rw [E])) les_nil)))) (.cons rfl rfl rfl rfl (les_eq (by rw [E]) (flat_noH _ _)) (.cons rfl rfl rfl rfl (les_eq (by rw [E]) (flat_noH _ _)) .nil))))) (by
                repeat' first
                  | exact les_nil
                  | refine les_cons ?_ ?_
                  | exact le_any
                  | exact le_refl rfl
                  | exact le_ptr rfl
                  | exact le_k (congrArg _ (show (k : Int) - ((j + 1 : Nat) : Int) = IntKind.i64.wrap ((k : Int) - (j : Int) - 1) by rw [IntKind.wrap_i64]; omega)))
          · skip
            refine per_W 2 rfl (by kernel_rfl) rfl rfl (step_callMs (K := []) (Rs' := [_]) [0] (by decide) rfl (c_below 6 (beC 4 (turnsB p j).2) (by first | exact hcl0 | (simp only [beC_code]; exact hcl0))) (.cons rfl rfl rfl (curR_noH _) (curR_noH _) .nil) (.cons (.ptr rfl) (.cons (.same rfl) .nil)) (fun q hq => by cases hq) rfl) rfl ?_
            refine per_W 4 rfl (by kernel_rfl) rfl rfl (step_callMs (K := []) (Rs' := [_]) [0] (by decide) rfl (c_below 30 (beC 6 (beC 4 (turnsB p j).2)) (by first | exact hcl0 | (simp only [beC_code]; exact hcl0))) (.cons rfl rfl rfl (curR_noH _) (curR_noH _) .nil) (.cons (.ptr rfl) (.cons (.same rfl) .nil)) (fun q hq => by cases hq) rfl) rfl ?_
            refine per_P 5 rfl (by kernel_rfl) rfl (fun _ => rfl) rfl ?_
            refine per_W 6 rfl (by kernel_rfl) rfl rfl (st_callK rfl (c_sset (turnsB p j).1 (beV 6 (beC 4 (turnsB p j).2)) (IntKind.i64.wrap (8 + beV 30 (beC 6 (beC 4 (turnsB p j).2)))) hla hlw) (.cons (.agg (.cons (.same rfl) (.cons (.same rfl) (.cons (pur_l rfl rfl) (.cons (pur_l rfl rfl) .nil))))) (.cons (.same rfl) (.cons (.same rfl) .nil))) (brK_noH _ _) rfl rfl) rfl ?_
            refine per_P 7 rfl (by kernel_rfl) rfl (fun _ => rfl) rfl ?_
            refine per_P 8 rfl (by kernel_rfl) rfl (fun _ => rfl) rfl ?_
            refine per_P 9 rfl (by kernel_rfl) rfl (fun _ => rfl) rfl ?_
            refine per_W 10 rfl (by kernel_rfl) rfl rfl (store_ok (m := 1) (T := tab) TabC.ok rfl rfl rfl rfl rfl rfl rfl rfl rfl rfl) rfl ?_
            refine per_done (by kernel_rfl) ?_
            repeat' first
              | refine aw_seq ?_
              | refine aw_region ?_
              | refine aw_lex [] ?_
              | (refine isA ?_; refine do_F rfl ?_)
              | (refine isL ?_; refine lex_F rfl (by kernel_rfl) rfl rfl ?_)
              | (refine isLg rfl ?_; refine lex_S rfl (by kernel_rfl) rfl rfl ?_)
              | refine aops_nil ?_
              | refine lex_done _ rfl (by kernel_rfl) ?_
              | refine aw_ct rfl ?_
              | refine aw_cf rfl ?_
              | refine aw_block ?_
              | refine then_n ?_
              | refine aw_skip ?_
              | refine aw_exit ?_
              | refine then_x ?_
              | refine then_r ?_
              | refine block_x ?_
              | refine block_n ?_
              | refine block_r ?_
              | refine aw_ret ?_
            refine ⟨⟨j + 1, by omega⟩, by simp only; omega, ?_⟩
            refine subm 1 [0, 1, 2, 5, 6] rfl rfl fix1 (by decide) (.cons rfl rfl rfl rfl (les_eq (by rw [E]) (curR_noH _)) (.cons rfl rfl rfl rfl (les_refl' rfl) (.cons rfl rfl rfl rfl (les_cons (le_k (congrArg _ (by rw [E]))) (les_cons (le_k (congrArg _ (by rw [E]))) (les_cons (le_sl rfl (by rw [E])) (les_cons (le_sl rfl (by rw [E])) les_nil)))) (.cons rfl rfl rfl rfl (les_eq (by rw [E]) (flat_noH _ _)) (.cons rfl rfl rfl rfl (les_eq (by rw [E]) (flat_noH _ _)) .nil))))) (by
              repeat' first
                | exact les_nil
                | refine les_cons ?_ ?_
                | exact le_any
                | exact le_refl rfl
                | exact le_ptr rfl
                | exact le_k (congrArg _ (show (k : Int) - ((j + 1 : Nat) : Int) = IntKind.i64.wrap ((k : Int) - (j : Int) - 1) by rw [IntKind.wrap_i64]; omega)))
        · have E : turnsB p (j + 1) = ((adV (turnsB p j).1 (IntKind.i64.wrap (8 + beV 40 (beC 4 (turnsB p j).2))) (beV 4 (beC 40 (beC 4 (turnsB p j).2)))).1, beC 4 (beC 40 (beC 4 (turnsB p j).2))) := by rw [turnsB, turnB, a0, a1]; rfl
          refine aw_per [2, 5, 6, 11] 12 rfl ?_
          refine per_P 1 rfl (by kernel_rfl) rfl (fun _ => rfl) rfl ?_
          refine per_P 4 rfl (by kernel_rfl) rfl (fun _ => rfl) rfl ?_
          refine per_2F 2 0 rfl rfl (by kernel_rfl) (by kernel_rfl) rfl rfl (step_callMs (K := []) (Rs' := [_]) [0] (by decide) rfl (c_below 40 (beC 4 (turnsB p j).2) (by first | exact hcl0 | (simp only [beC_code]; exact hcl0))) (.cons rfl rfl rfl (curR_noH _) (curR_noH _) .nil) (.cons (.ptr rfl) (.cons (.same rfl) .nil)) (fun q hq => by cases hq) rfl) rfl rfl rfl rfl ?_ ?_
          · skip
            refine per_P 3 rfl (by kernel_rfl) rfl (fun _ => rfl) rfl ?_
            refine per_2F 5 0 rfl rfl (by kernel_rfl) (by kernel_rfl) rfl rfl (step_callMs (K := []) (Rs' := [_]) [0] (by decide) rfl (c_below 4 (beC 40 (beC 4 (turnsB p j).2)) (by first | exact hcl0 | (simp only [beC_code]; exact hcl0))) (.cons rfl rfl rfl (curR_noH _) (curR_noH _) .nil) (.cons (.ptr rfl) (.cons (.same rfl) .nil)) (fun q hq => by cases hq) rfl) rfl rfl rfl rfl ?_ ?_
            · skip
              refine per_F 0 rfl (by kernel_rfl) rfl rfl rfl ?_
              refine per_W 6 rfl (by kernel_rfl) rfl rfl (st_callK rfl (c_sadd (turnsB p j).1 (IntKind.i64.wrap (8 + beV 40 (beC 4 (turnsB p j).2))) (beV 4 (beC 40 (beC 4 (turnsB p j).2))) hla hlw) (.cons (.agg (.cons (.same rfl) (.cons (.same rfl) (.cons (pur_l rfl rfl) (.cons (pur_l rfl rfl) .nil))))) (.cons (.same rfl) (.cons (.same rfl) .nil))) (brK_noH _ _) rfl rfl) rfl ?_
              refine per_P 7 rfl (by kernel_rfl) rfl (fun _ => rfl) rfl ?_
              refine per_P 8 rfl (by kernel_rfl) rfl (fun _ => rfl) rfl ?_
              refine per_P 9 rfl (by kernel_rfl) rfl (fun _ => rfl) rfl ?_
              refine per_P 10 rfl (by kernel_rfl) rfl (fun _ => rfl) rfl ?_
              refine per_W 11 rfl (by kernel_rfl) rfl rfl (store_ok (m := 1) (T := tab) TabC.ok rfl rfl rfl rfl rfl rfl rfl rfl rfl rfl) rfl ?_
              refine per_done (by kernel_rfl) ?_
              repeat' first
                | refine aw_seq ?_
                | refine aw_region ?_
                | refine aw_lex [] ?_
                | (refine isA ?_; refine do_F rfl ?_)
                | (refine isL ?_; refine lex_F rfl (by kernel_rfl) rfl rfl ?_)
                | (refine isLg rfl ?_; refine lex_S rfl (by kernel_rfl) rfl rfl ?_)
                | refine aops_nil ?_
                | refine lex_done _ rfl (by kernel_rfl) ?_
                | refine aw_ct rfl ?_
                | refine aw_cf rfl ?_
                | refine aw_block ?_
                | refine then_n ?_
                | refine aw_skip ?_
                | refine aw_exit ?_
                | refine then_x ?_
                | refine then_r ?_
                | refine block_x ?_
                | refine block_n ?_
                | refine block_r ?_
                | refine aw_ret ?_
              refine ⟨⟨j + 1, by omega⟩, by simp only; omega, ?_⟩
              refine subm 1 [0, 1, 2, 5, 6] rfl rfl fix1 (by decide) (.cons rfl rfl rfl rfl (les_eq (by rw [E]) (curR_noH _)) (.cons rfl rfl rfl rfl (les_refl' rfl) (.cons rfl rfl rfl rfl (les_cons (le_k (congrArg _ (by rw [E]))) (les_cons (le_k (congrArg _ (by rw [E]))) (les_cons (le_sl rfl (by rw [E])) (les_cons (le_sl rfl (by rw [E])) les_nil)))) (.cons rfl rfl rfl rfl (les_eq (by rw [E]) (flat_noH _ _)) (.cons rfl rfl rfl rfl (les_eq (by rw [E]) (flat_noH _ _)) .nil))))) (by
                repeat' first
                  | exact les_nil
                  | refine les_cons ?_ ?_
                  | exact le_any
                  | exact le_refl rfl
                  | exact le_ptr rfl
                  | exact le_k (congrArg _ (show (k : Int) - ((j + 1 : Nat) : Int) = IntKind.i64.wrap ((k : Int) - (j : Int) - 1) by rw [IntKind.wrap_i64]; omega)))
            · skip
              refine per_W 5 rfl (by kernel_rfl) rfl rfl (step_callMs (K := []) (Rs' := [_]) [0] (by decide) rfl (c_below 4 (beC 40 (beC 4 (turnsB p j).2)) (by first | exact hcl0 | (simp only [beC_code]; exact hcl0))) (.cons rfl rfl rfl (curR_noH _) (curR_noH _) .nil) (.cons (.ptr rfl) (.cons (.same rfl) .nil)) (fun q hq => by cases hq) rfl) rfl ?_
              refine per_W 6 rfl (by kernel_rfl) rfl rfl (st_callK rfl (c_sadd (turnsB p j).1 (IntKind.i64.wrap (8 + beV 40 (beC 4 (turnsB p j).2))) (beV 4 (beC 40 (beC 4 (turnsB p j).2))) hla hlw) (.cons (.agg (.cons (.same rfl) (.cons (.same rfl) (.cons (pur_l rfl rfl) (.cons (pur_l rfl rfl) .nil))))) (.cons (.same rfl) (.cons (.same rfl) .nil))) (brK_noH _ _) rfl rfl) rfl ?_
              refine per_P 7 rfl (by kernel_rfl) rfl (fun _ => rfl) rfl ?_
              refine per_P 8 rfl (by kernel_rfl) rfl (fun _ => rfl) rfl ?_
              refine per_P 9 rfl (by kernel_rfl) rfl (fun _ => rfl) rfl ?_
              refine per_P 10 rfl (by kernel_rfl) rfl (fun _ => rfl) rfl ?_
              refine per_W 11 rfl (by kernel_rfl) rfl rfl (store_ok (m := 1) (T := tab) TabC.ok rfl rfl rfl rfl rfl rfl rfl rfl rfl rfl) rfl ?_
              refine per_done (by kernel_rfl) ?_
              repeat' first
                | refine aw_seq ?_
                | refine aw_region ?_
                | refine aw_lex [] ?_
                | (refine isA ?_; refine do_F rfl ?_)
                | (refine isL ?_; refine lex_F rfl (by kernel_rfl) rfl rfl ?_)
                | (refine isLg rfl ?_; refine lex_S rfl (by kernel_rfl) rfl rfl ?_)
                | refine aops_nil ?_
                | refine lex_done _ rfl (by kernel_rfl) ?_
                | refine aw_ct rfl ?_
                | refine aw_cf rfl ?_
                | refine aw_block ?_
                | refine then_n ?_
                | refine aw_skip ?_
                | refine aw_exit ?_
                | refine then_x ?_
                | refine then_r ?_
                | refine block_x ?_
                | refine block_n ?_
                | refine block_r ?_
                | refine aw_ret ?_
              refine ⟨⟨j + 1, by omega⟩, by simp only; omega, ?_⟩
              refine subm 1 [0, 1, 2, 5, 6] rfl rfl fix1 (by decide) (.cons rfl rfl rfl rfl (les_eq (by rw [E]) (curR_noH _)) (.cons rfl rfl rfl rfl (les_refl' rfl) (.cons rfl rfl rfl rfl (les_cons (le_k (congrArg _ (by rw [E]))) (les_cons (le_k (congrArg _ (by rw [E]))) (les_cons (le_sl rfl (by rw [E])) (les_cons (le_sl rfl (by rw [E])) les_nil)))) (.cons rfl rfl rfl rfl (les_eq (by rw [E]) (flat_noH _ _)) (.cons rfl rfl rfl rfl (les_eq (by rw [E]) (flat_noH _ _)) .nil))))) (by
                repeat' first
                  | exact les_nil
                  | refine les_cons ?_ ?_
                  | exact le_any
                  | exact le_refl rfl
                  | exact le_ptr rfl
                  | exact le_k (congrArg _ (show (k : Int) - ((j + 1 : Nat) : Int) = IntKind.i64.wrap ((k : Int) - (j : Int) - 1) by rw [IntKind.wrap_i64]; omega)))
          · skip
            refine per_W 2 rfl (by kernel_rfl) rfl rfl (step_callMs (K := []) (Rs' := [_]) [0] (by decide) rfl (c_below 40 (beC 4 (turnsB p j).2) (by first | exact hcl0 | (simp only [beC_code]; exact hcl0))) (.cons rfl rfl rfl (curR_noH _) (curR_noH _) .nil) (.cons (.ptr rfl) (.cons (.same rfl) .nil)) (fun q hq => by cases hq) rfl) rfl ?_
            refine per_P 3 rfl (by kernel_rfl) rfl (fun _ => rfl) rfl ?_
            refine per_W 5 rfl (by kernel_rfl) rfl rfl (step_callMs (K := []) (Rs' := [_]) [0] (by decide) rfl (c_below 4 (beC 40 (beC 4 (turnsB p j).2)) (by first | exact hcl0 | (simp only [beC_code]; exact hcl0))) (.cons rfl rfl rfl (curR_noH _) (curR_noH _) .nil) (.cons (.ptr rfl) (.cons (.same rfl) .nil)) (fun q hq => by cases hq) rfl) rfl ?_
            refine per_W 6 rfl (by kernel_rfl) rfl rfl (st_callK rfl (c_sadd (turnsB p j).1 (IntKind.i64.wrap (8 + beV 40 (beC 4 (turnsB p j).2))) (beV 4 (beC 40 (beC 4 (turnsB p j).2))) hla hlw) (.cons (.agg (.cons (.same rfl) (.cons (.same rfl) (.cons (pur_l rfl rfl) (.cons (pur_l rfl rfl) .nil))))) (.cons (.same rfl) (.cons (.same rfl) .nil))) (brK_noH _ _) rfl rfl) rfl ?_
            refine per_P 7 rfl (by kernel_rfl) rfl (fun _ => rfl) rfl ?_
            refine per_P 8 rfl (by kernel_rfl) rfl (fun _ => rfl) rfl ?_
            refine per_P 9 rfl (by kernel_rfl) rfl (fun _ => rfl) rfl ?_
            refine per_P 10 rfl (by kernel_rfl) rfl (fun _ => rfl) rfl ?_
            refine per_W 11 rfl (by kernel_rfl) rfl rfl (store_ok (m := 1) (T := tab) TabC.ok rfl rfl rfl rfl rfl rfl rfl rfl rfl rfl) rfl ?_
            refine per_done (by kernel_rfl) ?_
            repeat' first
              | refine aw_seq ?_
              | refine aw_region ?_
              | refine aw_lex [] ?_
              | (refine isA ?_; refine do_F rfl ?_)
              | (refine isL ?_; refine lex_F rfl (by kernel_rfl) rfl rfl ?_)
              | (refine isLg rfl ?_; refine lex_S rfl (by kernel_rfl) rfl rfl ?_)
              | refine aops_nil ?_
              | refine lex_done _ rfl (by kernel_rfl) ?_
              | refine aw_ct rfl ?_
              | refine aw_cf rfl ?_
              | refine aw_block ?_
              | refine then_n ?_
              | refine aw_skip ?_
              | refine aw_exit ?_
              | refine then_x ?_
              | refine then_r ?_
              | refine block_x ?_
              | refine block_n ?_
              | refine block_r ?_
              | refine aw_ret ?_
            refine ⟨⟨j + 1, by omega⟩, by simp only; omega, ?_⟩
            refine subm 1 [0, 1, 2, 5, 6] rfl rfl fix1 (by decide) (.cons rfl rfl rfl rfl (les_eq (by rw [E]) (curR_noH _)) (.cons rfl rfl rfl rfl (les_refl' rfl) (.cons rfl rfl rfl rfl (les_cons (le_k (congrArg _ (by rw [E]))) (les_cons (le_k (congrArg _ (by rw [E]))) (les_cons (le_sl rfl (by rw [E])) (les_cons (le_sl rfl (by rw [E])) les_nil)))) (.cons rfl rfl rfl rfl (les_eq (by rw [E]) (flat_noH _ _)) (.cons rfl rfl rfl rfl (les_eq (by rw [E]) (flat_noH _ _)) .nil))))) (by
              repeat' first
                | exact les_nil
                | refine les_cons ?_ ?_
                | exact le_any
                | exact le_refl rfl
                | exact le_ptr rfl
                | exact le_k (congrArg _ (show (k : Int) - ((j + 1 : Nat) : Int) = IntKind.i64.wrap ((k : Int) - (j : Int) - 1) by rw [IntKind.wrap_i64]; omega)))
    · have hge : j = k := by have := of_decide_eq_false h; simp only at this; omega
      subst hge
      repeat' first
        | refine aw_seq ?_
        | refine aw_region ?_
        | refine aw_lex [] ?_
        | (refine isA ?_; refine do_F rfl ?_)
        | (refine isL ?_; refine lex_F rfl (by kernel_rfl) rfl rfl ?_)
        | (refine isLg rfl ?_; refine lex_S rfl (by kernel_rfl) rfl rfl ?_)
        | (refine isAc 90 ?_; refine do_R rfl (step_callMs (K := []) (Rs' := [_]) [0] (by decide) rfl (c_below 14 (turnsB p j).2 (by first | exact hcl0 | (simp only [beC_code]; exact hcl0))) (.cons rfl rfl rfl (curR_noH _) (curR_noH _) .nil) (.cons (.ptr rfl) (.cons (.same rfl) .nil)) (fun q hq => by cases hq) rfl) rfl ?_)
        | (refine isLc 90 rfl ?_; refine lex_R rfl (by kernel_rfl) rfl (step_callMs (K := []) (Rs' := [_]) [0] (by decide) rfl (c_below 14 (turnsB p j).2 (by first | exact hcl0 | (simp only [beC_code]; exact hcl0))) (.cons rfl rfl rfl (curR_noH _) (curR_noH _) .nil) (.cons (.ptr rfl) (.cons (.same rfl) .nil)) (fun q hq => by cases hq) rfl) rfl ?_)
        | refine aops_nil ?_
        | refine lex_done _ rfl (by kernel_rfl) ?_
        | refine aw_ct rfl ?_
        | refine aw_cf rfl ?_
        | refine aw_block ?_
        | refine then_n ?_
        | refine aw_skip ?_
        | refine aw_exit ?_
        | refine then_x ?_
        | refine then_r ?_
        | refine block_x ?_
        | refine block_n ?_
        | refine block_r ?_
        | refine aw_ret ?_
      have hcp : (beC 14 (turnsB p j).2).code.length ≤ 1000000000 := by rw [beC_code]; exact hcl0
      refine aw_cond rfl (fun b0 => ?_) (fun b0 => ?_)
      · have D : drawB c = (⟨pkV [7, 121, 9] (beC 14 (turnsB p j).2), (turnsB p j).1.next, (turnsB p j).1.act, (turnsB p j).1.wait⟩, beC 3 (beC 14 (turnsB p j).2)) := by rw [hda, lastB, b0]; rfl
        repeat' first
          | (refine isA ?_; refine do_R rfl (lit_of rfl rfl rfl rfl rfl) rfl ?_)
          | refine aw_seq ?_
          | refine aw_region ?_
          | refine aw_lex [] ?_
          | (refine isA ?_; refine do_F rfl ?_)
          | (refine isL ?_; refine lex_F rfl (by kernel_rfl) rfl rfl ?_)
          | (refine isLg rfl ?_; refine lex_S rfl (by kernel_rfl) rfl rfl ?_)
          | (refine isAc 88 ?_; refine do_R rfl (step_callMs (K := []) (Rs' := [_]) [0] (by decide) rfl (c_pickL [7, 121, 9] (beC 14 (turnsB p j).2) hcp (Nat.zero_lt_succ _)) (.cons rfl rfl rfl (curR_noH _) (curR_noH _) .nil) (.cons (.ptr rfl) (.cons (.same rfl) .nil)) (fun q hq => by cases hq) rfl) rfl ?_)
          | (refine isLc 88 rfl ?_; refine lex_R rfl (by kernel_rfl) rfl (step_callMs (K := []) (Rs' := [_]) [0] (by decide) rfl (c_pickL [7, 121, 9] (beC 14 (turnsB p j).2) hcp (Nat.zero_lt_succ _)) (.cons rfl rfl rfl (curR_noH _) (curR_noH _) .nil) (.cons (.ptr rfl) (.cons (.same rfl) .nil)) (fun q hq => by cases hq) rfl) rfl ?_)
          | exact (by rw [D]; exact finMC1n [0, 3, 4] fix1 (by decide) (cell_is rfl rfl rfl rfl rfl) (le_agg (les_cons (le_refl rfl) (les_cons (le_refl rfl) (les_cons (le_sl rfl rfl) (les_cons (le_sl rfl rfl) les_nil))))) (.cons rfl rfl rfl rfl (les_refl (curR_noH _)) (.cons rfl rfl rfl rfl (les_refl (flat_noH _ _)) (.cons rfl rfl rfl rfl (les_refl (flat_noH _ _)) .nil))))
          | refine aops_nil ?_
          | refine lex_done _ rfl (by kernel_rfl) ?_
          | refine aw_ct rfl ?_
          | refine aw_cf rfl ?_
          | refine aw_block ?_
          | refine then_n ?_
          | refine aw_skip ?_
          | refine aw_exit ?_
          | refine then_x ?_
          | refine then_r ?_
          | refine block_x ?_
          | refine block_n ?_
          | refine block_r ?_
          | refine aw_ret ?_
      · repeat' first
          | refine aw_seq ?_
          | refine aw_region ?_
          | refine aw_lex [] ?_
          | (refine isA ?_; refine do_F rfl ?_)
          | (refine isL ?_; refine lex_F rfl (by kernel_rfl) rfl rfl ?_)
          | (refine isLg rfl ?_; refine lex_S rfl (by kernel_rfl) rfl rfl ?_)
          | refine aops_nil ?_
          | refine lex_done _ rfl (by kernel_rfl) ?_
          | refine aw_ct rfl ?_
          | refine aw_cf rfl ?_
          | refine aw_block ?_
          | refine then_n ?_
          | refine aw_skip ?_
          | refine aw_exit ?_
          | refine then_x ?_
          | refine then_r ?_
          | refine block_x ?_
          | refine block_n ?_
          | refine block_r ?_
          | refine aw_ret ?_
        refine aw_cond rfl (fun b1 => ?_) (fun b1 => ?_)
        · have D : drawB c = (⟨(turnsB p j).1.pool, pkV [0, -1, 1001, 1000] (beC 14 (turnsB p j).2), (turnsB p j).1.act, (turnsB p j).1.wait⟩, beC 4 (beC 14 (turnsB p j).2)) := by rw [hda, lastB, b0, b1]; rfl
          repeat' first
            | (refine isA ?_; refine do_R rfl (lit_of rfl rfl rfl rfl rfl) rfl ?_)
            | refine aw_seq ?_
            | refine aw_region ?_
            | refine aw_lex [] ?_
            | (refine isA ?_; refine do_F rfl ?_)
            | (refine isL ?_; refine lex_F rfl (by kernel_rfl) rfl rfl ?_)
            | (refine isLg rfl ?_; refine lex_S rfl (by kernel_rfl) rfl rfl ?_)
            | (refine isAc 88 ?_; refine do_R rfl (step_callMs (K := []) (Rs' := [_]) [0] (by decide) rfl (c_pickL [0, -1, 1001, 1000] (beC 14 (turnsB p j).2) hcp (Nat.zero_lt_succ _)) (.cons rfl rfl rfl (curR_noH _) (curR_noH _) .nil) (.cons (.ptr rfl) (.cons (.same rfl) .nil)) (fun q hq => by cases hq) rfl) rfl ?_)
            | (refine isLc 88 rfl ?_; refine lex_R rfl (by kernel_rfl) rfl (step_callMs (K := []) (Rs' := [_]) [0] (by decide) rfl (c_pickL [0, -1, 1001, 1000] (beC 14 (turnsB p j).2) hcp (Nat.zero_lt_succ _)) (.cons rfl rfl rfl (curR_noH _) (curR_noH _) .nil) (.cons (.ptr rfl) (.cons (.same rfl) .nil)) (fun q hq => by cases hq) rfl) rfl ?_)
            | exact (by rw [D]; exact finMC1n [0, 3, 4] fix1 (by decide) (cell_is rfl rfl rfl rfl rfl) (le_agg (les_cons (le_refl rfl) (les_cons (le_refl rfl) (les_cons (le_sl rfl rfl) (les_cons (le_sl rfl rfl) les_nil))))) (.cons rfl rfl rfl rfl (les_refl (curR_noH _)) (.cons rfl rfl rfl rfl (les_refl (flat_noH _ _)) (.cons rfl rfl rfl rfl (les_refl (flat_noH _ _)) .nil))))
            | refine aops_nil ?_
            | refine lex_done _ rfl (by kernel_rfl) ?_
            | refine aw_ct rfl ?_
            | refine aw_cf rfl ?_
            | refine aw_block ?_
            | refine then_n ?_
            | refine aw_skip ?_
            | refine aw_exit ?_
            | refine then_x ?_
            | refine then_r ?_
            | refine block_x ?_
            | refine block_n ?_
            | refine block_r ?_
            | refine aw_ret ?_
        · repeat' first
            | refine aw_seq ?_
            | refine aw_region ?_
            | refine aw_lex [] ?_
            | (refine isA ?_; refine do_F rfl ?_)
            | (refine isL ?_; refine lex_F rfl (by kernel_rfl) rfl rfl ?_)
            | (refine isLg rfl ?_; refine lex_S rfl (by kernel_rfl) rfl rfl ?_)
            | refine aops_nil ?_
            | refine lex_done _ rfl (by kernel_rfl) ?_
            | refine aw_ct rfl ?_
            | refine aw_cf rfl ?_
            | refine aw_block ?_
            | refine then_n ?_
            | refine aw_skip ?_
            | refine aw_exit ?_
            | refine then_x ?_
            | refine then_r ?_
            | refine block_x ?_
            | refine block_n ?_
            | refine block_r ?_
            | refine aw_ret ?_
          refine aw_cond rfl (fun b2 => ?_) (fun b2 => ?_)
          · have D : drawB c = (⟨(turnsB p j).1.pool, (turnsB p j).1.next, (turnsB p j).1.act, (turnsB p j).1.wait ++ [⟨2, 8, 0⟩]⟩, (beC 14 (turnsB p j).2)) := by rw [hda, lastB, b0, b1, b2]; rfl
            repeat' first
              | refine aw_seq ?_
              | refine aw_region ?_
              | refine aw_lex [] ?_
              | (refine isA ?_; refine do_F rfl ?_)
              | (refine isL ?_; refine lex_F rfl (by kernel_rfl) rfl rfl ?_)
              | (refine isLg rfl ?_; refine lex_S rfl (by kernel_rfl) rfl rfl ?_)
              | (refine isAp ?_; refine do_R rfl (ap_l (t := clT) (xs := (turnsB p j).1.wait) (ys := [⟨2, 8, 0⟩]) rfl rfl rfl rfl (src_of rfl rfl rfl rfl) (by simp; omega) rfl) rfl ?_)
              | (refine isLp rfl ?_; refine lex_R rfl (by kernel_rfl) rfl (ap_l (t := clT) (xs := (turnsB p j).1.wait) (ys := [⟨2, 8, 0⟩]) rfl rfl rfl rfl (src_of rfl rfl rfl rfl) (by simp; omega) rfl) rfl ?_)
              | exact (by rw [D]; exact finMC1n [0, 3, 6] fix1 (by decide) (cell_is rfl rfl rfl rfl rfl) (le_agg (les_cons (le_refl rfl) (les_cons (le_refl rfl) (les_cons (le_sl rfl rfl) (les_cons (le_sl rfl rfl) les_nil))))) (.cons rfl rfl rfl rfl (les_refl (curR_noH _)) (.cons rfl rfl rfl rfl (les_refl (flat_noH _ _)) (.cons rfl rfl rfl rfl (les_refl (flat_noH _ _)) .nil))))
              | refine aops_nil ?_
              | refine lex_done _ rfl (by kernel_rfl) ?_
              | refine aw_ct rfl ?_
              | refine aw_cf rfl ?_
              | refine aw_block ?_
              | refine then_n ?_
              | refine aw_skip ?_
              | refine aw_exit ?_
              | refine then_x ?_
              | refine then_r ?_
              | refine block_x ?_
              | refine block_n ?_
              | refine block_r ?_
              | refine aw_ret ?_
          · have D : drawB c = ((turnsB p j).1, (beC 14 (turnsB p j).2)) := by rw [hda, lastB, b0, b1, b2]; rfl
            repeat' first
              | refine aw_seq ?_
              | refine aw_region ?_
              | refine aw_lex [] ?_
              | (refine isA ?_; refine do_F rfl ?_)
              | (refine isL ?_; refine lex_F rfl (by kernel_rfl) rfl rfl ?_)
              | (refine isLg rfl ?_; refine lex_S rfl (by kernel_rfl) rfl rfl ?_)
              | exact (by rw [D]; exact finMC1n [0, 3, 4] fix1 (by decide) (cell_is rfl rfl rfl rfl rfl) (le_agg (les_cons (le_refl rfl) (les_cons (le_refl rfl) (les_cons (le_sl rfl rfl) (les_cons (le_sl rfl rfl) les_nil))))) (.cons rfl rfl rfl rfl (les_refl (curR_noH _)) (.cons rfl rfl rfl rfl (les_refl (flat_noH _ _)) (.cons rfl rfl rfl rfl (les_refl (flat_noH _ _)) .nil))))
              | refine aops_nil ?_
              | refine lex_done _ rfl (by kernel_rfl) ?_
              | refine aw_ct rfl ?_
              | refine aw_cf rfl ?_
              | refine aw_block ?_
              | refine then_n ?_
              | refine aw_skip ?_
              | refine aw_exit ?_
              | refine then_x ?_
              | refine then_r ?_
              | refine block_x ?_
              | refine block_n ?_
              | refine block_r ?_
              | refine aw_ret ?_
end Go.Proofs.Ytjlhfemfmkdlhaa.Ab

/- DrwL -/
namespace Go.Proofs.Ytjlhfemfmkdlhaa.Ab
open Go.RowKit

abbrev brA (b : Br) (i : Nat) : List V := [I b.pool, I b.next, .sl i 0 b.act.length, .sl (i + 1) 0 b.wait.length]
/-- A broker is drawn off the cursor in row h. -/
theorem st_broker {o : Oper} {ρ : Operand → V} {H H' : List Reg} {a : Operand} {ats : Array TypeId} (n h : Nat) (c : Cur) (hl : c.code.length ≤ 1000000000) (ho : o.op = .call { callee := .value (.func 82), args := #[a], argTypes := ats })
    (ha : ρ a = .ptr h 0) (hH : H[h]? = some (curR c)) (hn : H.length = n) (hH' : H.set h (curR (drawB c).2) ++ brK (drawB c).1.act (drawB c).1.wait = H') : Step Go.Proofs.Try.prog o ρ H (.agg (brA (drawB c).1 n)) H' := by
  subst hn
  refine st_callN (args := [a]) (K := brK (drawB c).1.act (drawB c).1.wait) (K2 := brK (drawB c).1.act (drawB c).1.wait) (Rs' := [curR (drawB c).2]) [h] (by simp) ho (c_broker c hl) (.cons (R0 := curR c) (R' := curR (drawB c).2) hH rfl (passS_noH (curR_noH _)) Nat.zero_ne_one (.rest (curR_noH _)) .nil) ?_ (.ofN (brK_noH _ _)) (.agg (.cons (.same rfl) (.cons (.same rfl) (.cons (.sl rfl) (.cons (.sl rfl) .nil))))) hH'
  show PassS [h] [ρ a] _
  rw [ha]
  exact .cons (.ptr rfl) .nil

def br0 (xs : List Int) : Br := (drawB (newC xs)).1
def cu0 (xs : List Int) : Cur := (drawB (newC xs)).2
theorem br0_len (xs : List Int) : (br0 xs).act.length ≤ 10 ∧ (br0 xs).wait.length ≤ 10 := drawB_len _
theorem cu0_code (xs : List Int) : (cu0 xs).code.length = xs.length := by rw [cu0, drawB_code]; rfl

theorem c_drawB (xs : List Int) (hl : xs.length ≤ 1000000000) : Meets Go.Proofs.Try.prog 42 [lstOf u8T xs] [] (.agg (brE (br0 xs))) [] true := by
  refine meets_ofC 2 24 Go.Proofs.Try.func42 rfl rfl ?_
  simp only [Go.Proofs.Try.ntmps42, List.length_cons, List.length_nil, Nat.reduceAdd, Nat.reduceSub, List.replicate_succ, List.replicate_zero, List.cons_append, List.nil_append]
  repeat' first
    | refine aw_seq ?_
    | refine aw_region ?_
    | refine aw_lex [] ?_
    | (refine isA ?_; refine do_F rfl ?_)
    | (refine isL ?_; refine lex_F rfl (by kernel_rfl) rfl rfl ?_)
    | (refine isLg rfl ?_; refine lex_S rfl (by kernel_rfl) rfl rfl ?_)
    | (refine isAc 83 ?_; refine do_R rfl (st_callK rfl (c_new xs hl) (.cons (.same rfl) .nil) (fun q hq => by simp at hq; subst hq; exact curR_noH _) rfl rfl) rfl ?_)
    | (refine isLc 83 rfl ?_; refine lex_R rfl (by kernel_rfl) rfl (st_callK rfl (c_new xs hl) (.cons (.same rfl) .nil) (fun q hq => by simp at hq; subst hq; exact curR_noH _) rfl rfl) rfl ?_)
    | (refine isAc 82 ?_; refine do_R rfl (st_broker 2 1 (newC xs) hl rfl rfl rfl rfl (H' := [cell0, curR (cu0 xs)] ++ brK (br0 xs).act (br0 xs).wait) rfl) rfl ?_)
    | (refine isLc 82 rfl ?_; refine lex_R rfl (by kernel_rfl) rfl (st_broker 2 1 (newC xs) hl rfl rfl rfl rfl (H' := [cell0, curR (cu0 xs)] ++ brK (br0 xs).act (br0 xs).wait) rfl) rfl ?_)
    | exact finC (cell_is rfl rfl rfl rfl rfl) (.agg (.cons (.same rfl) (.cons (.same rfl) (.cons (pur_l rfl rfl) (.cons (pur_l rfl rfl) .nil)))))
    | refine aops_nil ?_
    | refine lex_done _ rfl (by kernel_rfl) ?_
    | refine aw_ct rfl ?_
    | refine aw_cf rfl ?_
    | refine aw_block ?_
    | refine then_n ?_
    | refine aw_skip ?_
    | refine aw_exit ?_
    | refine then_x ?_
    | refine then_r ?_
    | refine block_x ?_
    | refine block_n ?_
    | refine block_r ?_
    | refine aw_ret ?_
theorem c_drawCG (xs : List Int) (hl : xs.length ≤ 1000000000) : Meets Go.Proofs.Try.prog 38 [lstOf u8T xs] [] (.agg (brE (br0 xs))) [] true := by
  refine meets_ofC 2 24 Go.Proofs.Try.func38 rfl rfl ?_
  simp only [Go.Proofs.Try.ntmps38, List.length_cons, List.length_nil, Nat.reduceAdd, Nat.reduceSub, List.replicate_succ, List.replicate_zero, List.cons_append, List.nil_append]
  repeat' first
    | refine aw_seq ?_
    | refine aw_region ?_
    | refine aw_lex [] ?_
    | (refine isA ?_; refine do_F rfl ?_)
    | (refine isL ?_; refine lex_F rfl (by kernel_rfl) rfl rfl ?_)
    | (refine isLg rfl ?_; refine lex_S rfl (by kernel_rfl) rfl rfl ?_)
    | (refine isAc 83 ?_; refine do_R rfl (st_callK rfl (c_new xs hl) (.cons (.same rfl) .nil) (fun q hq => by simp at hq; subst hq; exact curR_noH _) rfl rfl) rfl ?_)
    | (refine isLc 83 rfl ?_; refine lex_R rfl (by kernel_rfl) rfl (st_callK rfl (c_new xs hl) (.cons (.same rfl) .nil) (fun q hq => by simp at hq; subst hq; exact curR_noH _) rfl rfl) rfl ?_)
    | (refine isAc 82 ?_; refine do_R rfl (st_broker 2 1 (newC xs) hl rfl rfl rfl rfl (H' := [cell0, curR (cu0 xs)] ++ brK (br0 xs).act (br0 xs).wait) rfl) rfl ?_)
    | (refine isLc 82 rfl ?_; refine lex_R rfl (by kernel_rfl) rfl (st_broker 2 1 (newC xs) hl rfl rfl rfl rfl (H' := [cell0, curR (cu0 xs)] ++ brK (br0 xs).act (br0 xs).wait) rfl) rfl ?_)
    | exact finC (cell_is rfl rfl rfl rfl rfl) (.agg (.cons (.same rfl) (.cons (.same rfl) (.cons (pur_l rfl rfl) (.cons (pur_l rfl rfl) .nil)))))
    | refine aops_nil ?_
    | refine lex_done _ rfl (by kernel_rfl) ?_
    | refine aw_ct rfl ?_
    | refine aw_cf rfl ?_
    | refine aw_block ?_
    | refine then_n ?_
    | refine aw_skip ?_
    | refine aw_exit ?_
    | refine then_x ?_
    | refine then_r ?_
    | refine block_x ?_
    | refine block_n ?_
    | refine block_r ?_
    | refine aw_ret ?_
theorem c_drawNB (xs : List Int) (hl : xs.length ≤ 1000000000) : Meets Go.Proofs.Try.prog 43 [lstOf u8T xs] [] (I (pkV [7, 8, 120, 121, -1, 50] (newC xs))) [] true := by
  refine meets_of [2] Go.Proofs.Try.func43 rfl rfl ?_
  simp only [Go.Proofs.Try.ntmps43, List.length_cons, List.length_nil, Nat.reduceAdd, Nat.reduceSub, List.replicate_succ, List.replicate_zero, List.cons_append, List.nil_append]
  repeat' first
    | (refine isA ?_; refine do_R rfl (lit_of rfl rfl rfl rfl rfl) rfl ?_)
    | refine aw_seq ?_
    | refine aw_region ?_
    | refine aw_lex [] ?_
    | (refine isA ?_; refine do_F rfl ?_)
    | (refine isL ?_; refine lex_F rfl (by kernel_rfl) rfl rfl ?_)
    | (refine isLg rfl ?_; refine lex_S rfl (by kernel_rfl) rfl rfl ?_)
    | (refine isAc 83 ?_; refine do_R rfl (st_callK rfl (c_new xs hl) (.cons (.same rfl) .nil) (fun q hq => by simp at hq; subst hq; exact curR_noH _) rfl rfl) rfl ?_)
    | (refine isLc 83 rfl ?_; refine lex_R rfl (by kernel_rfl) rfl (st_callK rfl (c_new xs hl) (.cons (.same rfl) .nil) (fun q hq => by simp at hq; subst hq; exact curR_noH _) rfl rfl) rfl ?_)
    | (refine isAc 88 ?_; refine do_R rfl (step_callMs (K := []) (Rs' := [_]) [0] (by decide) rfl (c_pickL [7, 8, 120, 121, -1, 50] (newC xs) hl (by decide)) (.cons rfl rfl rfl (curR_noH _) (curR_noH _) .nil) (.cons (.ptr rfl) (.cons (.same rfl) .nil)) (fun q hq => by cases hq) rfl) rfl ?_)
    | (refine isLc 88 rfl ?_; refine lex_R rfl (by kernel_rfl) rfl (step_callMs (K := []) (Rs' := [_]) [0] (by decide) rfl (c_pickL [7, 8, 120, 121, -1, 50] (newC xs) hl (by decide)) (.cons rfl rfl rfl (curR_noH _) (curR_noH _) .nil) (.cons (.ptr rfl) (.cons (.same rfl) .nil)) (fun q hq => by cases hq) rfl) rfl ?_)
    | exact finP rfl (.same rfl)
    | refine aops_nil ?_
    | refine lex_done _ rfl (by kernel_rfl) ?_
    | refine aw_ct rfl ?_
    | refine aw_cf rfl ?_
    | refine aw_block ?_
    | refine then_n ?_
    | refine aw_skip ?_
    | refine aw_exit ?_
    | refine then_x ?_
    | refine then_r ?_
    | refine block_x ?_
    | refine block_n ?_
    | refine block_r ?_
    | refine aw_ret ?_
def id0 (xs : List Int) : Int := IntKind.i64.wrap (beV 8 (cu0 xs) - 1)
def wt0 (xs : List Int) : Int := pkV [7, 8, 60, 61, 20] (cu0 xs)
def pr0 (xs : List Int) : Int := pkV [0, 9, 10, -1, 3] (beC 5 (cu0 xs))
def wt1 (xs : List Int) : Int := pkV [7, 8, 60, 61, 20] (beC 8 (cu0 xs))
theorem c_drawRC (xs : List Int) (hl : xs.length ≤ 1000000000) : Meets Go.Proofs.Try.prog 47 [lstOf u8T xs] [] (.tup [.agg (brE (br0 xs)), I (id0 xs)]) [] true := by
  have hl1 : (cu0 xs).code.length ≤ 1000000000 := by rw [cu0_code]; exact hl
  refine meets_ofCT 2 24 [3] Go.Proofs.Try.func47 rfl rfl rfl ?_
  simp only [Go.Proofs.Try.ntmps47, List.length_cons, List.length_nil, Nat.reduceAdd, Nat.reduceSub, List.replicate_succ, List.replicate_zero, List.cons_append, List.nil_append]
  repeat' first
    | refine aw_seq ?_
    | refine aw_region ?_
    | refine aw_lex [] ?_
    | (refine isA ?_; refine do_F rfl ?_)
    | (refine isL ?_; refine lex_F rfl (by kernel_rfl) rfl rfl ?_)
    | (refine isLg rfl ?_; refine lex_S rfl (by kernel_rfl) rfl rfl ?_)
    | (refine isAc 83 ?_; refine do_R rfl (st_callK rfl (c_new xs hl) (.cons (.same rfl) .nil) (fun q hq => by simp at hq; subst hq; exact curR_noH _) rfl rfl) rfl ?_)
    | (refine isLc 83 rfl ?_; refine lex_R rfl (by kernel_rfl) rfl (st_callK rfl (c_new xs hl) (.cons (.same rfl) .nil) (fun q hq => by simp at hq; subst hq; exact curR_noH _) rfl rfl) rfl ?_)
    | (refine isAc 82 ?_; refine do_R rfl (st_broker 2 1 (newC xs) hl rfl rfl rfl rfl (H' := [cell0, curR (cu0 xs)] ++ brK (br0 xs).act (br0 xs).wait) rfl) rfl ?_)
    | (refine isLc 82 rfl ?_; refine lex_R rfl (by kernel_rfl) rfl (st_broker 2 1 (newC xs) hl rfl rfl rfl rfl (H' := [cell0, curR (cu0 xs)] ++ brK (br0 xs).act (br0 xs).wait) rfl) rfl ?_)
    | (refine isAc 90 ?_; refine do_R rfl (step_callMs (K := []) (Rs' := [_]) [1] (by decide) rfl (c_below 8 (cu0 xs) hl1) (.cons rfl rfl rfl (curR_noH _) (curR_noH _) .nil) (.cons (.ptr rfl) (.cons (.same rfl) .nil)) (fun q hq => by cases hq) rfl) rfl ?_)
    | (refine isLc 90 rfl ?_; refine lex_R rfl (by kernel_rfl) rfl (step_callMs (K := []) (Rs' := [_]) [1] (by decide) rfl (c_below 8 (cu0 xs) hl1) (.cons rfl rfl rfl (curR_noH _) (curR_noH _) .nil) (.cons (.ptr rfl) (.cons (.same rfl) .nil)) (fun q hq => by cases hq) rfl) rfl ?_)
    | exact finCT (cell_is rfl rfl rfl rfl rfl) (.tup (.cons (.agg (.cons (.same rfl) (.cons (.same rfl) (.cons (pur_l rfl rfl) (.cons (pur_l rfl rfl) .nil))))) (.cons (.same rfl) .nil)))
    | refine aops_nil ?_
    | refine lex_done _ rfl (by kernel_rfl) ?_
    | refine aw_ct rfl ?_
    | refine aw_cf rfl ?_
    | refine aw_block ?_
    | refine then_n ?_
    | refine aw_skip ?_
    | refine aw_exit ?_
    | refine then_x ?_
    | refine then_r ?_
    | refine block_x ?_
    | refine block_n ?_
    | refine block_r ?_
    | refine aw_ret ?_
theorem c_drawAC (xs : List Int) (hl : xs.length ≤ 1000000000) : Meets Go.Proofs.Try.prog 46 [lstOf u8T xs] [] (.tup [.agg (brE (br0 xs)), I (wt0 xs), I (pr0 xs)]) [] true := by
  have hl1 : (cu0 xs).code.length ≤ 1000000000 := by rw [cu0_code]; exact hl
  have hl2 : (beC 5 (cu0 xs)).code.length ≤ 1000000000 := by rw [beC_code]; exact hl1
  refine meets_ofCT 2 24 [3, 4] Go.Proofs.Try.func46 rfl rfl rfl ?_
  simp only [Go.Proofs.Try.ntmps46, List.length_cons, List.length_nil, Nat.reduceAdd, Nat.reduceSub, List.replicate_succ, List.replicate_zero, List.cons_append, List.nil_append]
  repeat' first
    | (refine isA ?_; refine do_R rfl (lit_of rfl rfl rfl rfl rfl) rfl ?_)
    | refine aw_seq ?_
    | refine aw_region ?_
    | refine aw_lex [] ?_
    | (refine isA ?_; refine do_F rfl ?_)
    | (refine isL ?_; refine lex_F rfl (by kernel_rfl) rfl rfl ?_)
    | (refine isLg rfl ?_; refine lex_S rfl (by kernel_rfl) rfl rfl ?_)
    | (refine isAc 83 ?_; refine do_R rfl (st_callK rfl (c_new xs hl) (.cons (.same rfl) .nil) (fun q hq => by simp at hq; subst hq; exact curR_noH _) rfl rfl) rfl ?_)
    | (refine isLc 83 rfl ?_; refine lex_R rfl (by kernel_rfl) rfl (st_callK rfl (c_new xs hl) (.cons (.same rfl) .nil) (fun q hq => by simp at hq; subst hq; exact curR_noH _) rfl rfl) rfl ?_)
    | (refine isAc 82 ?_; refine do_R rfl (st_broker 2 1 (newC xs) hl rfl rfl rfl rfl (H' := [cell0, curR (cu0 xs)] ++ brK (br0 xs).act (br0 xs).wait) rfl) rfl ?_)
    | (refine isLc 82 rfl ?_; refine lex_R rfl (by kernel_rfl) rfl (st_broker 2 1 (newC xs) hl rfl rfl rfl rfl (H' := [cell0, curR (cu0 xs)] ++ brK (br0 xs).act (br0 xs).wait) rfl) rfl ?_)
    | (refine isAc 88 (x := #[.tmp 10, .tmp 11]) ?_; refine do_R rfl (step_callMs (K := []) (Rs' := [_]) [1] (by decide) rfl (c_pickL [7, 8, 60, 61, 20] (cu0 xs) hl1 (by decide)) (.cons rfl rfl rfl (curR_noH _) (curR_noH _) .nil) (.cons (.ptr rfl) (.cons (.same rfl) .nil)) (fun q hq => by cases hq) rfl) rfl ?_)
    | (refine isLc 88 (x := #[.tmp 10, .tmp 11]) rfl ?_; refine lex_R rfl (by kernel_rfl) rfl (step_callMs (K := []) (Rs' := [_]) [1] (by decide) rfl (c_pickL [7, 8, 60, 61, 20] (cu0 xs) hl1 (by decide)) (.cons rfl rfl rfl (curR_noH _) (curR_noH _) .nil) (.cons (.ptr rfl) (.cons (.same rfl) .nil)) (fun q hq => by cases hq) rfl) rfl ?_)
    | (refine isAc 88 (x := #[.tmp 13, .tmp 14]) ?_; refine do_R rfl (step_callMs (K := []) (Rs' := [_]) [1] (by decide) rfl (c_pickL [0, 9, 10, -1, 3] (beC 5 (cu0 xs)) hl2 (by decide)) (.cons rfl rfl rfl (curR_noH _) (curR_noH _) .nil) (.cons (.ptr rfl) (.cons (.same rfl) .nil)) (fun q hq => by cases hq) rfl) rfl ?_)
    | (refine isLc 88 (x := #[.tmp 13, .tmp 14]) rfl ?_; refine lex_R rfl (by kernel_rfl) rfl (step_callMs (K := []) (Rs' := [_]) [1] (by decide) rfl (c_pickL [0, 9, 10, -1, 3] (beC 5 (cu0 xs)) hl2 (by decide)) (.cons rfl rfl rfl (curR_noH _) (curR_noH _) .nil) (.cons (.ptr rfl) (.cons (.same rfl) .nil)) (fun q hq => by cases hq) rfl) rfl ?_)
    | exact finCT (cell_is rfl rfl rfl rfl rfl) (.tup (.cons (.agg (.cons (.same rfl) (.cons (.same rfl) (.cons (pur_l rfl rfl) (.cons (pur_l rfl rfl) .nil))))) (.cons (.same rfl) (.cons (.same rfl) .nil))))
    | refine aops_nil ?_
    | refine lex_done _ rfl (by kernel_rfl) ?_
    | refine aw_ct rfl ?_
    | refine aw_cf rfl ?_
    | refine aw_block ?_
    | refine then_n ?_
    | refine aw_skip ?_
    | refine aw_exit ?_
    | refine then_x ?_
    | refine then_r ?_
    | refine block_x ?_
    | refine block_n ?_
    | refine block_r ?_
    | refine aw_ret ?_
theorem c_drawSR (xs : List Int) (hl : xs.length ≤ 1000000000) : Meets Go.Proofs.Try.prog 48 [lstOf u8T xs] [] (.tup [.agg (brE (br0 xs)), I (id0 xs), I (wt1 xs)]) [] true := by
  have hl1 : (cu0 xs).code.length ≤ 1000000000 := by rw [cu0_code]; exact hl
  have hl2 : (beC 8 (cu0 xs)).code.length ≤ 1000000000 := by rw [beC_code]; exact hl1
  refine meets_ofCT 2 24 [3, 4] Go.Proofs.Try.func48 rfl rfl rfl ?_
  simp only [Go.Proofs.Try.ntmps48, List.length_cons, List.length_nil, Nat.reduceAdd, Nat.reduceSub, List.replicate_succ, List.replicate_zero, List.cons_append, List.nil_append]
  repeat' first
    | (refine isA ?_; refine do_R rfl (lit_of rfl rfl rfl rfl rfl) rfl ?_)
    | refine aw_seq ?_
    | refine aw_region ?_
    | refine aw_lex [] ?_
    | (refine isA ?_; refine do_F rfl ?_)
    | (refine isL ?_; refine lex_F rfl (by kernel_rfl) rfl rfl ?_)
    | (refine isLg rfl ?_; refine lex_S rfl (by kernel_rfl) rfl rfl ?_)
    | (refine isAc 83 ?_; refine do_R rfl (st_callK rfl (c_new xs hl) (.cons (.same rfl) .nil) (fun q hq => by simp at hq; subst hq; exact curR_noH _) rfl rfl) rfl ?_)
    | (refine isLc 83 rfl ?_; refine lex_R rfl (by kernel_rfl) rfl (st_callK rfl (c_new xs hl) (.cons (.same rfl) .nil) (fun q hq => by simp at hq; subst hq; exact curR_noH _) rfl rfl) rfl ?_)
    | (refine isAc 82 ?_; refine do_R rfl (st_broker 2 1 (newC xs) hl rfl rfl rfl rfl (H' := [cell0, curR (cu0 xs)] ++ brK (br0 xs).act (br0 xs).wait) rfl) rfl ?_)
    | (refine isLc 82 rfl ?_; refine lex_R rfl (by kernel_rfl) rfl (st_broker 2 1 (newC xs) hl rfl rfl rfl rfl (H' := [cell0, curR (cu0 xs)] ++ brK (br0 xs).act (br0 xs).wait) rfl) rfl ?_)
    | (refine isAc 90 ?_; refine do_R rfl (step_callMs (K := []) (Rs' := [_]) [1] (by decide) rfl (c_below 8 (cu0 xs) hl1) (.cons rfl rfl rfl (curR_noH _) (curR_noH _) .nil) (.cons (.ptr rfl) (.cons (.same rfl) .nil)) (fun q hq => by cases hq) rfl) rfl ?_)
    | (refine isLc 90 rfl ?_; refine lex_R rfl (by kernel_rfl) rfl (step_callMs (K := []) (Rs' := [_]) [1] (by decide) rfl (c_below 8 (cu0 xs) hl1) (.cons rfl rfl rfl (curR_noH _) (curR_noH _) .nil) (.cons (.ptr rfl) (.cons (.same rfl) .nil)) (fun q hq => by cases hq) rfl) rfl ?_)
    | (refine isAc 88 ?_; refine do_R rfl (step_callMs (K := []) (Rs' := [_]) [1] (by decide) rfl (c_pickL [7, 8, 60, 61, 20] (beC 8 (cu0 xs)) hl2 (by decide)) (.cons rfl rfl rfl (curR_noH _) (curR_noH _) .nil) (.cons (.ptr rfl) (.cons (.same rfl) .nil)) (fun q hq => by cases hq) rfl) rfl ?_)
    | (refine isLc 88 rfl ?_; refine lex_R rfl (by kernel_rfl) rfl (step_callMs (K := []) (Rs' := [_]) [1] (by decide) rfl (c_pickL [7, 8, 60, 61, 20] (beC 8 (cu0 xs)) hl2 (by decide)) (.cons rfl rfl rfl (curR_noH _) (curR_noH _) .nil) (.cons (.ptr rfl) (.cons (.same rfl) .nil)) (fun q hq => by cases hq) rfl) rfl ?_)
    | exact finCT (cell_is rfl rfl rfl rfl rfl) (.tup (.cons (.agg (.cons (.same rfl) (.cons (.same rfl) (.cons (pur_l rfl rfl) (.cons (pur_l rfl rfl) .nil))))) (.cons (.same rfl) (.cons (.same rfl) .nil))))
    | refine aops_nil ?_
    | refine lex_done _ rfl (by kernel_rfl) ?_
    | refine aw_ct rfl ?_
    | refine aw_cf rfl ?_
    | refine aw_block ?_
    | refine then_n ?_
    | refine aw_skip ?_
    | refine aw_exit ?_
    | refine then_x ?_
    | refine then_r ?_
    | refine block_x ?_
    | refine block_n ?_
    | refine block_r ?_
    | refine aw_ret ?_

end Go.Proofs.Ytjlhfemfmkdlhaa.Ab
