/-
  Draws of accounts.
-/
import Derived.Test.YtjlhfemfmkdlhaaDrwD
namespace Go.Proofs.Ytjlhfemfmkdlhaa.Ab
open Go.RowKit
set_option linter.unusedVariables false
set_option linter.unusedSimpArgs false
set_option maxRecDepth 20000
set_option maxHeartbeats 1000000

def pkV (zs : List Int) (c : Cur) : Int := (zs[(beV zs.length c).toNat]?).getD 0
theorem c_pickL (zs : List Int) (c : Cur) (hl : c.code.length ≤ 1000000000) (h0 : 0 < zs.length) : Meets Go.Proofs.Try.prog 88 [.ptr 0 0, .lst zs.length (zs.map I)] [curR c] (I (pkV zs c)) [curR (beC zs.length c)] true := by
  obtain ⟨r0, r1⟩ := beV_range (n := zs.length) (by omega) c
  refine c_pick _ _ _ c hl h0 ?_
  have hlt : (beV zs.length c).toNat < zs.length := by omega
  rw [List.getElem?_map, pkV, List.getElem?_eq_getElem hlt]
  rfl

theorem c_drawNA (xs : List Int) (hl : xs.length ≤ 1000000000) : Meets Go.Proofs.Try.prog 62 [lstOf u8T xs] [] (I (pkV [7, 8, 60, 61, -1, 30] (newC xs))) [] true := by
  refine meets_of [2] Go.Proofs.Try.func62 rfl rfl ?_
  simp only [Go.Proofs.Try.ntmps62, List.length_cons, List.length_nil, Nat.reduceAdd, Nat.reduceSub, List.replicate_succ, List.replicate_zero, List.cons_append, List.nil_append]
  repeat' first
    | (refine isA ?_; refine do_R rfl (lit_of rfl rfl rfl rfl rfl) rfl ?_)
    | refine aw_seq ?_
    | refine aw_region ?_
    | refine aw_lex [] ?_
    | (refine isA ?_; refine do_F rfl ?_)
    | (refine isL ?_; refine lex_F rfl (by kernel_rfl) rfl rfl ?_)
    | (refine isLg rfl ?_; refine lex_S rfl (by kernel_rfl) rfl rfl ?_)
    | (refine isAc 83 ?_; refine do_R rfl (st_callK rfl (c_new xs hl) (.cons (.same rfl) .nil) (fun q hq => by simp at hq; subst hq; exact curR_noH _) rfl rfl) rfl ?_)
    | (refine isLc 83 rfl ?_; refine lex_R rfl (by kernel_rfl) rfl (st_callK rfl (c_new xs hl) (.cons (.same rfl) .nil) (fun q hq => by simp at hq; subst hq; exact curR_noH _) rfl rfl) rfl ?_)
    | (refine isAc 88 ?_; refine do_R rfl (step_callMs (K := []) (Rs' := [_]) [0] (by decide) rfl (c_pickL [7, 8, 60, 61, -1, 30] (newC xs) hl (by decide)) (.cons rfl rfl rfl (curR_noH _) (curR_noH _) .nil) (.cons (.ptr rfl) (.cons (.same rfl) .nil)) (fun q hq => by cases hq) rfl) rfl ?_)
    | (refine isLc 88 rfl ?_; refine lex_R rfl (by kernel_rfl) rfl (step_callMs (K := []) (Rs' := [_]) [0] (by decide) rfl (c_pickL [7, 8, 60, 61, -1, 30] (newC xs) hl (by decide)) (.cons rfl rfl rfl (curR_noH _) (curR_noH _) .nil) (.cons (.ptr rfl) (.cons (.same rfl) .nil)) (fun q hq => by cases hq) rfl) rfl ?_)
    | exact finP rfl (.same rfl)
    | refine aops_nil ?_
    | refine lex_done _ rfl (by kernel_rfl) ?_
    | refine aw_ct rfl ?_
    | refine aw_cf rfl ?_
    | refine aw_block ?_
    | refine then_n ?_
    | refine aw_skip ?_
    | refine aw_exit ?_
    | refine then_x ?_
    | refine then_r ?_
    | refine block_x ?_
    | refine block_n ?_
    | refine block_r ?_
    | refine aw_ret ?_

/-! ### An account, drawn -/
def turnA (p : Ac × Cur) : Ac × Cur :=
  cond (decide (beV 3 p.2 = 0)) ((chV p.1 (beV 20 (beC 3 p.2))).1, beC 20 (beC 3 p.2)) (cond (decide (beV 3 p.2 = 1)) ((reV p.1 (beV 10 (beC 3 p.2))).1, beC 10 (beC 3 p.2)) ((sgV p.1 (IntKind.i64.wrap (8 + beV 40 (beC 3 p.2)))).1, beC 40 (beC 3 p.2)))
def turnsA (p : Ac × Cur) : Nat → Ac × Cur
  | 0 => p
  | i + 1 => turnA (turnsA p i)
def lastA (p : Ac × Cur) : Ac × Cur :=
  cond (decide (beV 12 p.2 = 0)) (⟨pkV [-1, 61, IntKind.i64.wrap (p.1.p + 1)] (beC 12 p.2), p.1.g, p.1.p, p.1.s⟩, beC 3 (beC 12 p.2))
    (cond (decide (beV 12 p.2 = 1)) (⟨p.1.u, pkV [7, 61] (beC 12 p.2), p.1.p, p.1.s⟩, beC 2 (beC 12 p.2))
      (cond (decide (beV 12 p.2 = 2)) (⟨p.1.u, p.1.g, p.1.p, pkV [-1, 1000, 1001] (beC 12 p.2)⟩, beC 3 (beC 12 p.2)) (p.1, beC 12 p.2)))
def drawA (c : Cur) : Ac × Cur := lastA (turnsA ((naV (pkV [8, 20, 60] c)).1, beC 6 (beC 3 c)) (beV 6 (beC 3 c)).toNat)
theorem turnA_code (p : Ac × Cur) : (turnA p).2.code = p.2.code := by
  unfold turnA
  cases decide (beV 3 p.2 = 0) <;> cases decide (beV 3 p.2 = 1) <;> simp [beC_code]
theorem turnsA_code (p : Ac × Cur) : ∀ i, (turnsA p i).2.code = p.2.code
  | 0 => rfl
  | i + 1 => by rw [turnsA, turnA_code, turnsA_code p i]
end Go.Proofs.Ytjlhfemfmkdlhaa.Ab
