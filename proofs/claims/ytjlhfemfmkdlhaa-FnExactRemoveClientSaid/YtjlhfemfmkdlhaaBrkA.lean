/-
  FnExactIsValidBroker: brokers and clients; what the two say.
-/
import Derived.Test.YtjlhfemfmkdlhaaAbQ
import Derived.Test.YtjlhfemfmkdlhaaAbT
namespace Go.Proofs.Ytjlhfemfmkdlhaa.Ab
open Go.RowKit
set_option linter.unusedVariables false
set_option linter.unusedSimpArgs false
set_option maxRecDepth 20000

structure Cl where
  a : Int
  b : Int
  c : Int

structure Br where
  pool : Int
  next : Int
  act : List Cl
  wait : List Cl

def clE (r : Cl) : List V := [I r.a, I r.b, I r.c]
def clT : Ty Cl := ⟨3, clE, fun _ => rfl, by decide, fun r c hc => by
  simp only [clE, List.mem_cons, List.not_mem_nil, or_false] at hc
  rcases hc with rfl | rfl | rfl <;> exact ⟨rfl, rfl⟩⟩
abbrev clL (xs : List Cl) : V := lstOf clT xs
def brE (b : Br) : List V := [I b.pool, I b.next, clL b.act, clL b.wait]
/-- Lists of lists, as they are walked. -/
def llT : Ty (List Cl) := ⟨1, fun xs => [clL xs], fun _ => rfl, by decide, fun r c hc => by
  simp only [List.mem_cons, List.not_mem_nil, or_false] at hc
  subst hc
  exact ⟨rfl, rfl⟩⟩

def inV (x lo hi : Int) : Bool := decide (lo ≤ x) && decide (x ≤ hi)

theorem c_in (x lo hi : Int) : Meets Go.Proofs.Try.prog 65 [I x, I lo, I hi] [] (B (inV x lo hi)) [] false := by
  refine meets_of [6] Go.Proofs.Try.func65 rfl rfl ?_
  simp only [Go.Proofs.Try.ntmps65, List.length_cons, List.length_nil, Nat.reduceAdd, Nat.reduceSub, List.replicate_succ, List.replicate_zero, List.cons_append, List.nil_append]
  repeat' first
    | refine aw_seq ?_
    | refine aw_region ?_
    | refine aw_lex [] ?_
    | (refine isA ?_; refine do_F rfl ?_)
    | (refine isL ?_; refine lex_F rfl (by kernel_rfl) rfl rfl ?_)
    | (refine isLg rfl ?_; refine lex_S rfl (by kernel_rfl) rfl rfl ?_)
    | (refine fin1 rfl rfl ?_; simp only [inV, *, Bool.false_and, Bool.true_and]; done)
    | refine aops_nil ?_
    | refine lex_done _ rfl (by kernel_rfl) ?_
    | refine aw_ct rfl ?_
    | refine aw_cf rfl ?_
    | refine aw_block ?_
    | refine then_n ?_
    | refine aw_skip ?_
    | refine aw_exit ?_
    | refine then_x ?_
    | refine then_r ?_
    | refine block_x ?_
    | refine block_n ?_
    | refine block_r ?_
    | refine aw_ret ?_
    | (refine isAg ?_; refine do_br rfl rfl (fun hbr => ?_) (fun hbr => ?_) <;> (fail_if_success (with_reducible (have hx : true = true := hbr))) <;> (fail_if_success (with_reducible (have hx : false = false := hbr))))
    | (refine isLg rfl ?_; refine lex_br rfl rfl rfl rfl (fun hbr => ?_) (fun hbr => ?_) <;> (fail_if_success (with_reducible (have hx : true = true := hbr))) <;> (fail_if_success (with_reducible (have hx : false = false := hbr))))

theorem c_within (x lo hi : Int) : Meets Go.Proofs.Try.prog 66 [I x, I lo, I hi] [] (B (inV x lo hi)) [] false := by
  refine meets_of [6] Go.Proofs.Try.func66 rfl rfl ?_
  simp only [Go.Proofs.Try.ntmps66, List.length_cons, List.length_nil, Nat.reduceAdd, Nat.reduceSub, List.replicate_succ, List.replicate_zero, List.cons_append, List.nil_append]
  repeat' first
    | refine aw_seq ?_
    | refine aw_region ?_
    | refine aw_lex [] ?_
    | (refine isA ?_; refine do_F rfl ?_)
    | (refine isL ?_; refine lex_F rfl (by kernel_rfl) rfl rfl ?_)
    | (refine isLg rfl ?_; refine lex_S rfl (by kernel_rfl) rfl rfl ?_)
    | (refine fin1 rfl rfl ?_; simp only [inV, *, Bool.false_and, Bool.true_and]; done)
    | refine aops_nil ?_
    | refine lex_done _ rfl (by kernel_rfl) ?_
    | refine aw_ct rfl ?_
    | refine aw_cf rfl ?_
    | refine aw_block ?_
    | refine then_n ?_
    | refine aw_skip ?_
    | refine aw_exit ?_
    | refine then_x ?_
    | refine then_r ?_
    | refine block_x ?_
    | refine block_n ?_
    | refine block_r ?_
    | refine aw_ret ?_
    | (refine isAg ?_; refine do_br rfl rfl (fun hbr => ?_) (fun hbr => ?_) <;> (fail_if_success (with_reducible (have hx : true = true := hbr))) <;> (fail_if_success (with_reducible (have hx : false = false := hbr))))
    | (refine isLg rfl ?_; refine lex_br rfl rfl rfl rfl (fun hbr => ?_) (fun hbr => ?_) <;> (fail_if_success (with_reducible (have hx : true = true := hbr))) <;> (fail_if_success (with_reducible (have hx : false = false := hbr))))

theorem c_isGrant (x : Int) : Meets Go.Proofs.Try.prog 81 [I x] [] (B (inV x 8 60)) [] false := by
  refine meets_of [2] Go.Proofs.Try.func81 rfl rfl ?_
  simp only [Go.Proofs.Try.ntmps81, List.length_cons, List.length_nil, Nat.reduceAdd, Nat.reduceSub, List.replicate_succ, List.replicate_zero, List.cons_append, List.nil_append]
  repeat' first
    | refine aw_seq ?_
    | refine aw_region ?_
    | refine aw_lex [] ?_
    | (refine isA ?_; refine do_F rfl ?_)
    | (refine isL ?_; refine lex_F rfl (by kernel_rfl) rfl rfl ?_)
    | (refine isLg rfl ?_; refine lex_S rfl (by kernel_rfl) rfl rfl ?_)
    | refine do_R rfl (st_call rfl (c_within _ _ _) (.cons (.same rfl) (.cons (.same rfl) (.cons (.same rfl) .nil))) rfl) rfl ?_
    | refine lex_R rfl (by kernel_rfl) rfl (st_call rfl (c_within _ _ _) (.cons (.same rfl) (.cons (.same rfl) (.cons (.same rfl) .nil))) rfl) rfl ?_
    | exact fin1 rfl rfl rfl
    | refine aops_nil ?_
    | refine lex_done _ rfl (by kernel_rfl) ?_
    | refine aw_ct rfl ?_
    | refine aw_cf rfl ?_
    | refine aw_block ?_
    | refine then_n ?_
    | refine aw_skip ?_
    | refine aw_exit ?_
    | refine then_x ?_
    | refine then_r ?_
    | refine block_x ?_
    | refine block_n ?_
    | refine block_r ?_
    | refine aw_ret ?_

def roomV (p : Int) : Int := if IntKind.i64.wrap (p.tdiv 8) < 5 then IntKind.i64.wrap (p.tdiv 8) else 5

theorem c_room (p : Int) : Meets Go.Proofs.Try.prog 74 [I p] [] (I (roomV p)) [] false := by
  refine meets_of [2] Go.Proofs.Try.func74 rfl rfl ?_
  simp only [Go.Proofs.Try.ntmps74, List.length_cons, List.length_nil, Nat.reduceAdd, Nat.reduceSub, List.replicate_succ, List.replicate_zero, List.cons_append, List.nil_append]
  repeat' first
    | refine aw_seq ?_
    | refine aw_region ?_
    | refine aw_lex [] ?_
    | (refine isA ?_; refine do_F rfl ?_)
    | (refine isL ?_; refine lex_F rfl (by kernel_rfl) rfl rfl ?_)
    | (refine isLg rfl ?_; refine lex_S rfl (by kernel_rfl) rfl rfl ?_)
    | exact fin1 rfl rfl rfl
    | refine aops_nil ?_
    | refine lex_done _ rfl (by kernel_rfl) ?_
    | refine aw_ct rfl ?_
    | refine aw_cf rfl ?_
    | refine aw_block ?_
    | refine then_n ?_
    | refine aw_skip ?_
    | refine aw_exit ?_
    | refine then_x ?_
    | refine then_r ?_
    | refine block_x ?_
    | refine block_n ?_
    | refine block_r ?_
    | refine aw_ret ?_

theorem c_iroom (b : Br) : Meets Go.Proofs.Try.prog 77 [.agg (brE b)] [] (I (roomV b.pool)) [] false := by
  refine meets_of [2] Go.Proofs.Try.func77 rfl rfl ?_
  simp only [Go.Proofs.Try.ntmps77, List.length_cons, List.length_nil, Nat.reduceAdd, Nat.reduceSub, List.replicate_succ, List.replicate_zero, List.cons_append, List.nil_append]
  repeat' first
    | refine aw_seq ?_
    | refine aw_region ?_
    | refine aw_lex [] ?_
    | (refine isA ?_; refine do_F rfl ?_)
    | (refine isL ?_; refine lex_F rfl (by kernel_rfl) rfl rfl ?_)
    | (refine isLg rfl ?_; refine lex_S rfl (by kernel_rfl) rfl rfl ?_)
    | exact fin1 rfl rfl rfl
    | refine aops_nil ?_
    | refine lex_done _ rfl (by kernel_rfl) ?_
    | refine aw_ct rfl ?_
    | refine aw_cf rfl ?_
    | refine aw_block ?_
    | refine then_n ?_
    | refine aw_skip ?_
    | refine aw_exit ?_
    | refine then_x ?_
    | refine then_r ?_
    | refine block_x ?_
    | refine block_n ?_
    | refine block_r ?_
    | refine aw_ret ?_

/-! ### Sizes -/
def szL (n : Nat) (left : Int) : Int := cond (decide (IntKind.i64.wrap (left - n) < 0)) (-1) (IntKind.i64.wrap (left - n))

theorem c_szClientS (xs : List Cl) (left : Int) : Meets Go.Proofs.Try.prog 70 [clL xs, I left] [] (I (szL xs.length left)) [] false := by
  refine meets_of [4] Go.Proofs.Try.func70 rfl rfl ?_
  simp only [Go.Proofs.Try.ntmps70, List.length_cons, List.length_nil, Nat.reduceAdd, Nat.reduceSub, List.replicate_succ, List.replicate_zero, List.cons_append, List.nil_append]
  repeat' first
    | refine aw_seq ?_
    | refine aw_region ?_
    | refine aw_lex [] ?_
    | (refine isA ?_; refine do_F rfl ?_)
    | (refine isL ?_; refine lex_F rfl (by kernel_rfl) rfl rfl ?_)
    | (refine isLg rfl ?_; refine lex_S rfl (by kernel_rfl) rfl rfl ?_)
    | refine aw_cond rfl (fun _ => ?_) (fun _ => ?_)
    | (refine fin1 rfl rfl ?_; simp only [szL, *, cond_true, cond_false]; done)
    | refine aops_nil ?_
    | refine lex_done _ rfl (by kernel_rfl) ?_
    | refine aw_ct rfl ?_
    | refine aw_cf rfl ?_
    | refine aw_block ?_
    | refine then_n ?_
    | refine aw_skip ?_
    | refine aw_exit ?_
    | refine then_x ?_
    | refine then_r ?_
    | refine block_x ?_
    | refine block_n ?_
    | refine block_r ?_
    | refine aw_ret ?_

def szB (b : Br) (left : Int) : Int := cond (decide (szL b.act.length left < 0)) (-1) (cond (decide (szL b.wait.length (szL b.act.length left) < 0)) (-1) (szL b.wait.length (szL b.act.length left)))

theorem c_szBroker (b : Br) (left : Int) : Meets Go.Proofs.Try.prog 20 [.agg (brE b), I left] [] (I (szB b left)) [] false := by
  refine meets_of [4] Go.Proofs.Try.func20 rfl rfl ?_
  simp only [Go.Proofs.Try.ntmps20, List.length_cons, List.length_nil, Nat.reduceAdd, Nat.reduceSub, List.replicate_succ, List.replicate_zero, List.cons_append, List.nil_append]
  repeat' first
    | refine aw_seq ?_
    | refine aw_region ?_
    | refine aw_lex [] ?_
    | (refine isA ?_; refine do_F rfl ?_)
    | (refine isL ?_; refine lex_F rfl (by kernel_rfl) rfl rfl ?_)
    | (refine isLg rfl ?_; refine lex_S rfl (by kernel_rfl) rfl rfl ?_)
    | refine do_R rfl (st_call rfl (c_szClientS _ _) (.cons (.same rfl) (.cons (.same rfl) .nil)) rfl) rfl ?_
    | refine lex_R rfl (by kernel_rfl) rfl (st_call rfl (c_szClientS _ _) (.cons (.same rfl) (.cons (.same rfl) .nil)) rfl) rfl ?_
    | refine aw_cond rfl (fun _ => ?_) (fun _ => ?_)
    | (refine fin1 rfl rfl ?_; simp only [szB, *, cond_true, cond_false]; done)
    | refine aops_nil ?_
    | refine lex_done _ rfl (by kernel_rfl) ?_
    | refine aw_ct rfl ?_
    | refine aw_cf rfl ?_
    | refine aw_block ?_
    | refine then_n ?_
    | refine aw_skip ?_
    | refine aw_exit ?_
    | refine then_x ?_
    | refine then_r ?_
    | refine block_x ?_
    | refine block_n ?_
    | refine block_r ?_
    | refine aw_ret ?_

/-! ### Copies -/
theorem c_toClient (c : Cl) : Meets Go.Proofs.Try.prog 93 [.agg (clE c)] [] (.agg (clE c)) [] true := by
  refine meets_ofC 2 53 Go.Proofs.Try.func93 rfl rfl ?_
  simp only [Go.Proofs.Try.ntmps93, List.length_cons, List.length_nil, Nat.reduceAdd, Nat.reduceSub, List.replicate_succ, List.replicate_zero, List.cons_append, List.nil_append]
  repeat' first
    | refine aw_seq ?_
    | refine aw_region ?_
    | refine aw_lex [] ?_
    | (refine isA ?_; refine do_F rfl ?_)
    | (refine isL ?_; refine lex_F rfl (by kernel_rfl) rfl rfl ?_)
    | (refine isLg rfl ?_; refine lex_S rfl (by kernel_rfl) rfl rfl ?_)
    | exact finC (cell_is rfl rfl rfl rfl rfl) (.same rfl)
    | refine aops_nil ?_
    | refine lex_done _ rfl (by kernel_rfl) ?_
    | refine aw_ct rfl ?_
    | refine aw_cf rfl ?_
    | refine aw_block ?_
    | refine then_n ?_
    | refine aw_skip ?_
    | refine aw_exit ?_
    | refine then_x ?_
    | refine then_r ?_
    | refine block_x ?_
    | refine block_n ?_
    | refine block_r ?_
    | refine aw_ret ?_

def z3 : Cl := ⟨0, 0, 0⟩
theorem c_toClientS (xs : List Cl) (hl : xs.length ≤ 1000000000) : Meets Go.Proofs.Try.prog 72 [clL xs] [] (clL xs) [] true := by
  refine meets_of [2] Go.Proofs.Try.func72 rfl rfl ?_
  simp only [Go.Proofs.Try.ntmps72, List.length_cons, List.length_nil, Nat.reduceAdd, Nat.reduceSub, List.replicate_succ, List.replicate_zero, List.cons_append, List.nil_append]
  repeat' first
    | refine aw_seq ?_
    | refine aw_region ?_
    | refine aw_lex [] ?_
    | (refine isA ?_; refine do_F rfl ?_)
    | (refine isL ?_; refine lex_F rfl (by kernel_rfl) rfl rfl ?_)
    | (refine isLg rfl ?_; refine lex_S rfl (by kernel_rfl) rfl rfl ?_)
    | refine do_R rfl (mk_l clT z3 rfl rfl rfl hl rfl rfl rfl) rfl ?_
    | refine lex_R rfl (by kernel_rfl) rfl (mk_l clT z3 rfl rfl rfl hl rfl rfl rfl) rfl ?_
    | refine aops_nil ?_
    | refine lex_done _ rfl (by kernel_rfl) ?_
    | refine aw_ct rfl ?_
    | refine aw_cf rfl ?_
    | refine aw_block ?_
    | refine then_n ?_
    | refine aw_skip ?_
    | refine aw_exit ?_
    | refine then_x ?_
    | refine then_r ?_
    | refine block_x ?_
    | refine block_n ?_
    | refine block_r ?_
    | refine aw_ret ?_
  refine aw_loop (α := { i : Nat // i ≤ xs.length }) (fun i => ⟨[clL xs, .any, .any, .sl 0 0 xs.length, I i.1, .any, .any, .any, .any, .any, .any, .any, .any, .any, .any, .any, .any, .any, .any, .any, .any, .any, .any], [regOf clT 53 (xs.take i.1 ++ List.replicate (xs.length - i.1) z3)], 0⟩) (fun i => xs.length - i.1) ⟨0, Nat.zero_le _⟩ ?_ ?_
  · exact sub0 [0] rfl rfl (by decide) (.cons rfl rfl rfl rfl (les_refl (flat_noH _ _)) .nil) (by repeat' first | exact les_nil | refine les_cons ?_ ?_ | exact le_any | exact le_refl rfl | exact le_sl rfl rfl | exact le_ptr rfl)
  · rintro ⟨i, hi⟩
    repeat' first
      | refine aw_seq ?_
      | refine aw_region ?_
      | refine aw_lex [] ?_
      | (refine isA ?_; refine do_F rfl ?_)
      | (refine isL ?_; refine lex_F rfl (by kernel_rfl) rfl rfl ?_)
      | (refine isLg rfl ?_; refine lex_S rfl (by kernel_rfl) rfl rfl ?_)
      | refine aops_nil ?_
      | refine lex_done _ rfl (by kernel_rfl) ?_
      | refine aw_ct rfl ?_
      | refine aw_cf rfl ?_
      | refine aw_block ?_
      | refine then_n ?_
      | refine aw_skip ?_
      | refine aw_exit ?_
      | refine then_x ?_
      | refine then_r ?_
      | refine block_x ?_
      | refine block_n ?_
      | refine block_r ?_
      | refine aw_ret ?_
    refine aw_cond rfl (fun h => ?_) (fun h => ?_)
    · have hlt : i < xs.length := by simpa using h
      obtain ⟨z, hz⟩ : ∃ z, xs[i]? = some z := ⟨_, List.getElem?_eq_getElem hlt⟩
      repeat' first
        | refine aw_seq ?_
        | refine aw_region ?_
        | refine aw_lex [] ?_
        | (refine isA ?_; refine do_F rfl ?_)
        | (refine isL ?_; refine lex_F rfl (by kernel_rfl) rfl rfl ?_)
        | (refine isLg rfl ?_; refine lex_S rfl (by kernel_rfl) rfl rfl ?_)
        | refine do_R rfl (ia_l (z := z) rfl rfl rfl rfl (Int.natCast_nonneg _) hz) rfl ?_
        | refine lex_R rfl (by kernel_rfl) rfl (ia_l (z := z) rfl rfl rfl rfl (Int.natCast_nonneg _) hz) rfl ?_
        | refine do_R rfl (st_call rfl (c_toClient _) (.cons (.same rfl) .nil) rfl) rfl ?_
        | refine lex_R rfl (by kernel_rfl) rfl (st_call rfl (c_toClient _) (.cons (.same rfl) .nil) rfl) rfl ?_
        | refine do_R rfl (step_ia_sl rfl rfl rfl (Nat.zero_le _) rfl rfl (Int.natCast_nonneg _) (by simpa using hlt)) rfl ?_
        | refine lex_R rfl (by kernel_rfl) rfl (step_ia_sl rfl rfl rfl (Nat.zero_le _) rfl rfl (Int.natCast_nonneg _) (by simpa using hlt)) rfl ?_
        | refine do_R rfl (set_l rfl rfl rfl rfl rfl (by simp; omega)) rfl ?_
        | refine lex_R rfl (by kernel_rfl) rfl (set_l rfl rfl rfl rfl rfl (by simp; omega)) rfl ?_
        | refine aops_nil ?_
        | refine lex_done _ rfl (by kernel_rfl) ?_
        | refine aw_ct rfl ?_
        | refine aw_cf rfl ?_
        | refine aw_block ?_
        | refine then_n ?_
        | refine aw_skip ?_
        | refine aw_exit ?_
        | refine then_x ?_
        | refine then_r ?_
        | refine block_x ?_
        | refine block_n ?_
        | refine block_r ?_
        | refine aw_ret ?_
      refine ⟨⟨i + 1, hlt⟩, by simp only; omega, ?_⟩
      exact sub0 [0] rfl rfl (by decide) (.cons rfl rfl rfl rfl (les_eq (by rw [Nat.zero_add]; exact congrArg clT.flat (fill_step (xs := xs) hz rfl)) (flat_noH _ _)) .nil) (by repeat' first | exact les_nil | refine les_cons ?_ ?_ | exact le_any | exact le_refl rfl | exact le_sl rfl rfl | exact le_ptr rfl | exact le_i (by assumption) (by omega))
    · have hge : i = xs.length := by
        have : ¬ ((i : Int) < xs.length) := by simpa using h
        omega
      subst hge
      repeat' first
        | refine aw_seq ?_
        | refine aw_region ?_
        | refine aw_lex [] ?_
        | (refine isA ?_; refine do_F rfl ?_)
        | (refine isL ?_; refine lex_F rfl (by kernel_rfl) rfl rfl ?_)
        | (refine isLg rfl ?_; refine lex_S rfl (by kernel_rfl) rfl rfl ?_)
        | exact finP rfl (pur_L rfl rfl (by simp) rfl)
        | refine aops_nil ?_
        | refine lex_done _ rfl (by kernel_rfl) ?_
        | refine aw_ct rfl ?_
        | refine aw_cf rfl ?_
        | refine aw_block ?_
        | refine then_n ?_
        | refine aw_skip ?_
        | refine aw_exit ?_
        | refine then_x ?_
        | refine then_r ?_
        | refine block_x ?_
        | refine block_n ?_
        | refine block_r ?_
        | refine aw_ret ?_

theorem c_toBroker (b : Br) (h1 : b.act.length ≤ 1000000000) (h2 : b.wait.length ≤ 1000000000) : Meets Go.Proofs.Try.prog 22 [.agg (brE b)] [] (.agg (brE b)) [] true := by
  refine meets_ofC 2 24 Go.Proofs.Try.func22 rfl rfl ?_
  simp only [Go.Proofs.Try.ntmps22, List.length_cons, List.length_nil, Nat.reduceAdd, Nat.reduceSub, List.replicate_succ, List.replicate_zero, List.cons_append, List.nil_append]
  repeat' first
    | refine aw_seq ?_
    | refine aw_region ?_
    | refine aw_lex [] ?_
    | (refine isA ?_; refine do_F rfl ?_)
    | (refine isL ?_; refine lex_F rfl (by kernel_rfl) rfl rfl ?_)
    | (refine isLg rfl ?_; refine lex_S rfl (by kernel_rfl) rfl rfl ?_)
    | refine do_R rfl (st_call rfl (c_toClientS _ h1) (.cons (.same rfl) .nil) rfl) rfl ?_
    | refine lex_R rfl (by kernel_rfl) rfl (st_call rfl (c_toClientS _ h1) (.cons (.same rfl) .nil) rfl) rfl ?_
    | refine do_R rfl (st_call rfl (c_toClientS _ h2) (.cons (.same rfl) .nil) rfl) rfl ?_
    | refine lex_R rfl (by kernel_rfl) rfl (st_call rfl (c_toClientS _ h2) (.cons (.same rfl) .nil) rfl) rfl ?_
    | exact finC (cell_is rfl rfl rfl rfl rfl) (.same rfl)
    | refine aops_nil ?_
    | refine lex_done _ rfl (by kernel_rfl) ?_
    | refine aw_ct rfl ?_
    | refine aw_cf rfl ?_
    | refine aw_block ?_
    | refine then_n ?_
    | refine aw_skip ?_
    | refine aw_exit ?_
    | refine then_x ?_
    | refine then_r ?_
    | refine block_x ?_
    | refine block_n ?_
    | refine block_r ?_
    | refine aw_ret ?_

/-! ### Alike -/
def eqC (x y : Cl) : Bool := bif !(decide (x.a = y.a)) then false else bif !(decide (x.b = y.b)) then false else bif !(decide (x.c = y.c)) then false else true
theorem eqC_self (x : Cl) : eqC x x = true := by simp [eqC]

theorem c_eqClient (x y : Cl) : Meets Go.Proofs.Try.prog 92 [.agg (clE x), .agg (clE y)] [] (B (eqC x y)) [] false := by
  refine meets_of [4] Go.Proofs.Try.func92 rfl rfl ?_
  simp only [Go.Proofs.Try.ntmps92, List.length_cons, List.length_nil, Nat.reduceAdd, Nat.reduceSub, List.replicate_succ, List.replicate_zero, List.cons_append, List.nil_append]
  repeat' first
    | refine aw_seq ?_
    | refine aw_region ?_
    | refine aw_lex [] ?_
    | (refine isA ?_; refine do_F rfl ?_)
    | (refine isL ?_; refine lex_F rfl (by kernel_rfl) rfl rfl ?_)
    | (refine isLg rfl ?_; refine lex_S rfl (by kernel_rfl) rfl rfl ?_)
    | refine aw_cond rfl (fun _ => ?_) (fun _ => ?_)
    | (refine fin1 rfl rfl ?_; simp only [eqC, *, cond_true, cond_false]; done)
    | refine aops_nil ?_
    | refine lex_done _ rfl (by kernel_rfl) ?_
    | refine aw_ct rfl ?_
    | refine aw_cf rfl ?_
    | refine aw_block ?_
    | refine then_n ?_
    | refine aw_skip ?_
    | refine aw_exit ?_
    | refine then_x ?_
    | refine then_r ?_
    | refine block_x ?_
    | refine block_n ?_
    | refine block_r ?_
    | refine aw_ret ?_

def eqL : List Cl → List Cl → Bool
  | [], [] => true
  | x :: xs, y :: ys => eqC x y && eqL xs ys
  | _, _ => false
theorem eqL_self : ∀ xs : List Cl, eqL xs xs = true
  | [] => rfl
  | x :: xs => by simp [eqL, eqC_self, eqL_self xs]
end Go.Proofs.Ytjlhfemfmkdlhaa.Ab
