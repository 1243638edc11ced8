/- Texts SqB0, SoB0, SpA1, SqB1, StC, StD, StE, StF, StB2 in one. -/
import Derived.Test.YtojcojanokhnaaaGC
import Derived.Test.YtojcojanokhnaaaGA
set_option linter.unusedVariables false
set_option linter.unusedSimpArgs false
set_option maxRecDepth 20000
set_option maxHeartbeats 8000000
/- SqB0 -/
namespace Go.Proofs.Ytojcojanokhnaaa.Ab
open Go.RowKit

/-! ### Runs -/
def runB (r : Rn) : Bool := !decide (r.length = 0) && (isoV r && avR r)
theorem avS_no {rs : List Rn} {i : Nat} {z : Rn} (hz : rs[i]? = some z) (h : runB z = false) : avS rs = false := by
  cases e : avS rs with
  | false => rfl
  | true =>
    have := List.all_eq_true.1 e z (List.mem_of_getElem? hz)
    rw [show (!decide (z.length = 0) && (isoV z && avR z)) = runB z from rfl, h] at this
    cases this
theorem avS_yes {rs : List Rn} (h : ∀ j z, j < rs.length → rs[j]? = some z → runB z = true) : avS rs = true := List.all_eq_true.2 fun z hz => by
  obtain ⟨j, hj⟩ := List.getElem?_of_mem hz
  exact h j z (List.getElem?_eq_some_iff.1 hj).1 hj
theorem runB_e {z : Rn} : runB z = (!decide ((z.length : Int) = 0) && (isoV z && avR z)) := by
  unfold runB
  congr 2
  exact decide_eq_decide.2 (by omega)
theorem step_all {rs : List Rn} {i : Nat} {z : Rn} (hb : ∀ j z, j < i → rs[j]? = some z → runB z = true) (hz : rs[i]? = some z) (h : runB z = true) : ∀ j z, j < i + 1 → rs[j]? = some z → runB z = true := fun j y hj hy => by
  rcases Nat.lt_or_ge j i with hlt | hge
  · exact hb j y hlt hy
  · obtain rfl : j = i := by omega
    rw [hz] at hy
    cases hy
    exact h
theorem c_iavS (rs : List Rn) (hok : okRn rs) : Meets Go.Proofs.Try.prog 76 [rnL rs] [] (B (avS rs)) [] false := by
  have hl := hok.1
  refine meets_of [2] Go.Proofs.Try.func76 rfl rfl ?_
  simp only [Go.Proofs.Try.ntmps76, List.length_cons, List.length_nil, Nat.reduceAdd, Nat.reduceSub, List.replicate_succ, List.replicate_zero, List.cons_append, List.nil_append]
  repeat' first | refine aw_seq ?_ | refine aw_region ?_ | refine aw_lex [] ?_ | (refine isA ?_; refine do_F rfl ?_) | (refine isL ?_; refine lex_F rfl (by kernel_rfl) rfl rfl ?_) | (refine isLg rfl ?_; refine lex_S rfl (by kernel_rfl) rfl rfl ?_) | refine aops_nil ?_ | refine lex_done _ rfl (by kernel_rfl) ?_ | refine aw_ct rfl ?_ | refine aw_cf rfl ?_ | refine aw_block ?_ | with_reducible refine then_n ?_ | refine aw_skip ?_ | refine aw_exit ?_ | (with_reducible first | refine then_x ?_ | refine then_r ?_ | refine block_x ?_ | refine block_n ?_ | refine block_r ?_) | refine aw_ret ?_
  refine aw_loop (α := { i : Nat // i ≤ rs.length ∧ ∀ j z, j < i → rs[j]? = some z → runB z = true }) (fun i => ⟨[.any, .any, .any, .any, .any, rnL rs, I rs.length, I i.1, .any, .any, .any, .any, .any, .any, .any, .any, .any, .any, .any, .any, .any, .any, .any, .any, .any, .any, .any, .any], [], 0⟩) (fun i => rs.length - i.1) ⟨0, Nat.zero_le _, fun j z h => absurd h (Nat.not_lt_zero j)⟩ ?_ ?_
  · exact sub0 [] rfl rfl (by decide) .nil (by repeat' first | exact les_nil | refine les_cons ?_ ?_ | exact le_any | exact le_refl rfl | exact le_sl rfl rfl | exact le_ptr rfl)
  · rintro ⟨i, hi, hb⟩
    repeat' first | refine aw_seq ?_ | refine aw_region ?_ | refine aw_lex [] ?_ | (refine isA ?_; refine do_F rfl ?_) | (refine isL ?_; refine lex_F rfl (by kernel_rfl) rfl rfl ?_) | (refine isLg rfl ?_; refine lex_S rfl (by kernel_rfl) rfl rfl ?_) | refine aops_nil ?_ | refine lex_done _ rfl (by kernel_rfl) ?_ | refine aw_ct rfl ?_ | refine aw_cf rfl ?_ | refine aw_block ?_ | with_reducible refine then_n ?_ | refine aw_skip ?_ | refine aw_exit ?_ | (with_reducible first | refine then_x ?_ | refine then_r ?_ | refine block_x ?_ | refine block_n ?_ | refine block_r ?_) | refine aw_ret ?_
    refine aw_cond rfl (fun h => ?_) (fun h => ?_)
    · have hlt : i < rs.length := by simpa using h
      obtain ⟨z, hz⟩ : ∃ z, rs[i]? = some z := ⟨_, List.getElem?_eq_getElem hlt⟩
      have zl := hok.at hz
      have hno := avS_no hz
      have hyes := step_all hb hz
      rw [runB_e] at hno hyes
      have c1 := c_iiso z zl
      have c2 := c_iavR z zl
      generalize isoV z = p at hno hyes c1
      generalize avR z = q at hno hyes c2
      repeat' first | refine aw_seq ?_ | refine aw_region ?_ | refine aw_lex [] ?_ | (refine isA ?_; refine do_F rfl ?_) | (refine isL ?_; refine lex_F rfl (by kernel_rfl) rfl rfl ?_) | (refine isLg rfl ?_; refine lex_S rfl (by kernel_rfl) rfl rfl ?_) | (refine isAi ?_; refine do_R rfl (ia_l (t := rnT) (z := z) rfl rfl rfl rfl (Int.natCast_nonneg i) hz) rfl ?_) | (refine isLi rfl ?_; refine lex_R rfl (by kernel_rfl) rfl (ia_l (t := rnT) (z := z) rfl rfl rfl rfl (Int.natCast_nonneg i) hz) rfl ?_) | (refine isAc 77 ?_; refine do_R rfl (st_call rfl c1 (.cons (.same rfl) .nil) rfl) rfl ?_) | (refine isLc 77 rfl ?_; refine lex_R rfl (by kernel_rfl) rfl (st_call rfl c1 (.cons (.same rfl) .nil) rfl) rfl ?_) | (refine isAc 74 ?_; refine do_R rfl (st_call rfl c2 (.cons (.same rfl) .nil) rfl) rfl ?_) | (refine isLc 74 rfl ?_; refine lex_R rfl (by kernel_rfl) rfl (st_call rfl c2 (.cons (.same rfl) .nil) rfl) rfl ?_) | refine aops_nil ?_ | refine lex_done _ rfl (by kernel_rfl) ?_ | refine aw_ct rfl ?_ | refine aw_cf rfl ?_ | refine aw_block ?_ | with_reducible refine then_n ?_ | refine aw_skip ?_ | refine aw_exit ?_ | (with_reducible first | refine then_x ?_ | refine then_r ?_ | refine block_x ?_ | refine block_n ?_ | refine block_r ?_) | refine aw_ret ?_ | refine aw_cond rfl (fun hbr => ?_) (fun hbr => ?_) | (refine isAg ?_; refine do_br rfl rfl (fun hbr => ?_) (fun hbr => ?_) <;> (fail_if_success (with_reducible (have hx : true = true := hbr))) <;> (fail_if_success (with_reducible (have hx : false = false := hbr)))) | (refine isLg rfl ?_; refine lex_br rfl rfl rfl rfl (fun hbr => ?_) (fun hbr => ?_) <;> (fail_if_success (with_reducible (have hx : true = true := hbr))) <;> (fail_if_success (with_reducible (have hx : false = false := hbr))))
      all_goals first
        | exact fin1 rfl rfl (congrArg B (hno (by simp_all)).symm)
        | (refine ⟨⟨i + 1, hlt, hyes (by simp_all)⟩, by simp only; omega, ?_⟩; exact sub0 [] rfl rfl (by decide) .nil (by repeat' first | exact les_nil | refine les_cons ?_ ?_ | exact le_any | exact le_refl rfl | exact le_sl rfl rfl | exact le_ptr rfl | exact le_i (by assumption) (by omega)))
    · have hge : i = rs.length := by
        have : ¬ ((i : Int) < rs.length) := by simpa using h
        omega
      subst hge
      repeat' first | refine aw_seq ?_ | refine aw_region ?_ | refine aw_lex [] ?_ | (refine isA ?_; refine do_F rfl ?_) | (refine isL ?_; refine lex_F rfl (by kernel_rfl) rfl rfl ?_) | (refine isLg rfl ?_; refine lex_S rfl (by kernel_rfl) rfl rfl ?_) | exact fin1 rfl rfl (by rw [avS_yes hb]) | refine aops_nil ?_ | refine lex_done _ rfl (by kernel_rfl) ?_ | refine aw_ct rfl ?_ | refine aw_cf rfl ?_ | refine aw_block ?_ | with_reducible refine then_n ?_ | refine aw_skip ?_ | refine aw_exit ?_ | (with_reducible first | refine then_x ?_ | refine then_r ?_ | refine block_x ?_ | refine block_n ?_ | refine block_r ?_) | refine aw_ret ?_
theorem c_savS (rs : List Rn) (hok : okRn rs) : Meets Go.Proofs.Try.prog 83 [rnL rs] [] (B (avS rs)) [] false := by
  have hl := hok.1
  refine meets_of [2] Go.Proofs.Try.func83 rfl rfl ?_
  simp only [Go.Proofs.Try.ntmps83, List.length_cons, List.length_nil, Nat.reduceAdd, Nat.reduceSub, List.replicate_succ, List.replicate_zero, List.cons_append, List.nil_append]
  repeat' first | refine aw_seq ?_ | refine aw_region ?_ | refine aw_lex [] ?_ | (refine isA ?_; refine do_F rfl ?_) | (refine isL ?_; refine lex_F rfl (by kernel_rfl) rfl rfl ?_) | (refine isLg rfl ?_; refine lex_S rfl (by kernel_rfl) rfl rfl ?_) | refine aops_nil ?_ | refine lex_done _ rfl (by kernel_rfl) ?_ | refine aw_ct rfl ?_ | refine aw_cf rfl ?_ | refine aw_block ?_ | with_reducible refine then_n ?_ | refine aw_skip ?_ | refine aw_exit ?_ | (with_reducible first | refine then_x ?_ | refine then_r ?_ | refine block_x ?_ | refine block_n ?_ | refine block_r ?_) | refine aw_ret ?_
  refine aw_loop (α := { i : Nat // i ≤ rs.length ∧ ∀ j z, j < i → rs[j]? = some z → runB z = true }) (fun i => ⟨[rnL rs, .any, .any, I i.1, .any, .any, .any, .any, .any, .any, .any, .any, .any, .any, .any, .any, .any, .any, .any, .any, .any, .any, .any, .any, .any, .any, .any, .any, .any, .any, .any, .any, .any, .any, .any], [], 0⟩) (fun i => rs.length - i.1) ⟨0, Nat.zero_le _, fun j z h => absurd h (Nat.not_lt_zero j)⟩ ?_ ?_
  · exact sub0 [] rfl rfl (by decide) .nil (by repeat' first | exact les_nil | refine les_cons ?_ ?_ | exact le_any | exact le_refl rfl | exact le_sl rfl rfl | exact le_ptr rfl)
  · rintro ⟨i, hi, hb⟩
    repeat' first | refine aw_seq ?_ | refine aw_region ?_ | refine aw_lex [] ?_ | (refine isA ?_; refine do_F rfl ?_) | (refine isL ?_; refine lex_F rfl (by kernel_rfl) rfl rfl ?_) | (refine isLg rfl ?_; refine lex_S rfl (by kernel_rfl) rfl rfl ?_) | refine aops_nil ?_ | refine lex_done _ rfl (by kernel_rfl) ?_ | refine aw_ct rfl ?_ | refine aw_cf rfl ?_ | refine aw_block ?_ | with_reducible refine then_n ?_ | refine aw_skip ?_ | refine aw_exit ?_ | (with_reducible first | refine then_x ?_ | refine then_r ?_ | refine block_x ?_ | refine block_n ?_ | refine block_r ?_) | refine aw_ret ?_
    refine aw_cond rfl (fun h => ?_) (fun h => ?_)
    · have hlt : i < rs.length := by simpa using h
      obtain ⟨z, hz⟩ : ∃ z, rs[i]? = some z := ⟨_, List.getElem?_eq_getElem hlt⟩
      have zl := hok.at hz
      have hno := avS_no hz
      have hyes := step_all hb hz
      rw [runB_e] at hno hyes
      have c1 := c_siso z zl
      have c2 := c_savR z zl
      generalize isoV z = p at hno hyes c1
      generalize avR z = q at hno hyes c2
      repeat' first | refine aw_seq ?_ | refine aw_region ?_ | refine aw_lex [] ?_ | (refine isA ?_; refine do_F rfl ?_) | (refine isL ?_; refine lex_F rfl (by kernel_rfl) rfl rfl ?_) | (refine isLg rfl ?_; refine lex_S rfl (by kernel_rfl) rfl rfl ?_) | (refine isAi ?_; refine do_R rfl (ia_l (t := rnT) (z := z) rfl rfl rfl rfl (Int.natCast_nonneg i) hz) rfl ?_) | (refine isLi rfl ?_; refine lex_R rfl (by kernel_rfl) rfl (ia_l (t := rnT) (z := z) rfl rfl rfl rfl (Int.natCast_nonneg i) hz) rfl ?_) | (refine isAc 84 ?_; refine do_R rfl (st_call rfl c1 (.cons (.same rfl) .nil) rfl) rfl ?_) | (refine isLc 84 rfl ?_; refine lex_R rfl (by kernel_rfl) rfl (st_call rfl c1 (.cons (.same rfl) .nil) rfl) rfl ?_) | (refine isAc 25 ?_; refine do_R rfl (st_call rfl c2 (.cons (.same rfl) .nil) rfl) rfl ?_) | (refine isLc 25 rfl ?_; refine lex_R rfl (by kernel_rfl) rfl (st_call rfl c2 (.cons (.same rfl) .nil) rfl) rfl ?_) | refine aops_nil ?_ | refine lex_done _ rfl (by kernel_rfl) ?_ | refine aw_ct rfl ?_ | refine aw_cf rfl ?_ | refine aw_block ?_ | with_reducible refine then_n ?_ | refine aw_skip ?_ | refine aw_exit ?_ | (with_reducible first | refine then_x ?_ | refine then_r ?_ | refine block_x ?_ | refine block_n ?_ | refine block_r ?_) | refine aw_ret ?_ | refine aw_cond rfl (fun hbr => ?_) (fun hbr => ?_) | (refine isAg ?_; refine do_br rfl rfl (fun hbr => ?_) (fun hbr => ?_) <;> (fail_if_success (with_reducible (have hx : true = true := hbr))) <;> (fail_if_success (with_reducible (have hx : false = false := hbr)))) | (refine isLg rfl ?_; refine lex_br rfl rfl rfl rfl (fun hbr => ?_) (fun hbr => ?_) <;> (fail_if_success (with_reducible (have hx : true = true := hbr))) <;> (fail_if_success (with_reducible (have hx : false = false := hbr))))
      all_goals first
        | exact fin1 rfl rfl (congrArg B (hno (by simp_all)).symm)
        | (refine ⟨⟨i + 1, hlt, hyes (by simp_all)⟩, by simp only; omega, ?_⟩; exact sub0 [] rfl rfl (by decide) .nil (by repeat' first | exact les_nil | refine les_cons ?_ ?_ | exact le_any | exact le_refl rfl | exact le_sl rfl rfl | exact le_ptr rfl | exact le_i (by assumption) (by omega)))
    · have hge : i = rs.length := by
        have : ¬ ((i : Int) < rs.length) := by simpa using h
        omega
      subst hge
      repeat' first | refine aw_seq ?_ | refine aw_region ?_ | refine aw_lex [] ?_ | (refine isA ?_; refine do_F rfl ?_) | (refine isL ?_; refine lex_F rfl (by kernel_rfl) rfl rfl ?_) | (refine isLg rfl ?_; refine lex_S rfl (by kernel_rfl) rfl rfl ?_) | exact fin1 rfl rfl (by rw [avS_yes hb]) | refine aops_nil ?_ | refine lex_done _ rfl (by kernel_rfl) ?_ | refine aw_ct rfl ?_ | refine aw_cf rfl ?_ | refine aw_block ?_ | with_reducible refine then_n ?_ | refine aw_skip ?_ | refine aw_exit ?_ | (with_reducible first | refine then_x ?_ | refine then_r ?_ | refine block_x ?_ | refine block_n ?_ | refine block_r ?_) | refine aw_ret ?_
end Go.Proofs.Ytojcojanokhnaaa.Ab

/- SoB0 -/
namespace Go.Proofs.Ytojcojanokhnaaa.Ab
open Go.RowKit

def rwI (x : Rw) : List Int := [x.a, x.b, x.c]
def rwD (x y : Rw) : Bool := decide (rwI x = rwI y)
theorem neqRw {o : Oper} {ρ : Operand → V} {H : List Reg} {t' : TypeId} {x y : Operand} {a b : Rw} (ho : o.op = .binOp .neq 78 x y t') (hx : ρ x = .agg (rwE a)) (hy : ρ y = .agg (rwE b)) : Step Go.Proofs.Try.prog o ρ H (B (!rwD a b)) H :=
  step_neqA (us := rwI a) (bs := rwI b) _ (intFs_of Go.Proofs.Try.underlying78 (by kernel_rfl) (by kernel_rfl) (by kernel_rfl)) ho hx hy rfl rfl
theorem rwD_iff {x y : Rw} : rwD x y = true ↔ x = y := by
  cases x; cases y
  simp [rwD, rwI]

def eqLd : List Rw → List Rw → Bool
  | [], [] => true
  | x :: xs, y :: ys => rwD x y && eqLd xs ys
  | _, _ => false
theorem eqLd_iff : ∀ {xs ys : List Rw}, eqLd xs ys = true ↔ xs = ys
  | [], [] => by simp [eqLd]
  | x :: xs, y :: ys => by simp only [eqLd, Bool.and_eq_true, rwD_iff, eqLd_iff, List.cons.injEq]
  | [], y :: ys => by simp [eqLd]
  | x :: xs, [] => by simp [eqLd]
theorem eqLd_len {xs ys : List Rw} (h : xs.length ≠ ys.length) : eqLd xs ys = false := by
  cases he : eqLd xs ys with
  | false => rfl
  | true => exact absurd (congrArg List.length (eqLd_iff.1 he)) h
theorem eqLd_at {xs ys : List Rw} {i : Nat} {x y : Rw} (hx : xs[i]? = some x) (hy : ys[i]? = some y) : eqLd (xs.drop i) (ys.drop i) = (rwD x y && eqLd (xs.drop (i + 1)) (ys.drop (i + 1))) := by
  rw [take_drop1 hx, take_drop1 hy, eqLd]
end Go.Proofs.Ytojcojanokhnaaa.Ab

/- SpA1 -/
namespace Go.Proofs.Ytojcojanokhnaaa.Ab
open Go.RowKit

/-! ### Bags -/
def eqB (xs ys : List Rw) : Bool := eqLd (srtV xs) (srtV ys)
theorem eqB_iff {xs ys : List Rw} : eqB xs ys = true ↔ xs.Perm ys := by
  unfold eqB
  rw [eqLd_iff]
  constructor
  · intro h
    have h1 := srtV_perm xs
    rw [h] at h1
    exact h1.symm.trans (srtV_perm ys)
  · intro h
    exact srtV_of (srtV_srt _) ((srtV_perm xs).trans h)
end Go.Proofs.Ytojcojanokhnaaa.Ab

/- SqB1 -/
namespace Go.Proofs.Ytojcojanokhnaaa.Ab
open Go.RowKit

theorem c_seqB2 (xs ys : List Rw) (h1 : xs.length ≤ 100000000) (h2 : ys.length ≤ 100000000) : Meets Go.Proofs.Try.prog 86 [rwL xs, rwL ys] [] (B (eqB xs ys)) [] false := by
  have s1 := (c_ssort xs h1).frozen (pur_row rfl)
  have s2 := (c_ssort ys h2).frozen (pur_row rfl)
  have l1 := srtV_len xs
  have l2 := srtV_len ys
  show Meets Go.Proofs.Try.prog 86 [rwL xs, rwL ys] [] (B (eqLd (srtV xs) (srtV ys))) [] false
  generalize srtV xs = us at s1 l1 ⊢
  generalize srtV ys = vs at s2 l2 ⊢
  refine meets_of [4] Go.Proofs.Try.func86 rfl rfl ?_
  simp only [Go.Proofs.Try.ntmps86, List.length_cons, List.length_nil, Nat.reduceAdd, Nat.reduceSub, List.replicate_succ, List.replicate_zero, List.cons_append, List.nil_append]
  repeat' first | refine aw_seq ?_ | refine aw_region ?_ | refine aw_lex [] ?_ | (refine isA ?_; refine do_F rfl ?_) | (refine isL ?_; refine lex_F rfl (by kernel_rfl) rfl rfl ?_) | (refine isLg rfl ?_; refine lex_S rfl (by kernel_rfl) rfl rfl ?_) | (refine isAc 28 (x := #[.tmp 8]) ?_; refine do_R rfl (st_call rfl s1 (.cons (.same rfl) .nil) rfl) rfl ?_) | (refine isLc 28 (x := #[.tmp 8]) rfl ?_; refine lex_R rfl (by kernel_rfl) rfl (st_call rfl s1 (.cons (.same rfl) .nil) rfl) rfl ?_) | (refine isAc 28 (x := #[.tmp 10]) ?_; refine do_R rfl (st_call rfl s2 (.cons (.same rfl) .nil) rfl) rfl ?_) | (refine isLc 28 (x := #[.tmp 10]) rfl ?_; refine lex_R rfl (by kernel_rfl) rfl (st_call rfl s2 (.cons (.same rfl) .nil) rfl) rfl ?_) | refine aops_nil ?_ | refine lex_done _ rfl (by kernel_rfl) ?_ | refine aw_ct rfl ?_ | refine aw_cf rfl ?_ | refine aw_block ?_ | with_reducible refine then_n ?_ | refine aw_skip ?_ | refine aw_exit ?_ | (with_reducible first | refine then_x ?_ | refine then_r ?_ | refine block_x ?_ | refine block_n ?_ | refine block_r ?_) | refine aw_ret ?_
  refine aw_cond rfl (fun h => ?_) (fun h => ?_)
  · have hne : us.length ≠ vs.length := by have : ¬ ((us.length : Int) = vs.length) := (by simpa using h); omega
    repeat' first | refine aw_seq ?_ | refine aw_region ?_ | refine aw_lex [] ?_ | (refine isA ?_; refine do_F rfl ?_) | (refine isL ?_; refine lex_F rfl (by kernel_rfl) rfl rfl ?_) | (refine isLg rfl ?_; refine lex_S rfl (by kernel_rfl) rfl rfl ?_) | exact fin1 rfl rfl (by rw [eqLd_len hne]) | refine aops_nil ?_ | refine lex_done _ rfl (by kernel_rfl) ?_ | refine aw_ct rfl ?_ | refine aw_cf rfl ?_ | refine aw_block ?_ | with_reducible refine then_n ?_ | refine aw_skip ?_ | refine aw_exit ?_ | (with_reducible first | refine then_x ?_ | refine then_r ?_ | refine block_x ?_ | refine block_n ?_ | refine block_r ?_) | refine aw_ret ?_
  have he : us.length = vs.length := by have : ((us.length : Int) = vs.length) := (by simpa using h); omega
  repeat' first | refine aw_seq ?_ | refine aw_region ?_ | refine aw_lex [] ?_ | (refine isA ?_; refine do_F rfl ?_) | (refine isL ?_; refine lex_F rfl (by kernel_rfl) rfl rfl ?_) | (refine isLg rfl ?_; refine lex_S rfl (by kernel_rfl) rfl rfl ?_) | refine aops_nil ?_ | refine lex_done _ rfl (by kernel_rfl) ?_ | refine aw_ct rfl ?_ | refine aw_cf rfl ?_ | refine aw_block ?_ | with_reducible refine then_n ?_ | refine aw_skip ?_ | refine aw_exit ?_ | (with_reducible first | refine then_x ?_ | refine then_r ?_ | refine block_x ?_ | refine block_n ?_ | refine block_r ?_) | refine aw_ret ?_
  refine aw_loop (α := { i : Nat // i ≤ us.length ∧ eqLd (us.drop i) (vs.drop i) = eqLd us vs }) (fun i => ⟨[.any, .any, .any, .any, .any, rwL us, rwL vs, I i.1, .any, .any, .any, .any, .any, .any, .any, .any, .any, .any, .any, .any, .any, .any, .any, .any, .any, .any, .any, .any, .any, .any, .any, .any], [], 0⟩) (fun i => us.length - i.1) ⟨0, Nat.zero_le _, rfl⟩ ?_ ?_
  · exact sub_id rfl (by repeat' first | exact EqS.nil | refine EqS.any ?_ | refine EqS.same rfl ?_)
  · rintro ⟨i, hi, hq⟩
    repeat' first | refine aw_seq ?_ | refine aw_region ?_ | refine aw_lex [] ?_ | (refine isA ?_; refine do_F rfl ?_) | (refine isL ?_; refine lex_F rfl (by kernel_rfl) rfl rfl ?_) | (refine isLg rfl ?_; refine lex_S rfl (by kernel_rfl) rfl rfl ?_) | refine aops_nil ?_ | refine lex_done _ rfl (by kernel_rfl) ?_ | refine aw_ct rfl ?_ | refine aw_cf rfl ?_ | refine aw_block ?_ | with_reducible refine then_n ?_ | refine aw_skip ?_ | refine aw_exit ?_ | (with_reducible first | refine then_x ?_ | refine then_r ?_ | refine block_x ?_ | refine block_n ?_ | refine block_r ?_) | refine aw_ret ?_
    refine aw_cond rfl (fun h => ?_) (fun h => ?_)
    · have hlt : i < us.length := by simpa using h
      obtain ⟨x, hx⟩ : ∃ z, us[i]? = some z := ⟨_, List.getElem?_eq_getElem hlt⟩
      obtain ⟨y, hy⟩ : ∃ z, vs[i]? = some z := ⟨_, List.getElem?_eq_getElem (by omega)⟩
      rw [eqLd_at hx hy] at hq
      repeat' first | refine aw_seq ?_ | refine aw_region ?_ | refine aw_lex [] ?_ | (refine isA ?_; refine do_F rfl ?_) | (refine isL ?_; refine lex_F rfl (by kernel_rfl) rfl rfl ?_) | (refine isLg rfl ?_; refine lex_S rfl (by kernel_rfl) rfl rfl ?_) | (refine isAi (x := .tmp 23) ?_; refine do_R rfl (ia_l (t := rwT) (z := x) rfl rfl rfl rfl (Int.natCast_nonneg i) hx) rfl ?_) | (refine isLi (x := .tmp 23) rfl ?_; refine lex_R rfl (by kernel_rfl) rfl (ia_l (t := rwT) (z := x) rfl rfl rfl rfl (Int.natCast_nonneg i) hx) rfl ?_) | (refine isAi (x := .tmp 27) ?_; refine do_R rfl (ia_l (t := rwT) (z := y) rfl rfl rfl rfl (Int.natCast_nonneg i) hy) rfl ?_) | (refine isLi (x := .tmp 27) rfl ?_; refine lex_R rfl (by kernel_rfl) rfl (ia_l (t := rwT) (z := y) rfl rfl rfl rfl (Int.natCast_nonneg i) hy) rfl ?_) | refine do_R rfl (neqRw rfl rfl rfl) rfl ?_ | refine lex_R rfl (by kernel_rfl) rfl (neqRw rfl rfl rfl) rfl ?_ | refine aops_nil ?_ | refine lex_done _ rfl (by kernel_rfl) ?_ | refine aw_ct rfl ?_ | refine aw_cf rfl ?_ | refine aw_block ?_ | with_reducible refine then_n ?_ | refine aw_skip ?_ | refine aw_exit ?_ | (with_reducible first | refine then_x ?_ | refine then_r ?_ | refine block_x ?_ | refine block_n ?_ | refine block_r ?_) | refine aw_ret ?_
      refine aw_cond rfl (fun h1 => ?_) (fun h1 => ?_)
      · have h2 : rwD x y = false := by simpa using h1
        rw [h2, Bool.false_and] at hq
        repeat' first | refine aw_seq ?_ | refine aw_region ?_ | refine aw_lex [] ?_ | (refine isA ?_; refine do_F rfl ?_) | (refine isL ?_; refine lex_F rfl (by kernel_rfl) rfl rfl ?_) | (refine isLg rfl ?_; refine lex_S rfl (by kernel_rfl) rfl rfl ?_) | exact fin1 rfl rfl (congrArg B hq) | refine aops_nil ?_ | refine lex_done _ rfl (by kernel_rfl) ?_ | refine aw_ct rfl ?_ | refine aw_cf rfl ?_ | refine aw_block ?_ | with_reducible refine then_n ?_ | refine aw_skip ?_ | refine aw_exit ?_ | (with_reducible first | refine then_x ?_ | refine then_r ?_ | refine block_x ?_ | refine block_n ?_ | refine block_r ?_) | refine aw_ret ?_
      · have h2 : rwD x y = true := by simpa using h1
        rw [h2, Bool.true_and] at hq
        repeat' first | refine aw_seq ?_ | refine aw_region ?_ | refine aw_lex [] ?_ | (refine isA ?_; refine do_F rfl ?_) | (refine isL ?_; refine lex_F rfl (by kernel_rfl) rfl rfl ?_) | (refine isLg rfl ?_; refine lex_S rfl (by kernel_rfl) rfl rfl ?_) | refine aops_nil ?_ | refine lex_done _ rfl (by kernel_rfl) ?_ | refine aw_ct rfl ?_ | refine aw_cf rfl ?_ | refine aw_block ?_ | with_reducible refine then_n ?_ | refine aw_skip ?_ | refine aw_exit ?_ | (with_reducible first | refine then_x ?_ | refine then_r ?_ | refine block_x ?_ | refine block_n ?_ | refine block_r ?_) | refine aw_ret ?_
        refine ⟨⟨i + 1, hlt, hq⟩, by simp only; omega, ?_⟩
        exact sub_id rfl (by repeat' first | exact EqS.nil | refine EqS.any ?_ | refine EqS.same rfl ?_ | refine EqS.same (i_succ (by assumption) (by omega)) ?_)
    · have hge : i = us.length := by
        have : ¬ ((i : Int) < us.length) := by simpa using h
        omega
      subst hge
      have hq' : eqLd us vs = true := by rw [← hq, List.drop_length, he, List.drop_length]; rfl
      repeat' first | refine aw_seq ?_ | refine aw_region ?_ | refine aw_lex [] ?_ | (refine isA ?_; refine do_F rfl ?_) | (refine isL ?_; refine lex_F rfl (by kernel_rfl) rfl rfl ?_) | (refine isLg rfl ?_; refine lex_S rfl (by kernel_rfl) rfl rfl ?_) | exact fin1 rfl rfl (by rw [hq']) | refine aops_nil ?_ | refine lex_done _ rfl (by kernel_rfl) ?_ | refine aw_ct rfl ?_ | refine aw_cf rfl ?_ | refine aw_block ?_ | with_reducible refine then_n ?_ | refine aw_skip ?_ | refine aw_exit ?_ | (with_reducible first | refine then_x ?_ | refine then_r ?_ | refine block_x ?_ | refine block_n ?_ | refine block_r ?_) | refine aw_ret ?_
end Go.Proofs.Ytojcojanokhnaaa.Ab

/- StC -/
namespace Go.Proofs.Ytojcojanokhnaaa.Ab
open Go.RowKit

/-- The rows from a to b in order, the others as they were. -/
def srtR (xs : List Rw) (a b : Nat) : List Rw := xs.take a ++ (srtV ((xs.drop a).take (b - a)) ++ xs.drop b)
theorem srtR_one {xs : List Rw} {a : Nat} (h : a < xs.length) : srtR xs a (a + 1) = xs := by
  obtain ⟨x, hx⟩ : ∃ z, xs[a]? = some z := ⟨_, List.getElem?_eq_getElem h⟩
  have e : xs.drop a = x :: xs.drop (a + 1) := take_drop1 hx
  rw [srtR, e, show a + 1 - a = 1 by omega]
  show xs.take a ++ ([x] ++ xs.drop (a + 1)) = xs
  rw [List.singleton_append, ← e, List.take_append_drop]
theorem srtR_self {xs : List Rw} {a : Nat} : srtR xs a a = xs := by
  rw [srtR, Nat.sub_self, List.take_zero]
  show xs.take a ++ ([] ++ xs.drop a) = xs
  rw [List.nil_append, List.take_append_drop]
theorem srtR_len {xs : List Rw} {a b : Nat} (h1 : a ≤ b) (h2 : b ≤ xs.length) : (srtR xs a b).length = xs.length := by
  simp only [srtR, List.length_append, srtV_len, List.length_take, List.length_drop]; omega
theorem srtR_step {xs : List Rw} {a i : Nat} {x : Rw} (h : a ≤ i) (hx : xs[i]? = some x) : srtV ((xs.drop a).take (i + 1 - a)) = insV x (srtV ((xs.drop a).take (i - a))) := by
  have : (xs.drop a)[i - a]? = some x := by rw [List.getElem?_drop, show a + (i - a) = i by omega]; exact hx
  rw [show i + 1 - a = (i - a) + 1 by omega, List.take_add_one, this]
  exact srtV_snoc _ _
theorem ins_split {A B : List Rw} {x : Rw} (hs : Srt (A ++ B)) (hB : ∀ z ∈ B, ¬ leW z x) (hA : ∀ y A', A = A' ++ [y] → leW y x) : A ++ x :: B = insV x (A ++ B) := by
  have h := ins_at (k := A.length) hs (by simp) (fun j z hj hz => by
    rw [List.getElem?_append_right hj] at hz
    exact hB z (List.mem_of_getElem? hz)) (fun z h0 hz => by
    rw [List.getElem?_append_left (by omega)] at hz
    refine hA z A.dropLast ?_
    have hne : A ≠ [] := by intro e; subst e; simp at h0
    have : A.getLast hne = z := by
      rw [List.getLast_eq_getElem]
      exact (List.getElem?_eq_some_iff.1 hz).2
    rw [← this]
    exact (List.dropLast_concat_getLast hne).symm)
  rw [List.take_left', List.drop_left'] at h
  · exact h
  · rfl
  · rfl
theorem swap_at {U W : List Rw} {x y : Rw} {u : Nat} (hu : U.length = u) : ((U ++ y :: x :: W).set (u + 1) y).set u x = U ++ x :: y :: W := by
  subst hu
  rw [List.set_append_right _ _ (by omega), show U.length + 1 - U.length = 1 by omega]
  show (U ++ y :: y :: W).set U.length x = _
  rw [List.set_append_right _ _ (Nat.le_refl _), Nat.sub_self]
  rfl
theorem finMv {l : List V} {H : List Reg} {K : List Reg} (k : Nat) (ψ : List Nat) (hfix : ∀ i, i < k → ψ[i]? = some i) (hnd : ψ.Nodup) (hH : HLes ψ H ψ K) : (Exit.normal = .ret ∨ Exit.normal = .normal) ∧ Out true (.tup []) K (resV ⟨l, H, k⟩ []) ⟨l, H, k⟩ :=
  ⟨Or.inr rfl, out_of (S := ⟨l, H, k⟩) ψ hfix (hle_of hnd hH) (le_tup les_nil) (Or.inl rfl)⟩

theorem c_insort (xs : List Rw) (a b : Nat) (h1 : a < b) (h2 : b ≤ xs.length) (hl : xs.length ≤ 100000000) : Meets Go.Proofs.Try.prog 130 [.sl 0 0 xs.length, I a, I b, .fn 64 []] [rwR xs] (.tup []) [rwR (srtR xs a b)] true := by
  refine meets_of [] Go.Proofs.Try.func130 rfl rfl ?_
  simp only [Go.Proofs.Try.ntmps130, List.length_cons, List.length_nil, Nat.reduceAdd, Nat.reduceSub, List.replicate_succ, List.replicate_zero, List.cons_append, List.nil_append]
  repeat' first | refine aw_seq ?_ | refine aw_region ?_ | refine aw_lex [] ?_ | (refine isA ?_; refine do_F rfl ?_) | (refine isL ?_; refine lex_F rfl (by kernel_rfl) rfl rfl ?_) | (refine isLg rfl ?_; refine lex_S rfl (by kernel_rfl) rfl rfl ?_) | refine aops_nil ?_ | refine lex_done _ rfl (by kernel_rfl) ?_ | refine aw_ct rfl ?_ | refine aw_cf rfl ?_ | refine aw_block ?_ | with_reducible refine then_n ?_ | refine aw_skip ?_ | refine aw_exit ?_ | (with_reducible first | refine then_x ?_ | refine then_r ?_ | refine block_x ?_ | refine block_n ?_ | refine block_r ?_) | refine aw_ret ?_
  refine aw_loop (α := { i : Nat // a + 1 ≤ i ∧ i ≤ b }) (fun i => ⟨[.sl 0 0 xs.length, I a, I b, .fn 64 [], .any, .any, .any, .any, I i.1, .any, .any, .any, .any, .any, .any, .any, .any, .any, .any, .any, .any, .any, .any, .any, .any, .any, .any, .any, .any, .any, .any, .any, .any, .any, .any, .any, .any, .any, .any, .any, .any, .any, .any, .any, .any, .any, .any, .any, .any, .any, .any, .any, .any], [rwR (srtR xs a i.1)], 1⟩) (fun i => b - i.1) ⟨a + 1, Nat.le_refl _, h1⟩ ?_ ?_
  · exact subm 1 [0] rfl rfl fix1 (by decide) (.cons rfl rfl rfl rfl (les_eq (by rw [srtR_one (by omega)]) (flat_noH _ _)) .nil) (by
      repeat' first | exact les_nil | refine les_cons ?_ ?_ | exact le_any | exact le_refl rfl | exact le_sl rfl rfl | exact le_k (congrArg _ (show ((a + 1 : Nat) : Int) = IntKind.i64.wrap ((a : Int) + 1) by rw [IntKind.wrap_i64]; omega)))
  · rintro ⟨i, hi0, hi1⟩
    repeat' first | refine aw_seq ?_ | refine aw_region ?_ | refine aw_lex [] ?_ | (refine isA ?_; refine do_F rfl ?_) | (refine isL ?_; refine lex_F rfl (by kernel_rfl) rfl rfl ?_) | (refine isLg rfl ?_; refine lex_S rfl (by kernel_rfl) rfl rfl ?_) | refine aops_nil ?_ | refine lex_done _ rfl (by kernel_rfl) ?_ | refine aw_ct rfl ?_ | refine aw_cf rfl ?_ | refine aw_block ?_ | with_reducible refine then_n ?_ | refine aw_skip ?_ | refine aw_exit ?_ | (with_reducible first | refine then_x ?_ | refine then_r ?_ | refine block_x ?_ | refine block_n ?_ | refine block_r ?_) | refine aw_ret ?_
    refine aw_cond rfl (fun h => ?_) (fun h => ?_)
    · have hlt : i < b := by have := of_decide_eq_true h; simp only at this; omega
      obtain ⟨x, hx⟩ : ∃ z, xs[i]? = some z := ⟨_, List.getElem?_eq_getElem (by omega)⟩
      have e1 := srtR_step (a := a) (by omega) hx
      have hso := srtV_srt ((xs.drop a).take (i - a))
      have hol : (srtV ((xs.drop a).take (i - a))).length = i - a := by rw [srtV_len]; simp; omega
      have eR : srtR xs a (i + 1) = xs.take a ++ (srtV ((xs.drop a).take (i + 1 - a)) ++ xs.drop (i + 1)) := rfl
      have e0 : srtR xs a i = xs.take a ++ (srtV ((xs.drop a).take (i - a)) ++ x :: xs.drop (i + 1)) := by rw [srtR, take_drop1 hx]
      rw [e1] at eR
      generalize srtV ((xs.drop a).take (i - a)) = S at e0 eR hso hol
      have hP : (xs.take a).length = a := by simp; omega
      have hR : (xs.drop (i + 1)).length = xs.length - (i + 1) := by simp
      generalize xs.take a = P at e0 eR hP
      generalize xs.drop (i + 1) = R at e0 eR hR
      repeat' first | refine aw_seq ?_ | refine aw_region ?_ | refine aw_lex [] ?_ | (refine isA ?_; refine do_F rfl ?_) | (refine isL ?_; refine lex_F rfl (by kernel_rfl) rfl rfl ?_) | (refine isLg rfl ?_; refine lex_S rfl (by kernel_rfl) rfl rfl ?_) | refine aops_nil ?_ | refine lex_done _ rfl (by kernel_rfl) ?_ | refine aw_ct rfl ?_ | refine aw_cf rfl ?_ | refine aw_block ?_ | with_reducible refine then_n ?_ | refine aw_skip ?_ | refine aw_exit ?_ | (with_reducible first | refine then_x ?_ | refine then_r ?_ | refine block_x ?_ | refine block_n ?_ | refine block_r ?_) | refine aw_ret ?_
      refine aw_loop (α := { p : List Rw × List Rw // p.1 ++ p.2 = S ∧ ∀ z ∈ p.2, ¬ leW z x }) (fun p => ⟨[.sl 0 0 xs.length, I a, I b, .fn 64 [], .any, .any, .any, .any, I i, I ((a + p.1.1.length : Nat) : Int), .any, .any, .any, .any, .any, .any, .any, .any, .any, .any, .any, .any, .any, .any, .any, .any, .any, .any, .any, .any, .any, .any, .any, .any, .any, .any, .any, .any, .any, .any, .any, .any, .any, .any, .any, .any, .any, .any, .any, .any, .any, .any, .any], [rwR (P ++ p.1.1 ++ x :: p.1.2 ++ R)], 1⟩) (fun p => p.1.1.length) ⟨(S, []), List.append_nil _, fun z hz => by cases hz⟩ ?_ ?_
      · exact subm 1 [0] rfl rfl fix1 (by decide) (.cons rfl rfl rfl rfl (les_eq (by rw [e0]; show rwT.flat _ = rwT.flat _; simp) (flat_noH _ _)) .nil) (by
          repeat' first | exact les_nil | refine les_cons ?_ ?_ | exact le_any | exact le_refl rfl | exact le_sl rfl rfl | exact le_k (congrArg _ (show ((a + S.length : Nat) : Int) = (i : Int) by omega)))
      · rintro ⟨⟨A, B⟩, hAB, hB⟩
        simp only at hAB hB
        have hlen : A.length + B.length = i - a := by rw [← hol, ← hAB, List.length_append]
        repeat' first | refine aw_seq ?_ | refine aw_region ?_ | refine aw_lex [] ?_ | (refine isA ?_; refine do_F rfl ?_) | (refine isL ?_; refine lex_F rfl (by kernel_rfl) rfl rfl ?_) | (refine isLg rfl ?_; refine lex_S rfl (by kernel_rfl) rfl rfl ?_) | refine aops_nil ?_ | refine lex_done _ rfl (by kernel_rfl) ?_ | refine aw_ct rfl ?_ | refine aw_cf rfl ?_ | refine aw_block ?_ | with_reducible refine then_n ?_ | refine aw_skip ?_ | refine aw_exit ?_ | (with_reducible first | refine then_x ?_ | refine then_r ?_ | refine block_x ?_ | refine block_n ?_ | refine block_r ?_) | refine aw_ret ?_
        refine lex_br rfl rfl rfl rfl (fun p1 => ?_) (fun p1 => ?_)
        · have q1 : 0 < A.length := by have := of_decide_eq_true p1; simp only at this; omega
          obtain ⟨A', y, rfl⟩ : ∃ A' y, A = A' ++ [y] := ⟨A.dropLast, A.getLast (by intro e; subst e; simp at q1), (List.dropLast_concat_getLast _).symm⟩
          have ej : ((a + (A' ++ [y]).length : Nat) : Int) = ((a + A'.length + 1 : Nat) : Int) := by simp; omega
          have ew : IntKind.i64.wrap (((a + (A' ++ [y]).length : Nat) : Int) - 1) = ((a + A'.length : Nat) : Int) := by rw [IntKind.wrap_i64]; simp; omega
          have hlA : (A' ++ [y]).length = A'.length + 1 := by simp
          have hds : P ++ (A' ++ [y]) ++ x :: B ++ R = (P ++ A') ++ y :: x :: (B ++ R) := by simp
          have hu : (P ++ A').length = a + A'.length := by simp [hP]
          have g1 : (P ++ (A' ++ [y]) ++ x :: B ++ R)[0 + (a + A'.length + 1)]? = some x := by
            rw [hds, List.getElem?_append_right (by omega), hu, show 0 + (a + A'.length + 1) - (a + A'.length) = 1 by omega]; rfl
          have g0 : (P ++ (A' ++ [y]) ++ x :: B ++ R)[0 + (a + A'.length)]? = some y := by
            rw [hds, List.getElem?_append_right (by omega), hu, show 0 + (a + A'.length) - (a + A'.length) = 0 by omega]; rfl
          repeat' first | refine aw_seq ?_ | refine aw_region ?_ | refine aw_lex [] ?_ | (refine isA ?_; refine do_F rfl ?_) | (refine isL ?_; refine lex_F rfl (by kernel_rfl) rfl rfl ?_) | (refine isLg rfl ?_; refine lex_S rfl (by kernel_rfl) rfl rfl ?_) | (refine isAi (x := .tmp 23) ?_; refine do_R rfl (step_ia_sl (j := ((a + A'.length + 1 : Nat) : Int)) rfl rfl rfl (Nat.zero_le _) rfl (congrArg I ej) (Int.natCast_nonneg _) (by omega)) rfl ?_) | (refine isLi (x := .tmp 23) rfl ?_; refine lex_R rfl (by kernel_rfl) rfl (step_ia_sl (j := ((a + A'.length + 1 : Nat) : Int)) rfl rfl rfl (Nat.zero_le _) rfl (congrArg I ej) (Int.natCast_nonneg _) (by omega)) rfl ?_) | (refine isAi (x := .tmp 27) ?_; refine do_R rfl (step_ia_sl (j := ((a + A'.length : Nat) : Int)) rfl rfl rfl (Nat.zero_le _) rfl (congrArg I ew) (Int.natCast_nonneg _) (by omega)) rfl ?_) | (refine isLi (x := .tmp 27) rfl ?_; refine lex_R rfl (by kernel_rfl) rfl (step_ia_sl (j := ((a + A'.length : Nat) : Int)) rfl rfl rfl (Nat.zero_le _) rfl (congrArg I ew) (Int.natCast_nonneg _) (by omega)) rfl ?_) | (refine isAl (x := .tmp 25) ?_; refine do_R rfl (ld_a (T := rwT) (i := 0 + (a + A'.length + 1)) (z := x) rfl rfl rfl g1) rfl ?_) | (refine isLl (x := .tmp 25) rfl ?_; refine lex_R rfl (by kernel_rfl) rfl (ld_a (T := rwT) (i := 0 + (a + A'.length + 1)) (z := x) rfl rfl rfl g1) rfl ?_) | (refine isAl (x := .tmp 30) ?_; refine do_R rfl (ld_a (T := rwT) (i := 0 + (a + A'.length)) (z := y) rfl rfl rfl g0) rfl ?_) | (refine isLl (x := .tmp 30) rfl ?_; refine lex_R rfl (by kernel_rfl) rfl (ld_a (T := rwT) (i := 0 + (a + A'.length)) (z := y) rfl rfl rfl g0) rfl ?_) | refine do_R rfl (st_callV rfl rfl (c_icmp x y) (.cons (.same rfl) (.cons (.same rfl) .nil)) rfl) rfl ?_ | refine lex_R rfl (by kernel_rfl) rfl (st_callV rfl rfl (c_icmp x y) (.cons (.same rfl) (.cons (.same rfl) .nil)) rfl) rfl ?_ | refine aops_nil ?_ | refine lex_done _ rfl (by kernel_rfl) ?_ | refine aw_ct rfl ?_ | refine aw_cf rfl ?_ | refine aw_block ?_ | with_reducible refine then_n ?_ | refine aw_skip ?_ | refine aw_exit ?_ | (with_reducible first | refine then_x ?_ | refine then_r ?_ | refine block_x ?_ | refine block_n ?_ | refine block_r ?_) | refine aw_ret ?_
          refine aw_cond rfl (fun p2 => ?_) (fun p2 => ?_)
          · have q2 := cmp_neg.1 (of_decide_eq_true p2)
            repeat' first | refine aw_seq ?_ | refine aw_region ?_ | (refine isA ?_; refine do_F rfl ?_) | (refine isL ?_; refine lex_F rfl (by kernel_rfl) rfl rfl ?_) | (refine isLg rfl ?_; refine lex_S rfl (by kernel_rfl) rfl rfl ?_) | refine aops_nil ?_ | refine lex_done _ rfl (by kernel_rfl) ?_ | refine aw_ct rfl ?_ | refine aw_cf rfl ?_ | refine aw_block ?_ | with_reducible refine then_n ?_ | refine aw_skip ?_ | refine aw_exit ?_ | (with_reducible first | refine then_x ?_ | refine then_r ?_ | refine block_x ?_ | refine block_n ?_ | refine block_r ?_) | refine aw_ret ?_
            refine aw_per [15, 17] 18 rfl ?_
            refine per_P 0 rfl (by kernel_rfl) rfl (fun _ => rfl) rfl ?_
            refine per_P 1 rfl (by kernel_rfl) rfl (fun _ => rfl) rfl ?_
            refine per_P 2 rfl (by kernel_rfl) rfl (fun _ => rfl) rfl ?_
            refine per_P 3 rfl (by kernel_rfl) rfl (fun _ => rfl) rfl ?_
            refine per_P 4 rfl (by kernel_rfl) rfl (fun _ => rfl) rfl ?_
            refine per_P 5 rfl (by kernel_rfl) rfl (fun _ => rfl) rfl ?_
            refine per_P 6 rfl (by kernel_rfl) rfl (fun _ => rfl) rfl ?_
            refine per_P 7 rfl (by kernel_rfl) rfl (fun _ => rfl) rfl ?_
            refine per_R 8 rfl (by kernel_rfl) rfl (step_ia_sl (j := ((a + A'.length : Nat) : Int)) rfl rfl rfl (Nat.zero_le _) rfl (congrArg I ew) (Int.natCast_nonneg _) (by omega)) rfl ?_
            refine per_R 9 rfl (by kernel_rfl) rfl (ld_a (T := rwT) (i := 0 + (a + A'.length)) (z := y) rfl rfl rfl g0) rfl ?_
            refine per_P 10 rfl (by kernel_rfl) rfl (fun _ => rfl) rfl ?_
            refine per_P 11 rfl (by kernel_rfl) rfl (fun _ => rfl) rfl ?_
            refine per_R 12 rfl (by kernel_rfl) rfl (step_ia_sl (j := ((a + A'.length + 1 : Nat) : Int)) rfl rfl rfl (Nat.zero_le _) rfl (congrArg I ej) (Int.natCast_nonneg _) (by omega)) rfl ?_
            refine per_R 13 rfl (by kernel_rfl) rfl (ld_a (T := rwT) (i := 0 + (a + A'.length + 1)) (z := x) rfl rfl rfl g1) rfl ?_
            refine per_R 14 rfl (by kernel_rfl) rfl (step_ia_sl (j := ((a + A'.length + 1 : Nat) : Int)) rfl rfl rfl (Nat.zero_le _) rfl (congrArg I ej) (Int.natCast_nonneg _) (by omega)) rfl ?_
            refine per_W 15 rfl (by kernel_rfl) rfl rfl (set_l (T := rwT) (i := 0 + (a + A'.length + 1)) (z := y) rfl rfl rfl rfl rfl (List.getElem?_eq_some_iff.1 g1).1) rfl ?_
            refine per_R 16 rfl (by kernel_rfl) rfl (step_ia_sl (j := ((a + A'.length : Nat) : Int)) rfl rfl rfl (Nat.zero_le _) rfl (congrArg I ew) (Int.natCast_nonneg _) (by omega)) rfl ?_
            refine per_W 17 rfl (by kernel_rfl) rfl rfl (set_l (T := rwT) (i := 0 + (a + A'.length)) (z := x) rfl rfl rfl rfl rfl (by rw [List.length_set]; exact (List.getElem?_eq_some_iff.1 g0).1)) rfl ?_
            refine per_done (by kernel_rfl) ?_
            repeat' first | refine aw_seq ?_ | refine aw_region ?_ | refine aw_lex [] ?_ | (refine isA ?_; refine do_F rfl ?_) | (refine isL ?_; refine lex_F rfl (by kernel_rfl) rfl rfl ?_) | (refine isLg rfl ?_; refine lex_S rfl (by kernel_rfl) rfl rfl ?_) | refine aops_nil ?_ | refine lex_done _ rfl (by kernel_rfl) ?_ | refine aw_ct rfl ?_ | refine aw_cf rfl ?_ | refine aw_block ?_ | with_reducible refine then_n ?_ | refine aw_skip ?_ | refine aw_exit ?_ | (with_reducible first | refine then_x ?_ | refine then_r ?_ | refine block_x ?_ | refine block_n ?_ | refine block_r ?_) | refine aw_ret ?_
            refine ⟨⟨(A', y :: B), by rw [← hAB]; simp, fun z hz => by
              rcases List.mem_cons.1 hz with rfl | hz
              · exact q2
              · exact hB z hz⟩, by simp only; omega, ?_⟩
            exact subm 1 [0] rfl rfl fix1 (by decide) (.cons rfl rfl rfl rfl (les_eq (show rwT.flat (((P ++ (A' ++ [y]) ++ x :: B ++ R).set (0 + (a + A'.length + 1)) y).set (0 + (a + A'.length)) x) = rwT.flat (P ++ A' ++ x :: (y :: B) ++ R) by rw [hds, Nat.zero_add, Nat.zero_add, swap_at hu]; simp) (flat_noH _ _)) .nil) (by
              repeat' first | exact les_nil | refine les_cons ?_ ?_ | exact le_any | exact le_refl rfl | exact le_sl rfl rfl | exact le_k (congrArg _ ew.symm))
          · have q2 : leW y x := Classical.byContradiction fun hn => by have := cmp_neg.2 hn; exact absurd this (of_decide_eq_false p2)
            have hfin := ins_split (x := x) (hAB ▸ hso) hB (fun z D hD => by have := List.append_inj' hD rfl; obtain ⟨_, hz⟩ := this; cases hz; exact q2)
            repeat' first | refine aw_seq ?_ | refine aw_region ?_ | refine aw_lex [] ?_ | (refine isA ?_; refine do_F rfl ?_) | (refine isL ?_; refine lex_F rfl (by kernel_rfl) rfl rfl ?_) | (refine isLg rfl ?_; refine lex_S rfl (by kernel_rfl) rfl rfl ?_) | refine aops_nil ?_ | refine lex_done _ rfl (by kernel_rfl) ?_ | refine aw_ct rfl ?_ | refine aw_cf rfl ?_ | refine aw_block ?_ | with_reducible refine then_n ?_ | refine aw_skip ?_ | refine aw_exit ?_ | (with_reducible first | refine then_x ?_ | refine then_r ?_ | refine block_x ?_ | refine block_n ?_ | refine block_r ?_) | refine aw_ret ?_
            refine ⟨⟨i + 1, by omega, by omega⟩, by simp only; omega, ?_⟩
            exact subm 1 [0] rfl rfl fix1 (by decide) (.cons rfl rfl rfl rfl (les_eq (show rwT.flat (P ++ (A' ++ [y]) ++ x :: B ++ R) = rwT.flat (srtR xs a (i + 1)) by rw [eR, ← hAB, ← hfin]; simp) (flat_noH _ _)) .nil) (by
              repeat' first | exact les_nil | refine les_cons ?_ ?_ | exact le_any | exact le_refl rfl | exact le_sl rfl rfl | exact le_i hlt (by omega))
        · have q1 : A.length = 0 := by have := of_decide_eq_false p1; simp only at this; omega
          obtain rfl : A = [] := List.eq_nil_of_length_eq_zero q1
          have hfin := ins_split (x := x) (hAB ▸ hso) hB (fun z D hD => by simp at hD)
          repeat' first | refine aw_seq ?_ | refine aw_region ?_ | refine aw_lex [] ?_ | (refine isA ?_; refine do_F rfl ?_) | (refine isL ?_; refine lex_F rfl (by kernel_rfl) rfl rfl ?_) | (refine isLg rfl ?_; refine lex_S rfl (by kernel_rfl) rfl rfl ?_) | refine aops_nil ?_ | refine lex_done _ rfl (by kernel_rfl) ?_ | refine aw_ct rfl ?_ | refine aw_cf rfl ?_ | refine aw_block ?_ | with_reducible refine then_n ?_ | refine aw_skip ?_ | refine aw_exit ?_ | (with_reducible first | refine then_x ?_ | refine then_r ?_ | refine block_x ?_ | refine block_n ?_ | refine block_r ?_) | refine aw_ret ?_
          refine ⟨⟨i + 1, by omega, by omega⟩, by simp only; omega, ?_⟩
          exact subm 1 [0] rfl rfl fix1 (by decide) (.cons rfl rfl rfl rfl (les_eq (show rwT.flat (P ++ [] ++ x :: B ++ R) = rwT.flat (srtR xs a (i + 1)) by rw [eR, ← hAB, ← hfin]; simp) (flat_noH _ _)) .nil) (by
            repeat' first | exact les_nil | refine les_cons ?_ ?_ | exact le_any | exact le_refl rfl | exact le_sl rfl rfl | exact le_i hlt (by omega))
    · have hge : i = b := by have := of_decide_eq_false h; simp only at this; omega
      subst hge
      repeat' first | refine aw_seq ?_ | refine aw_region ?_ | refine aw_lex [] ?_ | (refine isA ?_; refine do_F rfl ?_) | (refine isL ?_; refine lex_F rfl (by kernel_rfl) rfl rfl ?_) | (refine isLg rfl ?_; refine lex_S rfl (by kernel_rfl) rfl rfl ?_) | exact finMv 1 [0] fix1 (by decide) (.cons rfl rfl rfl rfl (les_refl (flat_noH _ _)) .nil) | refine aops_nil ?_ | refine lex_done _ rfl (by kernel_rfl) ?_ | refine aw_ct rfl ?_ | refine aw_cf rfl ?_ | refine aw_block ?_ | with_reducible refine then_n ?_ | refine aw_skip ?_ | refine aw_exit ?_ | (with_reducible first | refine then_x ?_ | refine then_r ?_ | refine block_x ?_ | refine block_n ?_ | refine block_r ?_) | refine aw_ret ?_
end Go.Proofs.Ytojcojanokhnaaa.Ab

/- StD -/
namespace Go.Proofs.Ytojcojanokhnaaa.Ab
open Go.RowKit

/-- The first i places exchanged. -/
def swpL (P X M Y Q : List Rw) (i : Nat) : List Rw := P ++ (Y.take i ++ X.drop i) ++ M ++ (X.take i ++ Y.drop i) ++ Q
theorem swp_two {U V W : List Rw} {x y : Rw} {u v : Nat} (hu : U.length = u) (hv : (U ++ x :: V).length = v) : ((U ++ x :: V ++ y :: W).set u y).set v x = U ++ y :: V ++ x :: W := by
  subst hu hv
  have h1 : (U ++ x :: V ++ y :: W).set U.length y = U ++ y :: V ++ y :: W := by
    rw [List.append_assoc, List.set_append_right _ _ (Nat.le_refl _), Nat.sub_self, List.append_assoc]; rfl
  have h2 : (U ++ x :: V).length = (U ++ y :: V).length := by simp
  rw [h1, h2, List.set_append_right _ _ (Nat.le_refl _), Nat.sub_self]
  rfl
theorem c_swapR (P X M Y Q : List Rw) (n : Nat) (hX : X.length = n) (hY : Y.length = n) (hl : (P ++ X ++ M ++ Y ++ Q).length ≤ 100000000) : Meets Go.Proofs.Try.prog 133 [.sl 0 0 (P ++ X ++ M ++ Y ++ Q).length, I P.length, I (P ++ X ++ M).length, I n, .fn 64 []] [rwR (P ++ X ++ M ++ Y ++ Q)] (.tup []) [rwR (P ++ Y ++ M ++ X ++ Q)] true := by
  have hlen : (P ++ X ++ M ++ Y ++ Q).length = P.length + n + M.length + n + Q.length := by simp [hX, hY]; omega
  have hb0 : (P ++ X ++ M).length = P.length + n + M.length := by simp [hX]; omega
  refine meets_of [] Go.Proofs.Try.func133 rfl rfl ?_
  simp only [Go.Proofs.Try.ntmps133, List.length_cons, List.length_nil, Nat.reduceAdd, Nat.reduceSub, List.replicate_succ, List.replicate_zero, List.cons_append, List.nil_append]
  repeat' first | refine aw_seq ?_ | refine aw_region ?_ | refine aw_lex [] ?_ | (refine isA ?_; refine do_F rfl ?_) | (refine isL ?_; refine lex_F rfl (by kernel_rfl) rfl rfl ?_) | (refine isLg rfl ?_; refine lex_S rfl (by kernel_rfl) rfl rfl ?_) | refine aops_nil ?_ | refine lex_done _ rfl (by kernel_rfl) ?_ | refine aw_ct rfl ?_ | refine aw_cf rfl ?_ | refine aw_block ?_ | with_reducible refine then_n ?_ | refine aw_skip ?_ | refine aw_exit ?_ | (with_reducible first | refine then_x ?_ | refine then_r ?_ | refine block_x ?_ | refine block_n ?_ | refine block_r ?_) | refine aw_ret ?_
  refine aw_loop (α := { i : Nat // i ≤ n }) (fun i => ⟨[.sl 0 0 (P ++ X ++ M ++ Y ++ Q).length, I P.length, I (P ++ X ++ M).length, I n, .any, .any, .any, .any, .any, .any, I i.1, .any, .any, .any, .any, .any, .any, .any, .any, .any, .any, .any, .any, .any, .any, .any, .any, .any, .any, .any, .any, .any, .any, .any, .any, .any, .any, .any], [rwR (swpL P X M Y Q i.1)], 1⟩) (fun i => n - i.1) ⟨0, Nat.zero_le _⟩ ?_ ?_
  · exact subm 1 [0] rfl rfl fix1 (by decide) (.cons rfl rfl rfl rfl (les_eq (show rwT.flat (P ++ X ++ M ++ Y ++ Q) = rwT.flat (swpL P X M Y Q 0) by simp [swpL]) (flat_noH _ _)) .nil) (by repeat' first | exact les_nil | refine les_cons ?_ ?_ | exact le_any | exact le_refl rfl | exact le_sl rfl rfl | exact le_ptr rfl)
  · rintro ⟨i, hi⟩
    repeat' first | refine aw_seq ?_ | refine aw_region ?_ | refine aw_lex [] ?_ | (refine isA ?_; refine do_F rfl ?_) | (refine isL ?_; refine lex_F rfl (by kernel_rfl) rfl rfl ?_) | (refine isLg rfl ?_; refine lex_S rfl (by kernel_rfl) rfl rfl ?_) | refine aops_nil ?_ | refine lex_done _ rfl (by kernel_rfl) ?_ | refine aw_ct rfl ?_ | refine aw_cf rfl ?_ | refine aw_block ?_ | with_reducible refine then_n ?_ | refine aw_skip ?_ | refine aw_exit ?_ | (with_reducible first | refine then_x ?_ | refine then_r ?_ | refine block_x ?_ | refine block_n ?_ | refine block_r ?_) | refine aw_ret ?_
    refine aw_cond rfl (fun h => ?_) (fun h => ?_)
    · have hlt : i < n := by have := of_decide_eq_true h; simp only at this; omega
      obtain ⟨x, hx⟩ : ∃ z, X[i]? = some z := ⟨_, List.getElem?_eq_getElem (by omega)⟩
      obtain ⟨y, hy⟩ : ∃ z, Y[i]? = some z := ⟨_, List.getElem?_eq_getElem (by omega)⟩
      have hL : swpL P X M Y Q i = (P ++ Y.take i) ++ x :: (X.drop (i + 1) ++ M ++ X.take i) ++ y :: (Y.drop (i + 1) ++ Q) := by
        rw [swpL, take_drop1 hx, take_drop1 hy]; simp
      have hL2 : swpL P X M Y Q (i + 1) = (P ++ Y.take i) ++ y :: (X.drop (i + 1) ++ M ++ X.take i) ++ x :: (Y.drop (i + 1) ++ Q) := by
        rw [swpL, take_snoc hx, take_snoc hy]; simp
      have hu : (P ++ Y.take i).length = P.length + i := by simp; omega
      have hv : ((P ++ Y.take i) ++ x :: (X.drop (i + 1) ++ M ++ X.take i)).length = (P ++ X ++ M).length + i := by simp; omega
      have ea : IntKind.i64.wrap ((P.length : Int) + (i : Int)) = ((P.length + i : Nat) : Int) := by rw [IntKind.wrap_i64]; omega
      have eb : IntKind.i64.wrap (((P ++ X ++ M).length : Int) + (i : Int)) = (((P ++ X ++ M).length + i : Nat) : Int) := by rw [IntKind.wrap_i64]; omega
      have g0 : (swpL P X M Y Q i)[0 + (P.length + i)]? = some x := by
        rw [hL, List.append_assoc, List.getElem?_append_right (by omega), hu, show 0 + (P.length + i) - (P.length + i) = 0 by omega]; rfl
      have g1 : (swpL P X M Y Q i)[0 + ((P ++ X ++ M).length + i)]? = some y := by
        rw [hL, List.getElem?_append_right (by omega), hv, show 0 + ((P ++ X ++ M).length + i) - ((P ++ X ++ M).length + i) = 0 by omega]; rfl
      have g1' : ((swpL P X M Y Q i).set (0 + (P.length + i)) y).length = (swpL P X M Y Q i).length := List.length_set
      repeat' first | refine aw_seq ?_ | refine aw_region ?_ | (refine isA ?_; refine do_F rfl ?_) | (refine isL ?_; refine lex_F rfl (by kernel_rfl) rfl rfl ?_) | (refine isLg rfl ?_; refine lex_S rfl (by kernel_rfl) rfl rfl ?_) | refine aops_nil ?_ | refine lex_done _ rfl (by kernel_rfl) ?_ | refine aw_ct rfl ?_ | refine aw_cf rfl ?_ | refine aw_block ?_ | with_reducible refine then_n ?_ | refine aw_skip ?_ | refine aw_exit ?_ | (with_reducible first | refine then_x ?_ | refine then_r ?_ | refine block_x ?_ | refine block_n ?_ | refine block_r ?_) | refine aw_ret ?_
      refine aw_per [21, 23] 24 rfl ?_
      refine per_P 0 rfl (by kernel_rfl) rfl (fun _ => rfl) rfl ?_
      refine per_P 1 rfl (by kernel_rfl) rfl (fun _ => rfl) rfl ?_
      refine per_P 2 rfl (by kernel_rfl) rfl (fun _ => rfl) rfl ?_
      refine per_P 3 rfl (by kernel_rfl) rfl (fun _ => rfl) rfl ?_
      refine per_P 4 rfl (by kernel_rfl) rfl (fun _ => rfl) rfl ?_
      refine per_P 5 rfl (by kernel_rfl) rfl (fun _ => rfl) rfl ?_
      refine per_P 6 rfl (by kernel_rfl) rfl (fun _ => rfl) rfl ?_
      refine per_P 7 rfl (by kernel_rfl) rfl (fun _ => rfl) rfl ?_
      refine per_P 8 rfl (by kernel_rfl) rfl (fun _ => rfl) rfl ?_
      refine per_P 9 rfl (by kernel_rfl) rfl (fun _ => rfl) rfl ?_
      refine per_P 10 rfl (by kernel_rfl) rfl (fun _ => rfl) rfl ?_
      refine per_P 11 rfl (by kernel_rfl) rfl (fun _ => rfl) rfl ?_
      refine per_R 12 rfl (by kernel_rfl) rfl (step_ia_sl (j := (((P ++ X ++ M).length + i : Nat) : Int)) rfl rfl rfl (Nat.zero_le _) rfl (congrArg I eb) (Int.natCast_nonneg _) (by omega)) rfl ?_
      refine per_R 13 rfl (by kernel_rfl) rfl (ld_a (T := rwT) (i := 0 + ((P ++ X ++ M).length + i)) (z := y) rfl rfl rfl g1) rfl ?_
      refine per_P 14 rfl (by kernel_rfl) rfl (fun _ => rfl) rfl ?_
      refine per_P 15 rfl (by kernel_rfl) rfl (fun _ => rfl) rfl ?_
      refine per_P 16 rfl (by kernel_rfl) rfl (fun _ => rfl) rfl ?_
      refine per_P 17 rfl (by kernel_rfl) rfl (fun _ => rfl) rfl ?_
      refine per_R 18 rfl (by kernel_rfl) rfl (step_ia_sl (j := ((P.length + i : Nat) : Int)) rfl rfl rfl (Nat.zero_le _) rfl (congrArg I ea) (Int.natCast_nonneg _) (by omega)) rfl ?_
      refine per_R 19 rfl (by kernel_rfl) rfl (ld_a (T := rwT) (i := 0 + (P.length + i)) (z := x) rfl rfl rfl g0) rfl ?_
      refine per_R 20 rfl (by kernel_rfl) rfl (step_ia_sl (j := ((P.length + i : Nat) : Int)) rfl rfl rfl (Nat.zero_le _) rfl (congrArg I ea) (Int.natCast_nonneg _) (by omega)) rfl ?_
      refine per_W 21 rfl (by kernel_rfl) rfl rfl (set_l (T := rwT) (i := 0 + (P.length + i)) (z := y) rfl rfl rfl rfl rfl (List.getElem?_eq_some_iff.1 g0).1) rfl ?_
      refine per_R 22 rfl (by kernel_rfl) rfl (step_ia_sl (j := (((P ++ X ++ M).length + i : Nat) : Int)) rfl rfl rfl (Nat.zero_le _) rfl (congrArg I eb) (Int.natCast_nonneg _) (by omega)) rfl ?_
      refine per_W 23 rfl (by kernel_rfl) rfl rfl (set_l (T := rwT) (i := 0 + ((P ++ X ++ M).length + i)) (z := x) rfl rfl rfl rfl rfl (by rw [List.length_set]; exact (List.getElem?_eq_some_iff.1 g1).1)) rfl ?_
      refine per_done (by kernel_rfl) ?_
      repeat' first | refine aw_seq ?_ | refine aw_region ?_ | refine aw_lex [] ?_ | (refine isA ?_; refine do_F rfl ?_) | (refine isL ?_; refine lex_F rfl (by kernel_rfl) rfl rfl ?_) | (refine isLg rfl ?_; refine lex_S rfl (by kernel_rfl) rfl rfl ?_) | refine aops_nil ?_ | refine lex_done _ rfl (by kernel_rfl) ?_ | refine aw_ct rfl ?_ | refine aw_cf rfl ?_ | refine aw_block ?_ | with_reducible refine then_n ?_ | refine aw_skip ?_ | refine aw_exit ?_ | (with_reducible first | refine then_x ?_ | refine then_r ?_ | refine block_x ?_ | refine block_n ?_ | refine block_r ?_) | refine aw_ret ?_
      refine ⟨⟨i + 1, hlt⟩, by simp only; omega, ?_⟩
      exact subm 1 [0] rfl rfl fix1 (by decide) (.cons rfl rfl rfl rfl (les_eq (show rwT.flat (((swpL P X M Y Q i).set (0 + (P.length + i)) y).set (0 + ((P ++ X ++ M).length + i)) x) = rwT.flat (swpL P X M Y Q (i + 1)) by rw [hL, Nat.zero_add, Nat.zero_add, swp_two hu hv, hL2]) (flat_noH _ _)) .nil) (by
        repeat' first | exact les_nil | refine les_cons ?_ ?_ | exact le_any | exact le_refl rfl | exact le_sl rfl rfl | exact le_i hlt (by omega))
    · have hge : i = n := by have := of_decide_eq_false h; simp only at this; omega
      subst hge
      have e : swpL P X M Y Q i = P ++ Y ++ M ++ X ++ Q := by
        rw [swpL, List.take_of_length_le (by omega), List.take_of_length_le (by omega), List.drop_of_length_le (by omega), List.drop_of_length_le (by omega)]; simp
      repeat' first | refine aw_seq ?_ | refine aw_region ?_ | refine aw_lex [] ?_ | (refine isA ?_; refine do_F rfl ?_) | (refine isL ?_; refine lex_F rfl (by kernel_rfl) rfl rfl ?_) | (refine isLg rfl ?_; refine lex_S rfl (by kernel_rfl) rfl rfl ?_) | exact finMv 1 [0] fix1 (by decide) (.cons rfl rfl rfl rfl (les_eq (show rwT.flat (swpL P X M Y Q i) = rwT.flat (P ++ Y ++ M ++ X ++ Q) by rw [e]) (flat_noH _ _)) .nil) | refine aops_nil ?_ | refine lex_done _ rfl (by kernel_rfl) ?_ | refine aw_ct rfl ?_ | refine aw_cf rfl ?_ | refine aw_block ?_ | with_reducible refine then_n ?_ | refine aw_skip ?_ | refine aw_exit ?_ | (with_reducible first | refine then_x ?_ | refine then_r ?_ | refine block_x ?_ | refine block_n ?_ | refine block_r ?_) | refine aw_ret ?_
end Go.Proofs.Ytojcojanokhnaaa.Ab

/- StE -/
namespace Go.Proofs.Ytojcojanokhnaaa.Ab
open Go.RowKit

theorem c_swapX {ds : List Rw} {L : Nat} {a b n : Int} (P X M Y Q : List Rw) (hd : ds = P ++ X ++ M ++ Y ++ Q) (hL : L = ds.length) (hl : L ≤ 100000000) (ha : a = (P.length : Int)) (hb : b = ((P ++ X ++ M).length : Int)) (hn : n = (X.length : Int)) (hY : Y.length = X.length) :
    Meets Go.Proofs.Try.prog 133 [.sl 0 0 L, I a, I b, I n, .fn 64 []] [rwR ds] (.tup []) [rwR (P ++ Y ++ M ++ X ++ Q)] true := by
  subst hd hL ha hb hn
  exact c_swapR P X M Y Q X.length rfl hY hl

structure RotI (m : Nat) (T : List Rw) (p : List Rw × List Rw × List Rw × List Rw) : Prop where
  m : p.1.length + p.2.1.length = m
  t : p.1 ++ p.2.2.1 ++ p.2.1 ++ p.2.2.2 = T
  x : 0 < p.2.1.length
  y : 0 < p.2.2.1.length
theorem RotI.len {m : Nat} {T : List Rw} {p : List Rw × List Rw × List Rw × List Rw} (h : RotI m T p) : (p.1 ++ p.2.1 ++ p.2.2.1 ++ p.2.2.2).length = T.length := by
  rw [← h.t]; simp; omega

theorem c_rotate (P X Y Q : List Rw) (hx : 0 < X.length) (hy : 0 < Y.length) (hl : (P ++ X ++ Y ++ Q).length ≤ 100000000) : Meets Go.Proofs.Try.prog 132 [.sl 0 0 (P ++ X ++ Y ++ Q).length, I P.length, I (P ++ X).length, I (P ++ X ++ Y).length, .fn 64 []] [rwR (P ++ X ++ Y ++ Q)] (.tup []) [rwR (P ++ Y ++ X ++ Q)] true := by
  obtain ⟨T, hT⟩ : ∃ T, T = P ++ Y ++ X ++ Q := ⟨_, rfl⟩
  have hTl : (P ++ X ++ Y ++ Q).length = T.length := by rw [hT]; simp; omega
  have l1 : (P ++ X).length = P.length + X.length := by simp
  have l2 : (P ++ X ++ Y).length = P.length + X.length + Y.length := by simp; omega
  have l3 : (P ++ X ++ Y ++ Q).length = P.length + X.length + Y.length + Q.length := by simp; omega
  have I0 : RotI (P ++ X).length T (P, X, Y, Q) := ⟨l1.symm, hT.symm, hx, hy⟩
  rw [← hT]
  generalize hm : (P ++ X).length = m at I0 l1 ⊢
  generalize hL : (P ++ X ++ Y ++ Q).length = L at hl hTl l3 ⊢
  refine meets_of [] Go.Proofs.Try.func132 rfl rfl ?_
  simp only [Go.Proofs.Try.ntmps132, List.length_cons, List.length_nil, Nat.reduceAdd, Nat.reduceSub, List.replicate_succ, List.replicate_zero, List.cons_append, List.nil_append]
  repeat' first | refine aw_seq ?_ | refine aw_region ?_ | refine aw_lex [] ?_ | (refine isA ?_; refine do_F rfl ?_) | (refine isL ?_; refine lex_F rfl (by kernel_rfl) rfl rfl ?_) | (refine isLg rfl ?_; refine lex_S rfl (by kernel_rfl) rfl rfl ?_) | refine aops_nil ?_ | refine lex_done _ rfl (by kernel_rfl) ?_ | refine aw_ct rfl ?_ | refine aw_cf rfl ?_ | refine aw_block ?_ | with_reducible refine then_n ?_ | refine aw_skip ?_ | refine aw_exit ?_ | (with_reducible first | refine then_x ?_ | refine then_r ?_ | refine block_x ?_ | refine block_n ?_ | refine block_r ?_) | refine aw_ret ?_
  refine aw_loop (α := { p : List Rw × List Rw × List Rw × List Rw // RotI m T p }) (fun p => ⟨[.sl 0 0 L, .any, I m, .any, .fn 64 [], .any, .any, .any, .any, .any, I p.1.2.1.length, I p.1.2.2.1.length, .any, .any, .any, .any, .any, .any, .any, .any, .any, .any, .any, .any, .any, .any, .any, .any, .any, .any, .any, .any, .any, .any, .any, .any, .any, .any, .any, .any, .any, .any, .any, .any, .any, .any, .any, .any, .any, .any, .any, .any, .any, .any, .any, .any, .any, .any], [rwR (p.1.1 ++ p.1.2.1 ++ p.1.2.2.1 ++ p.1.2.2.2)], 1⟩) (fun p => p.1.2.1.length + p.1.2.2.1.length) ⟨(P, X, Y, Q), I0⟩ ?_ ?_
  · exact subm 1 [0] rfl rfl fix1 (by decide) (.cons rfl rfl rfl rfl (les_refl (flat_noH _ _)) .nil) (by
      repeat' first | exact les_nil | refine les_cons ?_ ?_ | exact le_any | exact le_refl rfl | exact le_sl rfl rfl | exact le_k (congrArg _ (show (X.length : Int) = IntKind.i64.wrap ((m : Int) - (P.length : Int)) by rw [IntKind.wrap_i64]; omega)) | exact le_k (congrArg _ (show (Y.length : Int) = IntKind.i64.wrap (((P ++ X ++ Y).length : Int) - (m : Int)) by rw [IntKind.wrap_i64]; omega)))
  · rintro ⟨⟨A, C, D, E⟩, J⟩
    have j1 : A.length + C.length = m := J.m
    have j2 : A ++ D ++ C ++ E = T := J.t
    have j3 : 0 < C.length := J.x
    have j4 : 0 < D.length := J.y
    have j5 : (A ++ C ++ D ++ E).length = T.length := J.len
    have j6 : A.length + C.length + D.length + E.length = T.length := by rw [← j5]; simp; omega
    have e1 : IntKind.i64.wrap ((m : Int) - (C.length : Int)) = (A.length : Int) := by rw [IntKind.wrap_i64]; omega
    repeat' first | refine aw_seq ?_ | refine aw_region ?_ | refine aw_lex [] ?_ | (refine isA ?_; refine do_F rfl ?_) | (refine isL ?_; refine lex_F rfl (by kernel_rfl) rfl rfl ?_) | (refine isLg rfl ?_; refine lex_S rfl (by kernel_rfl) rfl rfl ?_) | refine aops_nil ?_ | refine lex_done _ rfl (by kernel_rfl) ?_ | refine aw_ct rfl ?_ | refine aw_cf rfl ?_ | refine aw_block ?_ | with_reducible refine then_n ?_ | refine aw_skip ?_ | refine aw_exit ?_ | (with_reducible first | refine then_x ?_ | refine then_r ?_ | refine block_x ?_ | refine block_n ?_ | refine block_r ?_) | refine aw_ret ?_
    refine aw_cond rfl (fun h => ?_) (fun h => ?_)
    · have hne : C.length ≠ D.length := by intro e; simp [e] at h
      repeat' first | refine aw_seq ?_ | refine aw_region ?_ | refine aw_lex [] ?_ | (refine isA ?_; refine do_F rfl ?_) | (refine isL ?_; refine lex_F rfl (by kernel_rfl) rfl rfl ?_) | (refine isLg rfl ?_; refine lex_S rfl (by kernel_rfl) rfl rfl ?_) | refine aops_nil ?_ | refine lex_done _ rfl (by kernel_rfl) ?_ | refine aw_ct rfl ?_ | refine aw_cf rfl ?_ | refine aw_block ?_ | with_reducible refine then_n ?_ | refine aw_skip ?_ | refine aw_exit ?_ | (with_reducible first | refine then_x ?_ | refine then_r ?_ | refine block_x ?_ | refine block_n ?_ | refine block_r ?_) | refine aw_ret ?_
      refine aw_cond rfl (fun q => ?_) (fun q => ?_)
      · have hgt : D.length < C.length := by have := of_decide_eq_true q; simp only at this; omega
        have t1 : (C.take D.length).length = D.length := by simp; omega
        have t2 : C.take D.length ++ C.drop D.length = C := List.take_append_drop _ _
        have sw := c_swapX (ds := A ++ C ++ D ++ E) (L := L) (a := IntKind.i64.wrap ((m : Int) - (C.length : Int))) (b := (m : Int)) (n := (D.length : Int)) A (C.take D.length) (C.drop D.length) D E (by have q : A ++ (C.take D.length ++ C.drop D.length) ++ D ++ E = A ++ C.take D.length ++ C.drop D.length ++ D ++ E := (by simp only [List.append_assoc]); rw [t2] at q; exact q) (by omega) (by omega) e1 (by rw [List.append_assoc A, t2, List.length_append]; omega) (by omega) (by omega)
        repeat' first | refine aw_seq ?_ | refine aw_region ?_ | refine aw_lex [] ?_ | (refine isA ?_; refine do_F rfl ?_) | (refine isL ?_; refine lex_F rfl (by kernel_rfl) rfl rfl ?_) | (refine isLg rfl ?_; refine lex_S rfl (by kernel_rfl) rfl rfl ?_) | (refine isAc 133 ?_; refine do_R rfl (step_callMs (K := []) (Rs' := [_]) [0] (by decide) rfl sw (.cons rfl rfl rfl (flat_noH _ _) (flat_noH _ _) .nil) (.cons (.sl rfl) (.cons (.same rfl) (.cons (.same rfl) (.cons (.same rfl) (.cons (.same rfl) .nil))))) (fun q hq => by cases hq) rfl) rfl ?_) | (refine isLc 133 rfl ?_; refine lex_R rfl (by kernel_rfl) rfl (step_callMs (K := []) (Rs' := [_]) [0] (by decide) rfl sw (.cons rfl rfl rfl (flat_noH _ _) (flat_noH _ _) .nil) (.cons (.sl rfl) (.cons (.same rfl) (.cons (.same rfl) (.cons (.same rfl) (.cons (.same rfl) .nil))))) (fun q hq => by cases hq) rfl) rfl ?_) | refine aops_nil ?_ | refine lex_done _ rfl (by kernel_rfl) ?_ | refine aw_ct rfl ?_ | refine aw_cf rfl ?_ | refine aw_block ?_ | with_reducible refine then_n ?_ | refine aw_skip ?_ | refine aw_exit ?_ | (with_reducible first | refine then_x ?_ | refine then_r ?_ | refine block_x ?_ | refine block_n ?_ | refine block_r ?_) | refine aw_ret ?_
        refine ⟨⟨(A ++ D, C.drop D.length, C.take D.length, E), ⟨by simp; omega, by rw [← j2]; simp only [List.append_assoc]; rw [← List.append_assoc (C.take D.length), t2], by simp; omega, by simp; omega⟩⟩, by simp only [List.length_drop, t1]; omega, ?_⟩
        exact subm 1 [0] rfl rfl fix1 (by decide) (.cons rfl rfl rfl rfl (les_refl (flat_noH _ _)) .nil) (by
          repeat' first | exact les_nil | refine les_cons ?_ ?_ | exact le_any | exact le_refl rfl | exact le_sl rfl rfl | exact le_k (congrArg _ (show ((C.take D.length).length : Int) = (D.length : Int) by omega)) | exact le_k (congrArg _ (show ((C.drop D.length).length : Int) = IntKind.i64.wrap ((C.length : Int) - (D.length : Int)) by rw [IntKind.wrap_i64, List.length_drop]; omega)))
      · have hlt : C.length < D.length := by have := of_decide_eq_false q; simp only at this; omega
        have t1 : (D.drop (D.length - C.length)).length = C.length := by simp; omega
        have t2 : D.take (D.length - C.length) ++ D.drop (D.length - C.length) = D := List.take_append_drop _ _
        have t3 : (D.take (D.length - C.length)).length = D.length - C.length := by simp
        have sw := c_swapX (ds := A ++ C ++ D ++ E) (L := L) (a := IntKind.i64.wrap ((m : Int) - (C.length : Int))) (b := IntKind.i64.wrap (IntKind.i64.wrap ((m : Int) + (D.length : Int)) - (C.length : Int))) (n := (C.length : Int)) A C (D.take (D.length - C.length)) (D.drop (D.length - C.length)) E (by have q : A ++ C ++ (D.take (D.length - C.length) ++ D.drop (D.length - C.length)) ++ E = A ++ C ++ D.take (D.length - C.length) ++ D.drop (D.length - C.length) ++ E := (by simp only [List.append_assoc]); rw [t2] at q; exact q) (by omega) (by omega) e1 (by
          rw [show IntKind.i64.wrap ((m : Int) + (D.length : Int)) = (m : Int) + D.length by rw [IntKind.wrap_i64]; omega, IntKind.wrap_i64, List.length_append, List.length_append, t3]; omega) rfl t1
        repeat' first | refine aw_seq ?_ | refine aw_region ?_ | refine aw_lex [] ?_ | (refine isA ?_; refine do_F rfl ?_) | (refine isL ?_; refine lex_F rfl (by kernel_rfl) rfl rfl ?_) | (refine isLg rfl ?_; refine lex_S rfl (by kernel_rfl) rfl rfl ?_) | (refine isAc 133 ?_; refine do_R rfl (step_callMs (K := []) (Rs' := [_]) [0] (by decide) rfl sw (.cons rfl rfl rfl (flat_noH _ _) (flat_noH _ _) .nil) (.cons (.sl rfl) (.cons (.same rfl) (.cons (.same rfl) (.cons (.same rfl) (.cons (.same rfl) .nil))))) (fun q hq => by cases hq) rfl) rfl ?_) | (refine isLc 133 rfl ?_; refine lex_R rfl (by kernel_rfl) rfl (step_callMs (K := []) (Rs' := [_]) [0] (by decide) rfl sw (.cons rfl rfl rfl (flat_noH _ _) (flat_noH _ _) .nil) (.cons (.sl rfl) (.cons (.same rfl) (.cons (.same rfl) (.cons (.same rfl) (.cons (.same rfl) .nil))))) (fun q hq => by cases hq) rfl) rfl ?_) | refine aops_nil ?_ | refine lex_done _ rfl (by kernel_rfl) ?_ | refine aw_ct rfl ?_ | refine aw_cf rfl ?_ | refine aw_block ?_ | with_reducible refine then_n ?_ | refine aw_skip ?_ | refine aw_exit ?_ | (with_reducible first | refine then_x ?_ | refine then_r ?_ | refine block_x ?_ | refine block_n ?_ | refine block_r ?_) | refine aw_ret ?_
        refine ⟨⟨(A, D.drop (D.length - C.length), D.take (D.length - C.length), C ++ E), ⟨by simp only; omega, by rw [← j2]; simp only [List.append_assoc]; rw [← List.append_assoc (D.take (D.length - C.length)), t2], by simp only; omega, by simp only; omega⟩⟩, by simp only [t1, t3]; omega, ?_⟩
        exact subm 1 [0] rfl rfl fix1 (by decide) (.cons rfl rfl rfl rfl (les_eq (congrArg rwT.flat (by simp)) (flat_noH _ _)) .nil) (by
          repeat' first | exact les_nil | refine les_cons ?_ ?_ | exact le_any | exact le_refl rfl | exact le_sl rfl rfl | exact le_k (congrArg _ (show ((D.drop (D.length - C.length)).length : Int) = (C.length : Int) by omega)) | exact le_k (congrArg _ (show ((D.take (D.length - C.length)).length : Int) = IntKind.i64.wrap ((D.length : Int) - (C.length : Int)) by rw [IntKind.wrap_i64, t3]; omega)))
    · have heq : C.length = D.length := by have : (C.length : Int) = D.length := (by simpa using h); omega
      have sw := c_swapX (ds := A ++ C ++ D ++ E) (L := L) (a := IntKind.i64.wrap ((m : Int) - (C.length : Int))) (b := (m : Int)) (n := (C.length : Int)) A C [] D E (by simp) (by omega) (by omega) e1 (by simp; omega) rfl heq.symm
      repeat' first | refine aw_seq ?_ | refine aw_region ?_ | refine aw_lex [] ?_ | (refine isA ?_; refine do_F rfl ?_) | (refine isL ?_; refine lex_F rfl (by kernel_rfl) rfl rfl ?_) | (refine isLg rfl ?_; refine lex_S rfl (by kernel_rfl) rfl rfl ?_) | (refine isAc 133 ?_; refine do_R rfl (step_callMs (K := []) (Rs' := [_]) [0] (by decide) rfl sw (.cons rfl rfl rfl (flat_noH _ _) (flat_noH _ _) .nil) (.cons (.sl rfl) (.cons (.same rfl) (.cons (.same rfl) (.cons (.same rfl) (.cons (.same rfl) .nil))))) (fun q hq => by cases hq) rfl) rfl ?_) | (refine isLc 133 rfl ?_; refine lex_R rfl (by kernel_rfl) rfl (step_callMs (K := []) (Rs' := [_]) [0] (by decide) rfl sw (.cons rfl rfl rfl (flat_noH _ _) (flat_noH _ _) .nil) (.cons (.sl rfl) (.cons (.same rfl) (.cons (.same rfl) (.cons (.same rfl) (.cons (.same rfl) .nil))))) (fun q hq => by cases hq) rfl) rfl ?_) | exact finMv 1 [0] fix1 (by decide) (.cons rfl rfl rfl rfl (les_eq (congrArg rwT.flat (by rw [← j2]; simp)) (flat_noH _ _)) .nil) | refine aops_nil ?_ | refine lex_done _ rfl (by kernel_rfl) ?_ | refine aw_ct rfl ?_ | refine aw_cf rfl ?_ | refine aw_block ?_ | with_reducible refine then_n ?_ | refine aw_skip ?_ | refine aw_exit ?_ | (with_reducible first | refine then_x ?_ | refine then_r ?_ | refine block_x ?_ | refine block_n ?_ | refine block_r ?_) | refine aw_ret ?_
end Go.Proofs.Ytojcojanokhnaaa.Ab

/- StF -/
namespace Go.Proofs.Ytojcojanokhnaaa.Ab
open Go.RowKit

theorem srt_split {xs : List Rw} (h : Srt xs) (u : Nat) : ∀ x ∈ xs.take u, ∀ y ∈ xs.drop u, leW x y := by
  have h' : Srt (xs.take u ++ xs.drop u) := by rw [List.take_append_drop]; exact h
  exact (List.pairwise_append.1 h').2.2
/-- What lies left of a cut in A stands not behind what lies right of a cut in B. -/
theorem cut_le {A B : List Rw} {u v : Nat} (hA : Srt A) (hB : Srt B) (hu : u ≤ A.length) (h : ∀ x y, 0 < u → A[u - 1]? = some x → B[v]? = some y → leW x y) : ∀ x ∈ A.take u, ∀ y ∈ B.drop v, leW x y := fun x hx y hy => by
  obtain ⟨i, hi⟩ := List.getElem?_of_mem hx
  obtain ⟨j, hj⟩ := List.getElem?_of_mem hy
  have hlt : i < u := by
    have := (List.getElem?_eq_some_iff.1 hi).1
    simp at this
    omega
  rw [List.getElem?_take_of_lt hlt] at hi
  rw [List.getElem?_drop] at hj
  have hvl := (List.getElem?_eq_some_iff.1 hj).1
  obtain ⟨x', hx'⟩ : ∃ z, A[u - 1]? = some z := ⟨_, List.getElem?_eq_getElem (by omega)⟩
  obtain ⟨y', hy'⟩ : ∃ z, B[v]? = some z := ⟨_, List.getElem?_eq_getElem (by omega)⟩
  exact leW_trans (srt_le hA (show i ≤ u - 1 by omega) hi hx') (leW_trans (h x' y' (by omega) hx' hy') (srt_le hB (Nat.le_add_right v j) hy' hj))
theorem sym_cut {A B : List Rw} {u v : Nat} (hA : Srt A) (hB : Srt B) (hu : u ≤ A.length) (hv : v ≤ B.length) (h1 : ∀ x y, 0 < u → A[u - 1]? = some x → B[v]? = some y → leW x y) (h2 : ∀ y x, 0 < v → B[v - 1]? = some y → A[u]? = some x → leW y x) :
    srtV (A.take u ++ B.take v) ++ srtV (A.drop u ++ B.drop v) = srtV (A ++ B) := by
  refine srtV_of ?_ ?_
  · refine List.pairwise_append.2 ⟨srtV_srt _, srtV_srt _, fun x hx y hy => ?_⟩
    have hx' := (srtV_perm _).mem_iff.1 hx
    have hy' := (srtV_perm _).mem_iff.1 hy
    rcases List.mem_append.1 hx' with hx' | hx' <;> rcases List.mem_append.1 hy' with hy' | hy'
    · exact srt_split hA u x hx' y hy'
    · exact cut_le hA hB hu h1 x hx' y hy'
    · exact cut_le hB hA hv h2 x hx' y hy'
    · exact srt_split hB v x hx' y hy'
  · refine ((srtV_perm _).append (srtV_perm _)).trans ?_
    have e : (A ++ B).Perm ((A.take u ++ A.drop u) ++ (B.take v ++ B.drop v)) := by rw [List.take_append_drop, List.take_append_drop]
    refine List.Perm.trans ?_ e.symm
    rw [List.append_assoc, List.append_assoc]
    refine List.Perm.append_left _ ?_
    rw [← List.append_assoc, ← List.append_assoc]
    exact List.Perm.append_right _ List.perm_append_comm
end Go.Proofs.Ytojcojanokhnaaa.Ab

/- StB2 -/
namespace Go.Proofs.Ytojcojanokhnaaa.Ab
open Go.RowKit

/-- Blocks of s rows, each in order; the last may be shorter. -/
inductive Blk (s : Nat) : List Rw → Prop where
  | last {X : List Rw} (hl : X.length ≤ s) (h : Srt X) : Blk s X
  | cons {X Y : List Rw} (hl : X.length = s) (h : Srt X) (t : Blk s Y) : Blk s (X ++ Y)
/-- Blocks of s rows, all of them whole. -/
def Full (s : Nat) (U : List Rw) : Prop := ∀ Z, Blk s Z → Blk s (U ++ Z)
theorem full_nil {s : Nat} : Full s [] := fun Z h => h
theorem full_snoc {s : Nat} {U X : List Rw} (hU : Full s U) (hl : X.length = s) (h : Srt X) : Full s (U ++ X) := fun Z hZ => by
  rw [List.append_assoc]; exact hU _ (.cons hl h hZ)
theorem full_last {s : Nat} {U X : List Rw} (hU : Full s U) (hl : X.length ≤ s) (h : Srt X) : Blk s (U ++ X) := hU _ (.last hl h)
theorem blk_srt {s : Nat} {V : List Rw} (h : Blk s V) (hl : V.length ≤ s) : Srt V := by
  cases h with
  | last _ h => exact h
  | @cons X Y hX h t =>
    have : Y = [] := List.eq_nil_of_length_eq_zero (by rw [List.length_append] at hl; omega)
    subst this
    rw [List.append_nil]
    exact h
theorem blk_cut {s : Nat} {V : List Rw} (h : Blk s V) (hl : s < V.length) : ∃ X Y, V = X ++ Y ∧ X.length = s ∧ Srt X ∧ Blk s Y := by
  cases h with
  | last q h => omega
  | @cons X Y hX h t => exact ⟨X, Y, rfl, hX, h, t⟩
theorem blk_two {s : Nat} {V : List Rw} (hs : 0 < s) (h : Blk s V) (hl : 2 * s ≤ V.length) : ∃ X Y Z, V = X ++ Y ++ Z ∧ X.length = s ∧ Y.length = s ∧ Srt X ∧ Srt Y ∧ Blk s Z := by
  obtain ⟨X, W, rfl, hX, sX, hW⟩ := blk_cut h (by omega)
  rw [List.length_append] at hl
  rcases Nat.lt_or_ge s W.length with hlt | hge
  · obtain ⟨Y, Z, rfl, hY, sY, hZ⟩ := blk_cut hW hlt
    exact ⟨X, Y, Z, by rw [List.append_assoc], hX, hY, sX, sY, hZ⟩
  · exact ⟨X, W, [], by simp, hX, by omega, sX, blk_srt hW hge, .last (Nat.zero_le _) List.Pairwise.nil⟩
theorem blk_rest {s : Nat} {V : List Rw} (h : Blk s V) (hl : s < V.length) (h2 : V.length < 2 * s) : ∃ X Y, V = X ++ Y ∧ X.length = s ∧ Srt X ∧ Srt Y ∧ 0 < Y.length := by
  obtain ⟨X, Y, rfl, hX, sX, hY⟩ := blk_cut h hl
  rw [List.length_append] at hl h2
  exact ⟨X, Y, rfl, hX, sX, blk_srt hY (by omega), by omega⟩
theorem srtV_id {xs : List Rw} (h : Srt xs) : srtV xs = xs := (srtV_of h (.refl _)).symm
end Go.Proofs.Ytojcojanokhnaaa.Ab
