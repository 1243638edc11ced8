/-
  Draws: numbers below a bound, picks.
-/
import Derived.Test.YtjlhfemfmkdlhaaAbX
import Derived.Test.YtjlhfemfmkdlhaaDrwA
namespace Go.Proofs.Ytjlhfemfmkdlhaa.Ab
open Go.RowKit
set_option linter.unusedVariables false
set_option linter.unusedSimpArgs false
set_option maxRecDepth 20000
set_option maxHeartbeats 1000000

theorem byteC_code (c : Cur) : (byteC c).code = c.code := rfl
theorem curR_noH (c : Cur) : NoH (curR c).cells := noHs_mem rfl

def four (a b c d : Int) : Int := IntKind.i64.wrap (IntKind.i64.wrap (IntKind.i64.wrap (IntKind.i64.wrap (a * 16777216) + IntKind.i64.wrap (b * 65536)) + IntKind.i64.wrap (c * 256)) + d)
theorem four_pos {a b c d : Int} (ha : 0 ≤ a ∧ a ≤ 255) (hb : 0 ≤ b ∧ b ≤ 255) (hc : 0 ≤ c ∧ c ≤ 255) (hd : 0 ≤ d ∧ d ≤ 255) : 0 ≤ four a b c d := by
  have e1 : IntKind.i64.wrap (a * 16777216) = a * 16777216 := by rw [IntKind.wrap_i64]; omega
  have e2 : IntKind.i64.wrap (b * 65536) = b * 65536 := by rw [IntKind.wrap_i64]; omega
  have e3 : IntKind.i64.wrap (c * 256) = c * 256 := by rw [IntKind.wrap_i64]; omega
  have e4 : IntKind.i64.wrap (a * 16777216 + b * 65536) = a * 16777216 + b * 65536 := by rw [IntKind.wrap_i64]; omega
  have e5 : IntKind.i64.wrap (a * 16777216 + b * 65536 + c * 256) = a * 16777216 + b * 65536 + c * 256 := by rw [IntKind.wrap_i64]; omega
  have e6 : IntKind.i64.wrap (a * 16777216 + b * 65536 + c * 256 + d) = a * 16777216 + b * 65536 + c * 256 + d := by rw [IntKind.wrap_i64]; omega
  rw [four, e1, e2, e4, e3, e5, e6]
  omega

def beV (n : Int) (c : Cur) : Int := cond (decide (n ≤ 0)) 0 (cond (decide (n ≤ 256)) ((byteV c).tmod n) ((four (byteV c) (byteV (byteC c)) (byteV (byteC (byteC c))) (byteV (byteC (byteC (byteC c))))).tmod n))
def beC (n : Int) (c : Cur) : Cur := cond (decide (n ≤ 0)) c (cond (decide (n ≤ 256)) (byteC c) (byteC (byteC (byteC (byteC c)))))
theorem beC_code (n : Int) (c : Cur) : (beC n c).code = c.code := by
  unfold beC
  cases decide (n ≤ 0) <;> cases decide (n ≤ 256) <;> rfl
theorem beV_range {n : Int} (h : 0 < n) (c : Cur) : 0 ≤ beV n c ∧ beV n c < n := by
  have h0 : decide (n ≤ 0) = false := decide_eq_false (by omega)
  unfold beV
  rw [h0, cond_false]
  cases decide (n ≤ 256) with
  | true => exact ⟨Int.tmod_nonneg _ (byteV_range c).1, Int.tmod_lt_of_pos _ h⟩
  | false => exact ⟨Int.tmod_nonneg _ (four_pos (byteV_range _) (byteV_range _) (byteV_range _) (byteV_range _)), Int.tmod_lt_of_pos _ h⟩

theorem c_below (n : Int) (c : Cur) (hl : c.code.length ≤ 1000000000) : Meets Go.Proofs.Try.prog 90 [.ptr 0 0, I n] [curR c] (I (beV n c)) [curR (beC n c)] true := by
  refine meets_of [4] Go.Proofs.Try.func90 rfl rfl ?_
  simp only [Go.Proofs.Try.ntmps90, List.length_cons, List.length_nil, Nat.reduceAdd, Nat.reduceSub, List.replicate_succ, List.replicate_zero, List.cons_append, List.nil_append]
  repeat' first
    | refine aw_seq ?_
    | refine aw_region ?_
    | refine aw_lex [] ?_
    | (refine isA ?_; refine do_F rfl ?_)
    | (refine isL ?_; refine lex_F rfl (by kernel_rfl) rfl rfl ?_)
    | (refine isLg rfl ?_; refine lex_S rfl (by kernel_rfl) rfl rfl ?_)
    | refine aops_nil ?_
    | refine lex_done _ rfl (by kernel_rfl) ?_
    | refine aw_ct rfl ?_
    | refine aw_cf rfl ?_
    | refine aw_block ?_
    | refine then_n ?_
    | refine aw_skip ?_
    | refine aw_exit ?_
    | refine then_x ?_
    | refine then_r ?_
    | refine block_x ?_
    | refine block_n ?_
    | refine block_r ?_
    | refine aw_ret ?_
  refine aw_cond rfl (fun h => ?_) (fun h => ?_)
  · repeat' first
      | refine aw_seq ?_
      | refine aw_region ?_
      | refine aw_lex [] ?_
      | (refine isA ?_; refine do_F rfl ?_)
      | (refine isL ?_; refine lex_F rfl (by kernel_rfl) rfl rfl ?_)
      | (refine isLg rfl ?_; refine lex_S rfl (by kernel_rfl) rfl rfl ?_)
      | exact (by rw [beV, beC, h]; exact finM 1 [0] fix1 (by decide) rfl (le_refl rfl) (.cons rfl rfl rfl rfl (les_refl (curR_noH c)) .nil))
      | refine aops_nil ?_
      | refine lex_done _ rfl (by kernel_rfl) ?_
      | refine aw_ct rfl ?_
      | refine aw_cf rfl ?_
      | refine aw_block ?_
      | refine then_n ?_
      | refine aw_skip ?_
      | refine aw_exit ?_
      | refine then_x ?_
      | refine then_r ?_
      | refine block_x ?_
      | refine block_n ?_
      | refine block_r ?_
      | refine aw_ret ?_
  · have hn : n ≠ 0 := by have := of_decide_eq_false h; omega
    repeat' first
      | refine aw_seq ?_
      | refine aw_region ?_
      | refine aw_lex [] ?_
      | (refine isA ?_; refine do_F rfl ?_)
      | (refine isL ?_; refine lex_F rfl (by kernel_rfl) rfl rfl ?_)
      | (refine isLg rfl ?_; refine lex_S rfl (by kernel_rfl) rfl rfl ?_)
      | refine aops_nil ?_
      | refine lex_done _ rfl (by kernel_rfl) ?_
      | refine aw_ct rfl ?_
      | refine aw_cf rfl ?_
      | refine aw_block ?_
      | refine then_n ?_
      | refine aw_skip ?_
      | refine aw_exit ?_
      | refine then_x ?_
      | refine then_r ?_
      | refine block_x ?_
      | refine block_n ?_
      | refine block_r ?_
      | refine aw_ret ?_
    refine aw_cond rfl (fun h' => ?_) (fun h' => ?_)
    · repeat' first
        | refine aw_seq ?_
        | refine aw_region ?_
        | refine aw_lex [] ?_
        | (refine isA ?_; refine do_F rfl ?_)
        | (refine isL ?_; refine lex_F rfl (by kernel_rfl) rfl rfl ?_)
        | (refine isLg rfl ?_; refine lex_S rfl (by kernel_rfl) rfl rfl ?_)
        | (refine isAc 98 ?_; refine do_R rfl (step_callMs (K := []) (Rs' := [_]) [0] (by decide) rfl (c_byte c hl) (.cons rfl rfl rfl (curR_noH _) (curR_noH _) .nil) (.cons (.ptr rfl) .nil) (fun q hq => by cases hq) rfl) rfl ?_)
        | (refine isLc 98 rfl ?_; refine lex_R rfl (by kernel_rfl) rfl (step_callMs (K := []) (Rs' := [_]) [0] (by decide) rfl (c_byte c hl) (.cons rfl rfl rfl (curR_noH _) (curR_noH _) .nil) (.cons (.ptr rfl) .nil) (fun q hq => by cases hq) rfl) rfl ?_)
        | (refine isA ?_; refine do_R rfl (step_rem rfl rfl rfl hn) rfl ?_)
        | exact (by rw [beV, beC, h, h']; exact finM 1 [0] fix1 (by decide) rfl (le_refl rfl) (.cons rfl rfl rfl rfl (les_refl (curR_noH (byteC c))) .nil))
        | refine aops_nil ?_
        | refine lex_done _ rfl (by kernel_rfl) ?_
        | refine aw_ct rfl ?_
        | refine aw_cf rfl ?_
        | refine aw_block ?_
        | refine then_n ?_
        | refine aw_skip ?_
        | refine aw_exit ?_
        | refine then_x ?_
        | refine then_r ?_
        | refine block_x ?_
        | refine block_n ?_
        | refine block_r ?_
        | refine aw_ret ?_
    · repeat' first
        | refine aw_seq ?_
        | refine aw_region ?_
        | refine aw_lex [] ?_
        | (refine isA ?_; refine do_F rfl ?_)
        | (refine isL ?_; refine lex_F rfl (by kernel_rfl) rfl rfl ?_)
        | (refine isLg rfl ?_; refine lex_S rfl (by kernel_rfl) rfl rfl ?_)
        | (refine isAc 98 (x := #[.tmp 17]) ?_; refine do_R rfl (step_callMs (K := []) (Rs' := [_]) [0] (by decide) rfl (c_byte c hl) (.cons rfl rfl rfl (curR_noH _) (curR_noH _) .nil) (.cons (.ptr rfl) .nil) (fun q hq => by cases hq) rfl) rfl ?_)
        | (refine isAc 98 (x := #[.tmp 19]) ?_; refine do_R rfl (step_callMs (K := []) (Rs' := [_]) [0] (by decide) rfl (c_byte (byteC c) hl) (.cons rfl rfl rfl (curR_noH _) (curR_noH _) .nil) (.cons (.ptr rfl) .nil) (fun q hq => by cases hq) rfl) rfl ?_)
        | (refine isAc 98 (x := #[.tmp 21]) ?_; refine do_R rfl (step_callMs (K := []) (Rs' := [_]) [0] (by decide) rfl (c_byte (byteC (byteC c)) hl) (.cons rfl rfl rfl (curR_noH _) (curR_noH _) .nil) (.cons (.ptr rfl) .nil) (fun q hq => by cases hq) rfl) rfl ?_)
        | (refine isAc 98 (x := #[.tmp 23]) ?_; refine do_R rfl (step_callMs (K := []) (Rs' := [_]) [0] (by decide) rfl (c_byte (byteC (byteC (byteC c))) hl) (.cons rfl rfl rfl (curR_noH _) (curR_noH _) .nil) (.cons (.ptr rfl) .nil) (fun q hq => by cases hq) rfl) rfl ?_)
        | (refine isA ?_; refine do_R rfl (step_rem rfl rfl rfl hn) rfl ?_)
        | exact (by rw [beV, beC, h, h']; exact finM 1 [0] fix1 (by decide) rfl (le_refl rfl) (.cons rfl rfl rfl rfl (les_refl (curR_noH (byteC (byteC (byteC (byteC c)))))) .nil))
        | refine aops_nil ?_
        | refine lex_done _ rfl (by kernel_rfl) ?_
        | refine aw_ct rfl ?_
        | refine aw_cf rfl ?_
        | refine aw_block ?_
        | refine then_n ?_
        | refine aw_skip ?_
        | refine aw_exit ?_
        | refine then_x ?_
        | refine then_r ?_
        | refine block_x ?_
        | refine block_n ?_
        | refine block_r ?_
        | refine aw_ret ?_

theorem c_once (n : Int) (c : Cur) (hl : c.code.length ≤ 1000000000) : Meets Go.Proofs.Try.prog 89 [.ptr 0 0, I n] [curR c] (B (decide (beV n c = 0))) [curR (beC n c)] true := by
  refine meets_of [4] Go.Proofs.Try.func89 rfl rfl ?_
  simp only [Go.Proofs.Try.ntmps89, List.length_cons, List.length_nil, Nat.reduceAdd, Nat.reduceSub, List.replicate_succ, List.replicate_zero, List.cons_append, List.nil_append]
  repeat' first
    | refine aw_seq ?_
    | refine aw_region ?_
    | refine aw_lex [] ?_
    | (refine isA ?_; refine do_F rfl ?_)
    | (refine isL ?_; refine lex_F rfl (by kernel_rfl) rfl rfl ?_)
    | (refine isLg rfl ?_; refine lex_S rfl (by kernel_rfl) rfl rfl ?_)
    | (refine isAc 90 ?_; refine do_R rfl (step_callMs (K := []) (Rs' := [_]) [0] (by decide) rfl (c_below n c hl) (.cons rfl rfl rfl (curR_noH _) (curR_noH _) .nil) (.cons (.ptr rfl) (.cons (.same rfl) .nil)) (fun q hq => by cases hq) rfl) rfl ?_)
    | (refine isLc 90 rfl ?_; refine lex_R rfl (by kernel_rfl) rfl (step_callMs (K := []) (Rs' := [_]) [0] (by decide) rfl (c_below n c hl) (.cons rfl rfl rfl (curR_noH _) (curR_noH _) .nil) (.cons (.ptr rfl) (.cons (.same rfl) .nil)) (fun q hq => by cases hq) rfl) rfl ?_)
    | exact finM 1 [0] fix1 (by decide) rfl (le_refl rfl) (.cons rfl rfl rfl rfl (les_refl (curR_noH _)) .nil)
    | refine aops_nil ?_
    | refine lex_done _ rfl (by kernel_rfl) ?_
    | refine aw_ct rfl ?_
    | refine aw_cf rfl ?_
    | refine aw_block ?_
    | refine then_n ?_
    | refine aw_skip ?_
    | refine aw_exit ?_
    | refine then_x ?_
    | refine then_r ?_
    | refine block_x ?_
    | refine block_n ?_
    | refine block_r ?_
    | refine aw_ret ?_

theorem ld_at {P : Program} {o : Oper} {ρ : Operand → V} {H : List Reg} {t i : Nat} {x : Operand} {cs : List V} {v : V} [ht : Sc P t] (ho : o.op = .load t x) (hx : ρ x = .pref (cs.drop i)) (hz : cs[i]? = some v) : Step P o ρ H v H := by
  have hlt := (List.getElem?_eq_some_iff.1 hz).1
  rw [List.drop_eq_getElem_cons hlt] at hx
  have hv : cs[i] = v := by rw [List.getElem?_eq_getElem hlt] at hz; exact Option.some.inj hz
  rw [hv] at hx
  exact step_load_pref ho hx

theorem c_pick (xs : List V) (n : Nat) (z : Int) (c : Cur) (hl : c.code.length ≤ 1000000000) (h0 : 0 < n) (hz : xs[(beV n c).toNat]? = some (I z)) : Meets Go.Proofs.Try.prog 88 [.ptr 0 0, .lst n xs] [curR c] (I z) [curR (beC n c)] true := by
  obtain ⟨r0, r1⟩ := beV_range (n := n) (by omega) c
  refine meets_of [4] Go.Proofs.Try.func88 rfl rfl ?_
  simp only [Go.Proofs.Try.ntmps88, List.length_cons, List.length_nil, Nat.reduceAdd, Nat.reduceSub, List.replicate_succ, List.replicate_zero, List.cons_append, List.nil_append]
  repeat' first
    | refine aw_seq ?_
    | refine aw_region ?_
    | refine aw_lex [] ?_
    | (refine isA ?_; refine do_F rfl ?_)
    | (refine isL ?_; refine lex_F rfl (by kernel_rfl) rfl rfl ?_)
    | (refine isLg rfl ?_; refine lex_S rfl (by kernel_rfl) rfl rfl ?_)
    | (refine isAc 90 ?_; refine do_R rfl (step_callMs (K := []) (Rs' := [_]) [0] (by decide) rfl (c_below n c hl) (.cons rfl rfl rfl (curR_noH _) (curR_noH _) .nil) (.cons (.ptr rfl) (.cons (.same rfl) .nil)) (fun q hq => by cases hq) rfl) rfl ?_)
    | (refine isLc 90 rfl ?_; refine lex_R rfl (by kernel_rfl) rfl (step_callMs (K := []) (Rs' := [_]) [0] (by decide) rfl (c_below n c hl) (.cons rfl rfl rfl (curR_noH _) (curR_noH _) .nil) (.cons (.ptr rfl) (.cons (.same rfl) .nil)) (fun q hq => by cases hq) rfl) rfl ?_)
    | (refine isAi ?_; refine do_R rfl (step_ia_lst rfl rfl rfl r0 r1) rfl ?_)
    | (refine isLi rfl ?_; refine lex_R rfl (by kernel_rfl) rfl (step_ia_lst rfl rfl rfl r0 r1) rfl ?_)
    | (refine isAl ?_; refine do_R rfl (ld_at rfl rfl (by rw [Nat.mul_one]; exact hz)) rfl ?_)
    | exact finM 1 [0] fix1 (by decide) rfl (le_refl rfl) (.cons rfl rfl rfl rfl (les_refl (curR_noH _)) .nil)
    | refine aops_nil ?_
    | refine lex_done _ rfl (by kernel_rfl) ?_
    | refine aw_ct rfl ?_
    | refine aw_cf rfl ?_
    | refine aw_block ?_
    | refine then_n ?_
    | refine aw_skip ?_
    | refine aw_exit ?_
    | refine then_x ?_
    | refine then_r ?_
    | refine block_x ?_
    | refine block_n ?_
    | refine block_r ?_
    | refine aw_ret ?_

/-! ### A new cursor -/
def newS (xs : List Int) : Nat → Int
  | 0 => IntKind.i64.wrap (10101 + xs.length)
  | i + 1 => match xs[i]? with
    | some b => bAnd .i64 (IntKind.i64.wrap (IntKind.i64.wrap (IntKind.i64.wrap (newS xs i * 131) + IntKind.i64.wrap b) + 7)) 1073741823
    | none => newS xs i
def newC (xs : List Int) : Cur := ⟨xs, 0, newS xs (min xs.length 4000)⟩

theorem c_new (xs : List Int) (hl : xs.length ≤ 1000000000) : Meets Go.Proofs.Try.prog 83 [lstOf u8T xs] [] (.ptr 0 0) [curR (newC xs)] true := by
  refine meets_of [2] Go.Proofs.Try.func83 rfl rfl ?_
  simp only [Go.Proofs.Try.ntmps83, List.length_cons, List.length_nil, Nat.reduceAdd, Nat.reduceSub, List.replicate_succ, List.replicate_zero, List.cons_append, List.nil_append]
  repeat' first
    | refine aw_seq ?_
    | refine aw_region ?_
    | refine aw_lex [] ?_
    | (refine isA ?_; refine do_F rfl ?_)
    | (refine isL ?_; refine lex_F rfl (by kernel_rfl) rfl rfl ?_)
    | (refine isLg rfl ?_; refine lex_S rfl (by kernel_rfl) rfl rfl ?_)
    | refine aops_nil ?_
    | refine lex_done _ rfl (by kernel_rfl) ?_
    | refine aw_ct rfl ?_
    | refine aw_cf rfl ?_
    | refine aw_block ?_
    | refine then_n ?_
    | refine aw_skip ?_
    | refine aw_exit ?_
    | refine then_x ?_
    | refine then_r ?_
    | refine block_x ?_
    | refine block_n ?_
    | refine block_r ?_
    | refine aw_ret ?_
  refine aw_loop (α := { i : Nat // i ≤ min xs.length 4000 }) (fun i => ⟨[lstOf u8T xs, .any, .any, I (newS xs i.1), I i.1, .any, .any, .any, .any, .any, .any, .any, .any, .any, .any, .any, .any, .any, .any, .any, .any, .any, .any, .any, .any, .any, .any, .any, .any, .any, .any, .any], [], 0⟩) (fun i => xs.length - i.1) ⟨0, Nat.zero_le _⟩ ?_ ?_
  · exact sub0 [] rfl rfl (by decide) .nil (by repeat' first | exact les_nil | refine les_cons ?_ ?_ | exact le_any | exact le_refl rfl | exact le_sl rfl rfl | exact le_ptr rfl)
  · rintro ⟨i, hi⟩
    have hdone : i = min xs.length 4000 → newC xs = ⟨xs, 0, newS xs i⟩ := fun e => by rw [newC, e]
    repeat' first
      | refine aw_seq ?_
      | refine aw_region ?_
      | refine aw_lex [] ?_
      | (refine isA ?_; refine do_F rfl ?_)
      | (refine isL ?_; refine lex_F rfl (by kernel_rfl) rfl rfl ?_)
      | (refine isLg rfl ?_; refine lex_S rfl (by kernel_rfl) rfl rfl ?_)
      | refine aops_nil ?_
      | refine lex_done _ rfl (by kernel_rfl) ?_
      | refine aw_ct rfl ?_
      | refine aw_cf rfl ?_
      | refine aw_block ?_
      | refine then_n ?_
      | refine aw_skip ?_
      | refine aw_exit ?_
      | refine then_x ?_
      | refine then_r ?_
      | refine block_x ?_
      | refine block_n ?_
      | refine block_r ?_
      | refine aw_ret ?_
    refine do_br rfl rfl (fun h => ?_) (fun h => ?_)
    · have hlt : i < xs.length := by simpa using h
      obtain ⟨z, hz⟩ : ∃ z, xs[i]? = some z := ⟨_, List.getElem?_eq_getElem hlt⟩
      have es : newS xs (i + 1) = bAnd .i64 (IntKind.i64.wrap (IntKind.i64.wrap (IntKind.i64.wrap (newS xs i * 131) + IntKind.i64.wrap z) + 7)) 1073741823 := by rw [newS, hz]
      repeat' first
        | refine aw_seq ?_
        | refine aw_region ?_
        | refine aw_lex [] ?_
        | (refine isA ?_; refine do_F rfl ?_)
        | (refine isL ?_; refine lex_F rfl (by kernel_rfl) rfl rfl ?_)
        | (refine isLg rfl ?_; refine lex_S rfl (by kernel_rfl) rfl rfl ?_)
        | refine aops_nil ?_
        | refine lex_done _ rfl (by kernel_rfl) ?_
        | refine aw_ct rfl ?_
        | refine aw_cf rfl ?_
        | refine aw_block ?_
        | refine then_n ?_
        | refine aw_skip ?_
        | refine aw_exit ?_
        | refine then_x ?_
        | refine then_r ?_
        | refine block_x ?_
        | refine block_n ?_
        | refine block_r ?_
        | refine aw_ret ?_
      refine aw_cond rfl (fun h' => ?_) (fun h' => ?_)
      · have h4 : i < 4000 := by have := of_decide_eq_true h'; simp only at this; omega
        repeat' first
          | refine aw_seq ?_
          | refine aw_region ?_
          | refine aw_lex [] ?_
          | (refine isA ?_; refine do_F rfl ?_)
          | (refine isL ?_; refine lex_F rfl (by kernel_rfl) rfl rfl ?_)
          | (refine isLg rfl ?_; refine lex_S rfl (by kernel_rfl) rfl rfl ?_)
          | (refine isAi ?_; refine do_R rfl (ia_l (t := u8T) (z := z) rfl rfl rfl rfl (Int.natCast_nonneg i) hz) rfl ?_)
          | (refine isLi rfl ?_; refine lex_R rfl (by kernel_rfl) rfl (ia_l (t := u8T) (z := z) rfl rfl rfl rfl (Int.natCast_nonneg i) hz) rfl ?_)
          | (refine isA ?_; refine do_R rfl (step_and rfl rfl rfl) rfl ?_)
          | refine aops_nil ?_
          | refine lex_done _ rfl (by kernel_rfl) ?_
          | refine aw_ct rfl ?_
          | refine aw_cf rfl ?_
          | refine aw_block ?_
          | refine then_n ?_
          | refine aw_skip ?_
          | refine aw_exit ?_
          | refine then_x ?_
          | refine then_r ?_
          | refine block_x ?_
          | refine block_n ?_
          | refine block_r ?_
          | refine aw_ret ?_
        refine ⟨⟨i + 1, by omega⟩, by simp only; omega, ?_⟩
        exact sub0 [] rfl rfl (by decide) .nil (by
          repeat' first
            | exact les_nil
            | refine les_cons ?_ ?_
            | exact le_any
            | exact le_refl rfl
            | exact le_i hlt (by omega)
            | exact le_k (congrArg _ es))
      · have h4 : ¬ i < 4000 := by have := of_decide_eq_false h'; simp only at this; omega
        repeat' first
          | refine aw_seq ?_
          | refine aw_region ?_
          | refine aw_lex [] ?_
          | (refine isA ?_; refine do_F rfl ?_)
          | (refine isL ?_; refine lex_F rfl (by kernel_rfl) rfl rfl ?_)
          | (refine isLg rfl ?_; refine lex_S rfl (by kernel_rfl) rfl rfl ?_)
          | exact (by rw [hdone (by omega)]; exact finM 0 [0] (fun i hi => absurd hi (Nat.not_lt_zero _)) (by decide) rfl (le_ptr rfl) (.cons rfl rfl rfl rfl (by repeat' first | exact les_nil | refine les_cons ?_ ?_ | exact le_any | exact le_refl rfl | exact le_sl rfl rfl | exact le_ptr rfl) .nil))
          | refine aops_nil ?_
          | refine lex_done _ rfl (by kernel_rfl) ?_
          | refine aw_ct rfl ?_
          | refine aw_cf rfl ?_
          | refine aw_block ?_
          | refine then_n ?_
          | refine aw_skip ?_
          | refine aw_exit ?_
          | refine then_x ?_
          | refine then_r ?_
          | refine block_x ?_
          | refine block_n ?_
          | refine block_r ?_
          | refine aw_ret ?_
    · have hge : ¬ i < xs.length := by simpa using h
      repeat' first
        | refine aw_seq ?_
        | refine aw_region ?_
        | refine aw_lex [] ?_
        | (refine isA ?_; refine do_F rfl ?_)
        | (refine isL ?_; refine lex_F rfl (by kernel_rfl) rfl rfl ?_)
        | (refine isLg rfl ?_; refine lex_S rfl (by kernel_rfl) rfl rfl ?_)
        | exact (by rw [hdone (by omega)]; exact finM 0 [0] (fun i hi => absurd hi (Nat.not_lt_zero _)) (by decide) rfl (le_ptr rfl) (.cons rfl rfl rfl rfl (by repeat' first | exact les_nil | refine les_cons ?_ ?_ | exact le_any | exact le_refl rfl | exact le_sl rfl rfl | exact le_ptr rfl) .nil))
        | refine aops_nil ?_
        | refine lex_done _ rfl (by kernel_rfl) ?_
        | refine aw_ct rfl ?_
        | refine aw_cf rfl ?_
        | refine aw_block ?_
        | refine then_n ?_
        | refine aw_skip ?_
        | refine aw_exit ?_
        | refine then_x ?_
        | refine then_r ?_
        | refine block_x ?_
        | refine block_n ?_
        | refine block_r ?_
        | refine aw_ret ?_
end Go.Proofs.Ytjlhfemfmkdlhaa.Ab
