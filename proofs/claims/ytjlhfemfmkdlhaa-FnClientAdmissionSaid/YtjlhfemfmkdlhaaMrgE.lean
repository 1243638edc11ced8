/- Texts DrwA, DrwB, DrwC, DrwD, DrwE, DrwF, DrwG, DrwO in one. -/
import Derived.Test.YtjlhfemfmkdlhaaAbW
import Derived.Test.YtjlhfemfmkdlhaaAbT
import Derived.Test.YtjlhfemfmkdlhaaAbX
import Derived.Test.YtjlhfemfmkdlhaaMrgA
import Derived.Test.YtjlhfemfmkdlhaaAbR
set_option linter.unusedVariables false
set_option linter.unusedSimpArgs false
set_option maxRecDepth 20000
set_option maxHeartbeats 4000000
/- DrwA -/
namespace Go.Proofs.Ytjlhfemfmkdlhaa.Ab
open Go.RowKit

def u8T : Ty Int := ⟨1, fun n => [.k (.int .u8 n)], fun _ => rfl, by decide, fun r c hc => by
  simp only [List.mem_cons, List.not_mem_nil, or_false] at hc
  subst hc
  exact ⟨rfl, rfl⟩⟩

structure Cur where
  code : List Int
  pos : Nat
  seed : Int

abbrev curR (c : Cur) : Reg := ⟨99, 3, [lstOf u8T c.code, I c.pos, I c.seed], 0⟩

def seedN (s : Int) : Int := IntKind.i64.wrap (IntKind.i64.wrap (s * 6364136223846793005) + 1442695040888963407)
def val0 (s : Int) : Int := bAnd .i64 (bXor .i64 (bShr .i64 (seedN s) 33) (bShr .i64 (seedN s) 45)) 255
def byteV (c : Cur) : Int := match c.code[c.pos]? with
  | some b => bAnd .i64 (IntKind.i64.wrap (val0 c.seed + IntKind.i64.wrap b)) 255
  | none => val0 c.seed
def byteC (c : Cur) : Cur := ⟨c.code, match c.code[c.pos]? with | some _ => c.pos + 1 | none => c.pos, seedN c.seed⟩

theorem byteV_range (c : Cur) : 0 ≤ byteV c ∧ byteV c ≤ 255 := by
  unfold byteV
  split
  · exact and_byte _
  · exact and_byte _

theorem c_byte (c : Cur) (hl : c.code.length ≤ 1000000000) : Meets Go.Proofs.Try.prog 98 [.ptr 0 0] [curR c] (I (byteV c)) [curR (byteC c)] true := by
  refine meets_of [2] Go.Proofs.Try.func98 rfl rfl ?_
  simp only [Go.Proofs.Try.ntmps98, List.length_cons, List.length_nil, Nat.reduceAdd, Nat.reduceSub, List.replicate_succ, List.replicate_zero, List.cons_append, List.nil_append]
  repeat' first
    | refine aw_seq ?_
    | refine aw_region ?_
    | refine aw_lex [] ?_
    | (refine isA ?_; refine do_F rfl ?_)
    | (refine isL ?_; refine lex_F rfl (by kernel_rfl) rfl rfl ?_)
    | (refine isLg rfl ?_; refine lex_S rfl (by kernel_rfl) rfl rfl ?_)
    | (refine isL ?_; refine lex_R rfl (by kernel_rfl) rfl (step_shr (n := 33) rfl rfl rfl) rfl ?_)
    | (refine isL ?_; refine lex_R rfl (by kernel_rfl) rfl (step_shr (n := 45) rfl rfl rfl) rfl ?_)
    | (refine isL ?_; refine lex_R rfl (by kernel_rfl) rfl (step_xor rfl rfl rfl) rfl ?_)
    | (refine isL ?_; refine lex_R rfl (by kernel_rfl) rfl (step_and rfl rfl rfl) rfl ?_)
    | refine aops_nil ?_
    | refine lex_done _ rfl (by kernel_rfl) ?_
    | refine aw_ct rfl ?_
    | refine aw_cf rfl ?_
    | refine aw_block ?_
    | refine then_n ?_
    | refine aw_skip ?_
    | refine aw_exit ?_
    | refine then_x ?_
    | refine then_r ?_
    | refine block_x ?_
    | refine block_n ?_
    | refine block_r ?_
    | refine aw_ret ?_
  refine aw_cond rfl (fun h => ?_) (fun h => ?_)
  · have hlt : c.pos < c.code.length := by have := of_decide_eq_true h; omega
    obtain ⟨z, hz⟩ : ∃ z, c.code[c.pos]? = some z := ⟨_, List.getElem?_eq_getElem hlt⟩
    have e1 : byteV c = bAnd .i64 (IntKind.i64.wrap (val0 c.seed + IntKind.i64.wrap z)) 255 := by rw [byteV, hz]
    have e2 : byteC c = ⟨c.code, c.pos + 1, seedN c.seed⟩ := by rw [byteC, hz]
    repeat' first
      | refine aw_seq ?_
      | refine aw_region ?_
      | refine aw_lex [] ?_
      | (refine isA ?_; refine do_F rfl ?_)
      | (refine isL ?_; refine lex_F rfl (by kernel_rfl) rfl rfl ?_)
      | (refine isLg rfl ?_; refine lex_S rfl (by kernel_rfl) rfl rfl ?_)
      | (refine isAi ?_; refine do_R rfl (ia_l (t := u8T) (z := z) rfl rfl rfl rfl (Int.natCast_nonneg c.pos) hz) rfl ?_)
      | (refine isLi rfl ?_; refine lex_R rfl (by kernel_rfl) rfl (ia_l (t := u8T) (z := z) rfl rfl rfl rfl (Int.natCast_nonneg c.pos) hz) rfl ?_)
      | (refine isL ?_; refine lex_R rfl (by kernel_rfl) rfl (step_and rfl rfl rfl) rfl ?_)
      | exact (by rw [e1, e2]; exact finM 1 [0] fix1 (by decide) rfl (le_refl rfl) (.cons rfl rfl rfl rfl (les_cons (le_refl rfl) (les_cons (le_i hlt (by omega)) (les_cons (le_refl rfl) les_nil))) .nil))
      | refine aops_nil ?_
      | refine lex_done _ rfl (by kernel_rfl) ?_
      | refine aw_ct rfl ?_
      | refine aw_cf rfl ?_
      | refine aw_block ?_
      | refine then_n ?_
      | refine aw_skip ?_
      | refine aw_exit ?_
      | refine then_x ?_
      | refine then_r ?_
      | refine block_x ?_
      | refine block_n ?_
      | refine block_r ?_
      | refine aw_ret ?_
  · have hge : c.code.length ≤ c.pos := by have := of_decide_eq_false h; omega
    have hz : c.code[c.pos]? = none := List.getElem?_eq_none hge
    have e1 : byteV c = val0 c.seed := by rw [byteV, hz]
    have e2 : byteC c = ⟨c.code, c.pos, seedN c.seed⟩ := by rw [byteC, hz]
    repeat' first
      | refine aw_seq ?_
      | refine aw_region ?_
      | refine aw_lex [] ?_
      | (refine isA ?_; refine do_F rfl ?_)
      | (refine isL ?_; refine lex_F rfl (by kernel_rfl) rfl rfl ?_)
      | (refine isLg rfl ?_; refine lex_S rfl (by kernel_rfl) rfl rfl ?_)
      | exact (by rw [e1, e2]; exact finM 1 [0] fix1 (by decide) rfl (le_refl rfl) (.cons rfl rfl rfl rfl (by repeat' first | exact les_nil | refine les_cons ?_ ?_ | exact le_any | exact le_refl rfl | exact le_sl rfl rfl | exact le_ptr rfl) .nil))
      | refine aops_nil ?_
      | refine lex_done _ rfl (by kernel_rfl) ?_
      | refine aw_ct rfl ?_
      | refine aw_cf rfl ?_
      | refine aw_block ?_
      | refine then_n ?_
      | refine aw_skip ?_
      | refine aw_exit ?_
      | refine then_x ?_
      | refine then_r ?_
      | refine block_x ?_
      | refine block_n ?_
      | refine block_r ?_
      | refine aw_ret ?_
end Go.Proofs.Ytjlhfemfmkdlhaa.Ab

/- DrwB -/
namespace Go.Proofs.Ytjlhfemfmkdlhaa.Ab
open Go.RowKit

theorem byteC_code (c : Cur) : (byteC c).code = c.code := rfl
theorem curR_noH (c : Cur) : NoH (curR c).cells := noHs_mem rfl

def four (a b c d : Int) : Int := IntKind.i64.wrap (IntKind.i64.wrap (IntKind.i64.wrap (IntKind.i64.wrap (a * 16777216) + IntKind.i64.wrap (b * 65536)) + IntKind.i64.wrap (c * 256)) + d)
theorem four_pos {a b c d : Int} (ha : 0 ≤ a ∧ a ≤ 255) (hb : 0 ≤ b ∧ b ≤ 255) (hc : 0 ≤ c ∧ c ≤ 255) (hd : 0 ≤ d ∧ d ≤ 255) : 0 ≤ four a b c d := by
  have e1 : IntKind.i64.wrap (a * 16777216) = a * 16777216 := by rw [IntKind.wrap_i64]; omega
  have e2 : IntKind.i64.wrap (b * 65536) = b * 65536 := by rw [IntKind.wrap_i64]; omega
  have e3 : IntKind.i64.wrap (c * 256) = c * 256 := by rw [IntKind.wrap_i64]; omega
  have e4 : IntKind.i64.wrap (a * 16777216 + b * 65536) = a * 16777216 + b * 65536 := by rw [IntKind.wrap_i64]; omega
  have e5 : IntKind.i64.wrap (a * 16777216 + b * 65536 + c * 256) = a * 16777216 + b * 65536 + c * 256 := by rw [IntKind.wrap_i64]; omega
  have e6 : IntKind.i64.wrap (a * 16777216 + b * 65536 + c * 256 + d) = a * 16777216 + b * 65536 + c * 256 + d := by rw [IntKind.wrap_i64]; omega
  rw [four, e1, e2, e4, e3, e5, e6]
  omega

def beV (n : Int) (c : Cur) : Int := cond (decide (n ≤ 0)) 0 (cond (decide (n ≤ 256)) ((byteV c).tmod n) ((four (byteV c) (byteV (byteC c)) (byteV (byteC (byteC c))) (byteV (byteC (byteC (byteC c))))).tmod n))
def beC (n : Int) (c : Cur) : Cur := cond (decide (n ≤ 0)) c (cond (decide (n ≤ 256)) (byteC c) (byteC (byteC (byteC (byteC c)))))
theorem beC_code (n : Int) (c : Cur) : (beC n c).code = c.code := by
  unfold beC
  cases decide (n ≤ 0) <;> cases decide (n ≤ 256) <;> rfl
theorem beV_range {n : Int} (h : 0 < n) (c : Cur) : 0 ≤ beV n c ∧ beV n c < n := by
  have h0 : decide (n ≤ 0) = false := decide_eq_false (by omega)
  unfold beV
  rw [h0, cond_false]
  cases decide (n ≤ 256) with
  | true => exact ⟨Int.tmod_nonneg _ (byteV_range c).1, Int.tmod_lt_of_pos _ h⟩
  | false => exact ⟨Int.tmod_nonneg _ (four_pos (byteV_range _) (byteV_range _) (byteV_range _) (byteV_range _)), Int.tmod_lt_of_pos _ h⟩

theorem c_below (n : Int) (c : Cur) (hl : c.code.length ≤ 1000000000) : Meets Go.Proofs.Try.prog 90 [.ptr 0 0, I n] [curR c] (I (beV n c)) [curR (beC n c)] true := by
  refine meets_of [4] Go.Proofs.Try.func90 rfl rfl ?_
  simp only [Go.Proofs.Try.ntmps90, List.length_cons, List.length_nil, Nat.reduceAdd, Nat.reduceSub, List.replicate_succ, List.replicate_zero, List.cons_append, List.nil_append]
  repeat' first
    | refine aw_seq ?_
    | refine aw_region ?_
    | refine aw_lex [] ?_
    | (refine isA ?_; refine do_F rfl ?_)
    | (refine isL ?_; refine lex_F rfl (by kernel_rfl) rfl rfl ?_)
    | (refine isLg rfl ?_; refine lex_S rfl (by kernel_rfl) rfl rfl ?_)
    | refine aops_nil ?_
    | refine lex_done _ rfl (by kernel_rfl) ?_
    | refine aw_ct rfl ?_
    | refine aw_cf rfl ?_
    | refine aw_block ?_
    | refine then_n ?_
    | refine aw_skip ?_
    | refine aw_exit ?_
    | refine then_x ?_
    | refine then_r ?_
    | refine block_x ?_
    | refine block_n ?_
    | refine block_r ?_
    | refine aw_ret ?_
  refine aw_cond rfl (fun h => ?_) (fun h => ?_)
  · repeat' first
      | refine aw_seq ?_
      | refine aw_region ?_
      | refine aw_lex [] ?_
      | (refine isA ?_; refine do_F rfl ?_)
      | (refine isL ?_; refine lex_F rfl (by kernel_rfl) rfl rfl ?_)
      | (refine isLg rfl ?_; refine lex_S rfl (by kernel_rfl) rfl rfl ?_)
      | exact (by rw [beV, beC, h]; exact finM 1 [0] fix1 (by decide) rfl (le_refl rfl) (.cons rfl rfl rfl rfl (les_refl (curR_noH c)) .nil))
      | refine aops_nil ?_
      | refine lex_done _ rfl (by kernel_rfl) ?_
      | refine aw_ct rfl ?_
      | refine aw_cf rfl ?_
      | refine aw_block ?_
      | refine then_n ?_
      | refine aw_skip ?_
      | refine aw_exit ?_
      | refine then_x ?_
      | refine then_r ?_
      | refine block_x ?_
      | refine block_n ?_
      | refine block_r ?_
      | refine aw_ret ?_
  · have hn : n ≠ 0 := by have := of_decide_eq_false h; omega
    repeat' first
      | refine aw_seq ?_
      | refine aw_region ?_
      | refine aw_lex [] ?_
      | (refine isA ?_; refine do_F rfl ?_)
      | (refine isL ?_; refine lex_F rfl (by kernel_rfl) rfl rfl ?_)
      | (refine isLg rfl ?_; refine lex_S rfl (by kernel_rfl) rfl rfl ?_)
      | refine aops_nil ?_
      | refine lex_done _ rfl (by kernel_rfl) ?_
      | refine aw_ct rfl ?_
      | refine aw_cf rfl ?_
      | refine aw_block ?_
      | refine then_n ?_
      | refine aw_skip ?_
      | refine aw_exit ?_
      | refine then_x ?_
      | refine then_r ?_
      | refine block_x ?_
      | refine block_n ?_
      | refine block_r ?_
      | refine aw_ret ?_
    refine aw_cond rfl (fun h' => ?_) (fun h' => ?_)
    · repeat' first
        | refine aw_seq ?_
        | refine aw_region ?_
        | refine aw_lex [] ?_
        | (refine isA ?_; refine do_F rfl ?_)
        | (refine isL ?_; refine lex_F rfl (by kernel_rfl) rfl rfl ?_)
        | (refine isLg rfl ?_; refine lex_S rfl (by kernel_rfl) rfl rfl ?_)
        | (refine isAc 98 ?_; refine do_R rfl (step_callMs (K := []) (Rs' := [_]) [0] (by decide) rfl (c_byte c hl) (.cons rfl rfl rfl (curR_noH _) (curR_noH _) .nil) (.cons (.ptr rfl) .nil) (fun q hq => by cases hq) rfl) rfl ?_)
        | (refine isLc 98 rfl ?_; refine lex_R rfl (by kernel_rfl) rfl (step_callMs (K := []) (Rs' := [_]) [0] (by decide) rfl (c_byte c hl) (.cons rfl rfl rfl (curR_noH _) (curR_noH _) .nil) (.cons (.ptr rfl) .nil) (fun q hq => by cases hq) rfl) rfl ?_)
        | (refine isA ?_; refine do_R rfl (step_rem rfl rfl rfl hn) rfl ?_)
        | exact (by rw [beV, beC, h, h']; exact finM 1 [0] fix1 (by decide) rfl (le_refl rfl) (.cons rfl rfl rfl rfl (les_refl (curR_noH (byteC c))) .nil))
        | refine aops_nil ?_
        | refine lex_done _ rfl (by kernel_rfl) ?_
        | refine aw_ct rfl ?_
        | refine aw_cf rfl ?_
        | refine aw_block ?_
        | refine then_n ?_
        | refine aw_skip ?_
        | refine aw_exit ?_
        | refine then_x ?_
        | refine then_r ?_
        | refine block_x ?_
        | refine block_n ?_
        | refine block_r ?_
        | refine aw_ret ?_
    · repeat' first
        | refine aw_seq ?_
        | refine aw_region ?_
        | refine aw_lex [] ?_
        | (refine isA ?_; refine do_F rfl ?_)
        | (refine isL ?_; refine lex_F rfl (by kernel_rfl) rfl rfl ?_)
        | (refine isLg rfl ?_; refine lex_S rfl (by kernel_rfl) rfl rfl ?_)
        | (refine isAc 98 (x := #[.tmp 17]) ?_; refine do_R rfl (step_callMs (K := []) (Rs' := [_]) [0] (by decide) rfl (c_byte c hl) (.cons rfl rfl rfl (curR_noH _) (curR_noH _) .nil) (.cons (.ptr rfl) .nil) (fun q hq => by cases hq) rfl) rfl ?_)
        | (refine isAc 98 (x := #[.tmp 19]) ?_; refine do_R rfl (step_callMs (K := []) (Rs' := [_]) [0] (by decide) rfl (c_byte (byteC c) hl) (.cons rfl rfl rfl (curR_noH _) (curR_noH _) .nil) (.cons (.ptr rfl) .nil) (fun q hq => by cases hq) rfl) rfl ?_)
        | (refine isAc 98 (x := #[.tmp 21]) ?_; refine do_R rfl (step_callMs (K := []) (Rs' := [_]) [0] (by decide) rfl (c_byte (byteC (byteC c)) hl) (.cons rfl rfl rfl (curR_noH _) (curR_noH _) .nil) (.cons (.ptr rfl) .nil) (fun q hq => by cases hq) rfl) rfl ?_)
        | (refine isAc 98 (x := #[.tmp 23]) ?_; refine do_R rfl (step_callMs (K := []) (Rs' := [_]) [0] (by decide) rfl (c_byte (byteC (byteC (byteC c))) hl) (.cons rfl rfl rfl (curR_noH _) (curR_noH _) .nil) (.cons (.ptr rfl) .nil) (fun q hq => by cases hq) rfl) rfl ?_)
        | (refine isA ?_; refine do_R rfl (step_rem rfl rfl rfl hn) rfl ?_)
        | exact (by rw [beV, beC, h, h']; exact finM 1 [0] fix1 (by decide) rfl (le_refl rfl) (.cons rfl rfl rfl rfl (les_refl (curR_noH (byteC (byteC (byteC (byteC c)))))) .nil))
        | refine aops_nil ?_
        | refine lex_done _ rfl (by kernel_rfl) ?_
        | refine aw_ct rfl ?_
        | refine aw_cf rfl ?_
        | refine aw_block ?_
        | refine then_n ?_
        | refine aw_skip ?_
        | refine aw_exit ?_
        | refine then_x ?_
        | refine then_r ?_
        | refine block_x ?_
        | refine block_n ?_
        | refine block_r ?_
        | refine aw_ret ?_

theorem c_once (n : Int) (c : Cur) (hl : c.code.length ≤ 1000000000) : Meets Go.Proofs.Try.prog 89 [.ptr 0 0, I n] [curR c] (B (decide (beV n c = 0))) [curR (beC n c)] true := by
  refine meets_of [4] Go.Proofs.Try.func89 rfl rfl ?_
  simp only [Go.Proofs.Try.ntmps89, List.length_cons, List.length_nil, Nat.reduceAdd, Nat.reduceSub, List.replicate_succ, List.replicate_zero, List.cons_append, List.nil_append]
  repeat' first
    | refine aw_seq ?_
    | refine aw_region ?_
    | refine aw_lex [] ?_
    | (refine isA ?_; refine do_F rfl ?_)
    | (refine isL ?_; refine lex_F rfl (by kernel_rfl) rfl rfl ?_)
    | (refine isLg rfl ?_; refine lex_S rfl (by kernel_rfl) rfl rfl ?_)
    | (refine isAc 90 ?_; refine do_R rfl (step_callMs (K := []) (Rs' := [_]) [0] (by decide) rfl (c_below n c hl) (.cons rfl rfl rfl (curR_noH _) (curR_noH _) .nil) (.cons (.ptr rfl) (.cons (.same rfl) .nil)) (fun q hq => by cases hq) rfl) rfl ?_)
    | (refine isLc 90 rfl ?_; refine lex_R rfl (by kernel_rfl) rfl (step_callMs (K := []) (Rs' := [_]) [0] (by decide) rfl (c_below n c hl) (.cons rfl rfl rfl (curR_noH _) (curR_noH _) .nil) (.cons (.ptr rfl) (.cons (.same rfl) .nil)) (fun q hq => by cases hq) rfl) rfl ?_)
    | exact finM 1 [0] fix1 (by decide) rfl (le_refl rfl) (.cons rfl rfl rfl rfl (les_refl (curR_noH _)) .nil)
    | refine aops_nil ?_
    | refine lex_done _ rfl (by kernel_rfl) ?_
    | refine aw_ct rfl ?_
    | refine aw_cf rfl ?_
    | refine aw_block ?_
    | refine then_n ?_
    | refine aw_skip ?_
    | refine aw_exit ?_
    | refine then_x ?_
    | refine then_r ?_
    | refine block_x ?_
    | refine block_n ?_
    | refine block_r ?_
    | refine aw_ret ?_

theorem ld_at {P : Program} {o : Oper} {ρ : Operand → V} {H : List Reg} {t i : Nat} {x : Operand} {cs : List V} {v : V} [ht : Sc P t] (ho : o.op = .load t x) (hx : ρ x = .pref (cs.drop i)) (hz : cs[i]? = some v) : Step P o ρ H v H := by
  have hlt := (List.getElem?_eq_some_iff.1 hz).1
  rw [List.drop_eq_getElem_cons hlt] at hx
  have hv : cs[i] = v := by rw [List.getElem?_eq_getElem hlt] at hz; exact Option.some.inj hz
  rw [hv] at hx
  exact step_load_pref ho hx

theorem c_pick (xs : List V) (n : Nat) (z : Int) (c : Cur) (hl : c.code.length ≤ 1000000000) (h0 : 0 < n) (hz : xs[(beV n c).toNat]? = some (I z)) : Meets Go.Proofs.Try.prog 88 [.ptr 0 0, .lst n xs] [curR c] (I z) [curR (beC n c)] true := by
  obtain ⟨r0, r1⟩ := beV_range (n := n) (by omega) c
  refine meets_of [4] Go.Proofs.Try.func88 rfl rfl ?_
  simp only [Go.Proofs.Try.ntmps88, List.length_cons, List.length_nil, Nat.reduceAdd, Nat.reduceSub, List.replicate_succ, List.replicate_zero, List.cons_append, List.nil_append]
  repeat' first
    | refine aw_seq ?_
    | refine aw_region ?_
    | refine aw_lex [] ?_
    | (refine isA ?_; refine do_F rfl ?_)
    | (refine isL ?_; refine lex_F rfl (by kernel_rfl) rfl rfl ?_)
    | (refine isLg rfl ?_; refine lex_S rfl (by kernel_rfl) rfl rfl ?_)
    | (refine isAc 90 ?_; refine do_R rfl (step_callMs (K := []) (Rs' := [_]) [0] (by decide) rfl (c_below n c hl) (.cons rfl rfl rfl (curR_noH _) (curR_noH _) .nil) (.cons (.ptr rfl) (.cons (.same rfl) .nil)) (fun q hq => by cases hq) rfl) rfl ?_)
    | (refine isLc 90 rfl ?_; refine lex_R rfl (by kernel_rfl) rfl (step_callMs (K := []) (Rs' := [_]) [0] (by decide) rfl (c_below n c hl) (.cons rfl rfl rfl (curR_noH _) (curR_noH _) .nil) (.cons (.ptr rfl) (.cons (.same rfl) .nil)) (fun q hq => by cases hq) rfl) rfl ?_)
    | (refine isAi ?_; refine do_R rfl (step_ia_lst rfl rfl rfl r0 r1) rfl ?_)
    | (refine isLi rfl ?_; refine lex_R rfl (by kernel_rfl) rfl (step_ia_lst rfl rfl rfl r0 r1) rfl ?_)
    | (refine isAl ?_; refine do_R rfl (ld_at rfl rfl (by rw [Nat.mul_one]; exact hz)) rfl ?_)
    | exact finM 1 [0] fix1 (by decide) rfl (le_refl rfl) (.cons rfl rfl rfl rfl (les_refl (curR_noH _)) .nil)
    | refine aops_nil ?_
    | refine lex_done _ rfl (by kernel_rfl) ?_
    | refine aw_ct rfl ?_
    | refine aw_cf rfl ?_
    | refine aw_block ?_
    | refine then_n ?_
    | refine aw_skip ?_
    | refine aw_exit ?_
    | refine then_x ?_
    | refine then_r ?_
    | refine block_x ?_
    | refine block_n ?_
    | refine block_r ?_
    | refine aw_ret ?_

/-! ### A new cursor -/
def newS (xs : List Int) : Nat → Int
  | 0 => IntKind.i64.wrap (10101 + xs.length)
  | i + 1 => match xs[i]? with
    | some b => bAnd .i64 (IntKind.i64.wrap (IntKind.i64.wrap (IntKind.i64.wrap (newS xs i * 131) + IntKind.i64.wrap b) + 7)) 1073741823
    | none => newS xs i
def newC (xs : List Int) : Cur := ⟨xs, 0, newS xs (min xs.length 4000)⟩

theorem c_new (xs : List Int) (hl : xs.length ≤ 1000000000) : Meets Go.Proofs.Try.prog 83 [lstOf u8T xs] [] (.ptr 0 0) [curR (newC xs)] true := by
  refine meets_of [2] Go.Proofs.Try.func83 rfl rfl ?_
  simp only [Go.Proofs.Try.ntmps83, List.length_cons, List.length_nil, Nat.reduceAdd, Nat.reduceSub, List.replicate_succ, List.replicate_zero, List.cons_append, List.nil_append]
  repeat' first
    | refine aw_seq ?_
    | refine aw_region ?_
    | refine aw_lex [] ?_
    | (refine isA ?_; refine do_F rfl ?_)
    | (refine isL ?_; refine lex_F rfl (by kernel_rfl) rfl rfl ?_)
    | (refine isLg rfl ?_; refine lex_S rfl (by kernel_rfl) rfl rfl ?_)
    | refine aops_nil ?_
    | refine lex_done _ rfl (by kernel_rfl) ?_
    | refine aw_ct rfl ?_
    | refine aw_cf rfl ?_
    | refine aw_block ?_
    | refine then_n ?_
    | refine aw_skip ?_
    | refine aw_exit ?_
    | refine then_x ?_
    | refine then_r ?_
    | refine block_x ?_
    | refine block_n ?_
    | refine block_r ?_
    | refine aw_ret ?_
  refine aw_loop (α := { i : Nat // i ≤ min xs.length 4000 }) (fun i => ⟨[lstOf u8T xs, .any, .any, I (newS xs i.1), I i.1, .any, .any, .any, .any, .any, .any, .any, .any, .any, .any, .any, .any, .any, .any, .any, .any, .any, .any, .any, .any, .any, .any, .any, .any, .any, .any, .any], [], 0⟩) (fun i => xs.length - i.1) ⟨0, Nat.zero_le _⟩ ?_ ?_
  · exact sub0 [] rfl rfl (by decide) .nil (by repeat' first | exact les_nil | refine les_cons ?_ ?_ | exact le_any | exact le_refl rfl | exact le_sl rfl rfl | exact le_ptr rfl)
  · rintro ⟨i, hi⟩
    have hdone : i = min xs.length 4000 → newC xs = ⟨xs, 0, newS xs i⟩ := fun e => by rw [newC, e]
    repeat' first
      | refine aw_seq ?_
      | refine aw_region ?_
      | refine aw_lex [] ?_
      | (refine isA ?_; refine do_F rfl ?_)
      | (refine isL ?_; refine lex_F rfl (by kernel_rfl) rfl rfl ?_)
      | (refine isLg rfl ?_; refine lex_S rfl (by kernel_rfl) rfl rfl ?_)
      | refine aops_nil ?_
      | refine lex_done _ rfl (by kernel_rfl) ?_
      | refine aw_ct rfl ?_
      | refine aw_cf rfl ?_
      | refine aw_block ?_
      | refine then_n ?_
      | refine aw_skip ?_
      | refine aw_exit ?_
      | refine then_x ?_
      | refine then_r ?_
      | refine block_x ?_
      | refine block_n ?_
      | refine block_r ?_
      | refine aw_ret ?_
    refine do_br rfl rfl (fun h => ?_) (fun h => ?_)
    · have hlt : i < xs.length := by simpa using h
      obtain ⟨z, hz⟩ : ∃ z, xs[i]? = some z := ⟨_, List.getElem?_eq_getElem hlt⟩
      have es : newS xs (i + 1) = bAnd .i64 (IntKind.i64.wrap (IntKind.i64.wrap (IntKind.i64.wrap (newS xs i * 131) + IntKind.i64.wrap z) + 7)) 1073741823 := by rw [newS, hz]
      repeat' first
        | refine aw_seq ?_
        | refine aw_region ?_
        | refine aw_lex [] ?_
        | (refine isA ?_; refine do_F rfl ?_)
        | (refine isL ?_; refine lex_F rfl (by kernel_rfl) rfl rfl ?_)
        | (refine isLg rfl ?_; refine lex_S rfl (by kernel_rfl) rfl rfl ?_)
        | refine aops_nil ?_
        | refine lex_done _ rfl (by kernel_rfl) ?_
        | refine aw_ct rfl ?_
        | refine aw_cf rfl ?_
        | refine aw_block ?_
        | refine then_n ?_
        | refine aw_skip ?_
        | refine aw_exit ?_
        | refine then_x ?_
        | refine then_r ?_
        | refine block_x ?_
        | refine block_n ?_
        | refine block_r ?_
        | refine aw_ret ?_
      refine aw_cond rfl (fun h' => ?_) (fun h' => ?_)
      · have h4 : i < 4000 := by have := of_decide_eq_true h'; simp only at this; omega
        repeat' first
          | refine aw_seq ?_
          | refine aw_region ?_
          | refine aw_lex [] ?_
          | (refine isA ?_; refine do_F rfl ?_)
          | (refine isL ?_; refine lex_F rfl (by kernel_rfl) rfl rfl ?_)
          | (refine isLg rfl ?_; refine lex_S rfl (by kernel_rfl) rfl rfl ?_)
          | (refine isAi ?_; refine do_R rfl (ia_l (t := u8T) (z := z) rfl rfl rfl rfl (Int.natCast_nonneg i) hz) rfl ?_)
          | (refine isLi rfl ?_; refine lex_R rfl (by kernel_rfl) rfl (ia_l (t := u8T) (z := z) rfl rfl rfl rfl (Int.natCast_nonneg i) hz) rfl ?_)
          | (refine isA ?_; refine do_R rfl (step_and rfl rfl rfl) rfl ?_)
          | refine aops_nil ?_
          | refine lex_done _ rfl (by kernel_rfl) ?_
          | refine aw_ct rfl ?_
          | refine aw_cf rfl ?_
          | refine aw_block ?_
          | refine then_n ?_
          | refine aw_skip ?_
          | refine aw_exit ?_
          | refine then_x ?_
          | refine then_r ?_
          | refine block_x ?_
          | refine block_n ?_
          | refine block_r ?_
          | refine aw_ret ?_
        refine ⟨⟨i + 1, by omega⟩, by simp only; omega, ?_⟩
        exact sub0 [] rfl rfl (by decide) .nil (by
          repeat' first
            | exact les_nil
            | refine les_cons ?_ ?_
            | exact le_any
            | exact le_refl rfl
            | exact le_i hlt (by omega)
            | exact le_k (congrArg _ es))
      · have h4 : ¬ i < 4000 := by have := of_decide_eq_false h'; simp only at this; omega
        repeat' first
          | refine aw_seq ?_
          | refine aw_region ?_
          | refine aw_lex [] ?_
          | (refine isA ?_; refine do_F rfl ?_)
          | (refine isL ?_; refine lex_F rfl (by kernel_rfl) rfl rfl ?_)
          | (refine isLg rfl ?_; refine lex_S rfl (by kernel_rfl) rfl rfl ?_)
          | exact (by rw [hdone (by omega)]; exact finM 0 [0] (fun i hi => absurd hi (Nat.not_lt_zero _)) (by decide) rfl (le_ptr rfl) (.cons rfl rfl rfl rfl (by repeat' first | exact les_nil | refine les_cons ?_ ?_ | exact le_any | exact le_refl rfl | exact le_sl rfl rfl | exact le_ptr rfl) .nil))
          | refine aops_nil ?_
          | refine lex_done _ rfl (by kernel_rfl) ?_
          | refine aw_ct rfl ?_
          | refine aw_cf rfl ?_
          | refine aw_block ?_
          | refine then_n ?_
          | refine aw_skip ?_
          | refine aw_exit ?_
          | refine then_x ?_
          | refine then_r ?_
          | refine block_x ?_
          | refine block_n ?_
          | refine block_r ?_
          | refine aw_ret ?_
    · have hge : ¬ i < xs.length := by simpa using h
      repeat' first
        | refine aw_seq ?_
        | refine aw_region ?_
        | refine aw_lex [] ?_
        | (refine isA ?_; refine do_F rfl ?_)
        | (refine isL ?_; refine lex_F rfl (by kernel_rfl) rfl rfl ?_)
        | (refine isLg rfl ?_; refine lex_S rfl (by kernel_rfl) rfl rfl ?_)
        | exact (by rw [hdone (by omega)]; exact finM 0 [0] (fun i hi => absurd hi (Nat.not_lt_zero _)) (by decide) rfl (le_ptr rfl) (.cons rfl rfl rfl rfl (by repeat' first | exact les_nil | refine les_cons ?_ ?_ | exact le_any | exact le_refl rfl | exact le_sl rfl rfl | exact le_ptr rfl) .nil))
        | refine aops_nil ?_
        | refine lex_done _ rfl (by kernel_rfl) ?_
        | refine aw_ct rfl ?_
        | refine aw_cf rfl ?_
        | refine aw_block ?_
        | refine then_n ?_
        | refine aw_skip ?_
        | refine aw_exit ?_
        | refine then_x ?_
        | refine then_r ?_
        | refine block_x ?_
        | refine block_n ?_
        | refine block_r ?_
        | refine aw_ret ?_
end Go.Proofs.Ytjlhfemfmkdlhaa.Ab

/- DrwC -/
namespace Go.Proofs.Ytjlhfemfmkdlhaa.Ab
open Go.RowKit

structure Ac where
  u : Int
  g : Int
  p : Int
  s : Int
def acE (a : Ac) : List V := [I a.u, I a.g, I a.p, I a.s]
def validA (a : Ac) : Bool := inV a.g 8 60 && (inV a.u 0 a.p && (inV a.p 0 60 && inV a.s 0 1000))

theorem c_svalA (a : Ac) : Meets Go.Proofs.Try.prog 53 [.agg (acE a)] [] (B (validA a)) [] false := by
  refine meets_of [2] Go.Proofs.Try.func53 rfl rfl ?_
  simp only [Go.Proofs.Try.ntmps53, List.length_cons, List.length_nil, Nat.reduceAdd, Nat.reduceSub, List.replicate_succ, List.replicate_zero, List.cons_append, List.nil_append]
  repeat' first
    | refine aw_seq ?_
    | refine aw_region ?_
    | refine aw_lex [] ?_
    | (refine isA ?_; refine do_F rfl ?_)
    | (refine isL ?_; refine lex_F rfl (by kernel_rfl) rfl rfl ?_)
    | (refine isLg rfl ?_; refine lex_S rfl (by kernel_rfl) rfl rfl ?_)
    | (refine isAc 65 ?_; refine do_R rfl (st_call rfl (c_in _ _ _) (.cons (.same rfl) (.cons (.same rfl) (.cons (.same rfl) .nil))) rfl) rfl ?_)
    | (refine isLc 65 rfl ?_; refine lex_R rfl (by kernel_rfl) rfl (st_call rfl (c_in _ _ _) (.cons (.same rfl) (.cons (.same rfl) (.cons (.same rfl) .nil))) rfl) rfl ?_)
    | exact fin1 rfl rfl (by first | ((try simp only [Bool.not_eq_true', Bool.not_eq_false'] at *); simp only [validA, *, Bool.true_and, Bool.false_and, Bool.and_true, Bool.and_false, Bool.true_or, Bool.false_or, Bool.or_true, Bool.or_false, Bool.not_true, Bool.not_false, cond_true, cond_false]; done) | (simp_all [validA]; done) | (simp_all [validA]; intros; omega))
    | refine aops_nil ?_
    | refine lex_done _ rfl (by kernel_rfl) ?_
    | refine aw_ct rfl ?_
    | refine aw_cf rfl ?_
    | refine aw_block ?_
    | refine then_n ?_
    | refine aw_skip ?_
    | refine aw_exit ?_
    | refine then_x ?_
    | refine then_r ?_
    | refine block_x ?_
    | refine block_n ?_
    | refine block_r ?_
    | refine aw_ret ?_
    | (refine isAg ?_; refine do_br rfl rfl (fun hbr => ?_) (fun hbr => ?_) <;> (fail_if_success (with_reducible (have hx : true = true := hbr))) <;> (fail_if_success (with_reducible (have hx : false = false := hbr))))
    | (refine isLg rfl ?_; refine lex_br rfl rfl rfl rfl (fun hbr => ?_) (fun hbr => ?_) <;> (fail_if_success (with_reducible (have hx : true = true := hbr))) <;> (fail_if_success (with_reducible (have hx : false = false := hbr))))

def validI (a : Ac) : Bool := inV a.g 8 60 && (decide (0 ≤ a.u) && (decide (a.u ≤ a.p) && (decide (a.p ≤ 60) && inV a.s 0 1000)))
theorem validI_eq (a : Ac) : validI a = validA a := by
  rw [Bool.eq_iff_iff]
  simp only [validI, validA, inV, Bool.and_eq_true, decide_eq_true_eq]
  omega
theorem c_ivalA (a : Ac) : Meets Go.Proofs.Try.prog 52 [.agg (acE a)] [] (B (validA a)) [] false := by
  rw [← validI_eq]
  refine meets_of [2] Go.Proofs.Try.func52 rfl rfl ?_
  simp only [Go.Proofs.Try.ntmps52, List.length_cons, List.length_nil, Nat.reduceAdd, Nat.reduceSub, List.replicate_succ, List.replicate_zero, List.cons_append, List.nil_append]
  repeat' first
    | refine aw_seq ?_
    | refine aw_region ?_
    | refine aw_lex [] ?_
    | (refine isA ?_; refine do_F rfl ?_)
    | (refine isL ?_; refine lex_F rfl (by kernel_rfl) rfl rfl ?_)
    | (refine isLg rfl ?_; refine lex_S rfl (by kernel_rfl) rfl rfl ?_)
    | (refine isAc 81 ?_; refine do_R rfl (st_call rfl (c_isGrant _) (.cons (.same rfl) .nil) rfl) rfl ?_)
    | (refine isLc 81 rfl ?_; refine lex_R rfl (by kernel_rfl) rfl (st_call rfl (c_isGrant _) (.cons (.same rfl) .nil) rfl) rfl ?_)
    | (refine isAc 66 ?_; refine do_R rfl (st_call rfl (c_within _ _ _) (.cons (.same rfl) (.cons (.same rfl) (.cons (.same rfl) .nil))) rfl) rfl ?_)
    | (refine isLc 66 rfl ?_; refine lex_R rfl (by kernel_rfl) rfl (st_call rfl (c_within _ _ _) (.cons (.same rfl) (.cons (.same rfl) (.cons (.same rfl) .nil))) rfl) rfl ?_)
    | exact fin1 rfl rfl (by first | ((try simp only [Bool.not_eq_true', Bool.not_eq_false'] at *); simp only [validI, *, Bool.true_and, Bool.false_and, Bool.and_true, Bool.and_false, Bool.true_or, Bool.false_or, Bool.or_true, Bool.or_false, Bool.not_true, Bool.not_false, cond_true, cond_false]; done) | (simp_all [validI]; done) | (simp_all [validI]; intros; omega))
    | refine aops_nil ?_
    | refine lex_done _ rfl (by kernel_rfl) ?_
    | refine aw_ct rfl ?_
    | refine aw_cf rfl ?_
    | refine aw_block ?_
    | refine then_n ?_
    | refine aw_skip ?_
    | refine aw_exit ?_
    | refine then_x ?_
    | refine then_r ?_
    | refine block_x ?_
    | refine block_n ?_
    | refine block_r ?_
    | refine aw_ret ?_
    | (refine isAg ?_; refine do_br rfl rfl (fun hbr => ?_) (fun hbr => ?_) <;> (fail_if_success (with_reducible (have hx : true = true := hbr))) <;> (fail_if_success (with_reducible (have hx : false = false := hbr))))
    | (refine isLg rfl ?_; refine lex_br rfl rfl rfl rfl (fun hbr => ?_) (fun hbr => ?_) <;> (fail_if_success (with_reducible (have hx : true = true := hbr))) <;> (fail_if_success (with_reducible (have hx : false = false := hbr))))

def mxV (a b : Int) : Int := if b > a then b else a
def excV (a : Ac) : Int := cond (validA a) (mxV 0 (IntKind.i64.wrap (a.u - a.g))) 0
theorem c_sexc (a : Ac) : Meets Go.Proofs.Try.prog 55 [.agg (acE a)] [] (I (excV a)) [] false := by
  refine meets_of [2] Go.Proofs.Try.func55 rfl rfl ?_
  simp only [Go.Proofs.Try.ntmps55, List.length_cons, List.length_nil, Nat.reduceAdd, Nat.reduceSub, List.replicate_succ, List.replicate_zero, List.cons_append, List.nil_append]
  repeat' first
    | refine aw_seq ?_
    | refine aw_region ?_
    | refine aw_lex [] ?_
    | (refine isA ?_; refine do_F rfl ?_)
    | (refine isL ?_; refine lex_F rfl (by kernel_rfl) rfl rfl ?_)
    | (refine isLg rfl ?_; refine lex_S rfl (by kernel_rfl) rfl rfl ?_)
    | (refine isAc 53 ?_; refine do_R rfl (st_call rfl (c_svalA _) (.cons (.same rfl) .nil) rfl) rfl ?_)
    | (refine isLc 53 rfl ?_; refine lex_R rfl (by kernel_rfl) rfl (st_call rfl (c_svalA _) (.cons (.same rfl) .nil) rfl) rfl ?_)
    | refine aops_nil ?_
    | refine lex_done _ rfl (by kernel_rfl) ?_
    | refine aw_ct rfl ?_
    | refine aw_cf rfl ?_
    | refine aw_block ?_
    | refine then_n ?_
    | refine aw_skip ?_
    | refine aw_exit ?_
    | refine then_x ?_
    | refine then_r ?_
    | refine block_x ?_
    | refine block_n ?_
    | refine block_r ?_
    | refine aw_ret ?_
  refine aw_cond rfl (fun h => ?_) (fun h => ?_)
  · have h : validA a = false := by simpa using h
    repeat' first
      | refine aw_seq ?_
      | refine aw_region ?_
      | refine aw_lex [] ?_
      | (refine isA ?_; refine do_F rfl ?_)
      | (refine isL ?_; refine lex_F rfl (by kernel_rfl) rfl rfl ?_)
      | (refine isLg rfl ?_; refine lex_S rfl (by kernel_rfl) rfl rfl ?_)
      | exact fin1 rfl rfl (by rw [excV, h]; rfl)
      | refine aops_nil ?_
      | refine lex_done _ rfl (by kernel_rfl) ?_
      | refine aw_ct rfl ?_
      | refine aw_cf rfl ?_
      | refine aw_block ?_
      | refine then_n ?_
      | refine aw_skip ?_
      | refine aw_exit ?_
      | refine then_x ?_
      | refine then_r ?_
      | refine block_x ?_
      | refine block_n ?_
      | refine block_r ?_
      | refine aw_ret ?_
  · have h : validA a = true := by simpa using h
    repeat' first
      | refine aw_seq ?_
      | refine aw_region ?_
      | refine aw_lex [] ?_
      | (refine isA ?_; refine do_F rfl ?_)
      | (refine isL ?_; refine lex_F rfl (by kernel_rfl) rfl rfl ?_)
      | (refine isLg rfl ?_; refine lex_S rfl (by kernel_rfl) rfl rfl ?_)
      | exact fin1 rfl rfl (by rw [excV, h]; rfl)
      | refine aops_nil ?_
      | refine lex_done _ rfl (by kernel_rfl) ?_
      | refine aw_ct rfl ?_
      | refine aw_cf rfl ?_
      | refine aw_block ?_
      | refine then_n ?_
      | refine aw_skip ?_
      | refine aw_exit ?_
      | refine then_x ?_
      | refine then_r ?_
      | refine block_x ?_
      | refine block_n ?_
      | refine block_r ?_
      | refine aw_ret ?_
theorem c_iexc (a : Ac) : Meets Go.Proofs.Try.prog 54 [.agg (acE a)] [] (I (excV a)) [] false := by
  refine meets_of [2] Go.Proofs.Try.func54 rfl rfl ?_
  simp only [Go.Proofs.Try.ntmps54, List.length_cons, List.length_nil, Nat.reduceAdd, Nat.reduceSub, List.replicate_succ, List.replicate_zero, List.cons_append, List.nil_append]
  repeat' first
    | refine aw_seq ?_
    | refine aw_region ?_
    | refine aw_lex [] ?_
    | (refine isA ?_; refine do_F rfl ?_)
    | (refine isL ?_; refine lex_F rfl (by kernel_rfl) rfl rfl ?_)
    | (refine isLg rfl ?_; refine lex_S rfl (by kernel_rfl) rfl rfl ?_)
    | (refine isAc 52 ?_; refine do_R rfl (st_call rfl (c_ivalA _) (.cons (.same rfl) .nil) rfl) rfl ?_)
    | (refine isLc 52 rfl ?_; refine lex_R rfl (by kernel_rfl) rfl (st_call rfl (c_ivalA _) (.cons (.same rfl) .nil) rfl) rfl ?_)
    | refine aops_nil ?_
    | refine lex_done _ rfl (by kernel_rfl) ?_
    | refine aw_ct rfl ?_
    | refine aw_cf rfl ?_
    | refine aw_block ?_
    | refine then_n ?_
    | refine aw_skip ?_
    | refine aw_exit ?_
    | refine then_x ?_
    | refine then_r ?_
    | refine block_x ?_
    | refine block_n ?_
    | refine block_r ?_
    | refine aw_ret ?_
  refine aw_cond rfl (fun h => ?_) (fun h => ?_)
  · have h : validA a = false := by simpa using h
    repeat' first
      | refine aw_seq ?_
      | refine aw_region ?_
      | refine aw_lex [] ?_
      | (refine isA ?_; refine do_F rfl ?_)
      | (refine isL ?_; refine lex_F rfl (by kernel_rfl) rfl rfl ?_)
      | (refine isLg rfl ?_; refine lex_S rfl (by kernel_rfl) rfl rfl ?_)
      | exact fin1 rfl rfl (by rw [excV, h]; rfl)
      | refine aops_nil ?_
      | refine lex_done _ rfl (by kernel_rfl) ?_
      | refine aw_ct rfl ?_
      | refine aw_cf rfl ?_
      | refine aw_block ?_
      | refine then_n ?_
      | refine aw_skip ?_
      | refine aw_exit ?_
      | refine then_x ?_
      | refine then_r ?_
      | refine block_x ?_
      | refine block_n ?_
      | refine block_r ?_
      | refine aw_ret ?_
  · have h : validA a = true := by simpa using h
    repeat' first
      | refine aw_seq ?_
      | refine aw_region ?_
      | refine aw_lex [] ?_
      | (refine isA ?_; refine do_F rfl ?_)
      | (refine isL ?_; refine lex_F rfl (by kernel_rfl) rfl rfl ?_)
      | (refine isLg rfl ?_; refine lex_S rfl (by kernel_rfl) rfl rfl ?_)
      | exact fin1 rfl rfl (by rw [excV, h]; rfl)
      | refine aops_nil ?_
      | refine lex_done _ rfl (by kernel_rfl) ?_
      | refine aw_ct rfl ?_
      | refine aw_cf rfl ?_
      | refine aw_block ?_
      | refine then_n ?_
      | refine aw_skip ?_
      | refine aw_exit ?_
      | refine then_x ?_
      | refine then_r ?_
      | refine block_x ?_
      | refine block_n ?_
      | refine block_r ?_
      | refine aw_ret ?_

def acR (p : Ac × Bool) : V := .tup [.agg (acE p.1), B p.2]
def badCh (a : Ac) (n : Int) : Bool := !validA a || (!inV n 0 60 || decide (a.g < IntKind.i64.wrap (a.u + n)))
def chV (a : Ac) (n : Int) : Ac × Bool := cond (badCh a n) (a, false) (⟨IntKind.i64.wrap (a.u + n), a.g, mxV a.p (IntKind.i64.wrap (a.u + n)), a.s⟩, true)
theorem ch_no {a : Ac} {n : Int} (h : badCh a n = true) : chV a n = (a, false) := by rw [chV, h]; rfl
theorem ch_yes {a : Ac} {n : Int} (h : badCh a n = false) : chV a n = (⟨IntKind.i64.wrap (a.u + n), a.g, mxV a.p (IntKind.i64.wrap (a.u + n)), a.s⟩, true) := by rw [chV, h]; rfl

theorem c_sch (a : Ac) (n : Int) : Meets Go.Proofs.Try.prog 51 [.agg (acE a), I n] [] (acR (chV a n)) [] true := by
  refine meets_ofCT 4 64 [5] Go.Proofs.Try.func51 rfl rfl rfl ?_
  simp only [Go.Proofs.Try.ntmps51, List.length_cons, List.length_nil, Nat.reduceAdd, Nat.reduceSub, List.replicate_succ, List.replicate_zero, List.cons_append, List.nil_append]
  repeat' first
    | refine aw_seq ?_
    | refine aw_region ?_
    | refine aw_lex [] ?_
    | (refine isA ?_; refine do_F rfl ?_)
    | (refine isL ?_; refine lex_F rfl (by kernel_rfl) rfl rfl ?_)
    | (refine isLg rfl ?_; refine lex_S rfl (by kernel_rfl) rfl rfl ?_)
    | (refine isAc 53 ?_; refine do_R rfl (st_call rfl (c_svalA _) (.cons (.same rfl) .nil) rfl) rfl ?_)
    | (refine isLc 53 rfl ?_; refine lex_R rfl (by kernel_rfl) rfl (st_call rfl (c_svalA _) (.cons (.same rfl) .nil) rfl) rfl ?_)
    | refine aops_nil ?_
    | refine lex_done _ rfl (by kernel_rfl) ?_
    | refine aw_ct rfl ?_
    | refine aw_cf rfl ?_
    | refine aw_block ?_
    | refine then_n ?_
    | refine aw_skip ?_
    | refine aw_exit ?_
    | refine then_x ?_
    | refine then_r ?_
    | refine block_x ?_
    | refine block_n ?_
    | refine block_r ?_
    | refine aw_ret ?_
  refine do_br rfl rfl (fun k1 => ?_) (fun k1 => ?_)
  · repeat' first
      | refine aw_seq ?_
      | refine aw_region ?_
      | refine aw_lex [] ?_
      | (refine isA ?_; refine do_F rfl ?_)
      | (refine isL ?_; refine lex_F rfl (by kernel_rfl) rfl rfl ?_)
      | (refine isLg rfl ?_; refine lex_S rfl (by kernel_rfl) rfl rfl ?_)
      | exact (by rw [ch_no (by simp [badCh, k1])]; exact finCT (cell_is rfl rfl rfl rfl rfl) (.same rfl))
      | refine aops_nil ?_
      | refine lex_done _ rfl (by kernel_rfl) ?_
      | refine aw_ct rfl ?_
      | refine aw_cf rfl ?_
      | refine aw_block ?_
      | refine then_n ?_
      | refine aw_skip ?_
      | refine aw_exit ?_
      | refine then_x ?_
      | refine then_r ?_
      | refine block_x ?_
      | refine block_n ?_
      | refine block_r ?_
      | refine aw_ret ?_
  repeat' first
    | refine aw_seq ?_
    | refine aw_region ?_
    | refine aw_lex [] ?_
    | (refine isA ?_; refine do_F rfl ?_)
    | (refine isL ?_; refine lex_F rfl (by kernel_rfl) rfl rfl ?_)
    | (refine isLg rfl ?_; refine lex_S rfl (by kernel_rfl) rfl rfl ?_)
    | (refine isAc 65 ?_; refine do_R rfl (st_call rfl (c_in _ _ _) (.cons (.same rfl) (.cons (.same rfl) (.cons (.same rfl) .nil))) rfl) rfl ?_)
    | (refine isLc 65 rfl ?_; refine lex_R rfl (by kernel_rfl) rfl (st_call rfl (c_in _ _ _) (.cons (.same rfl) (.cons (.same rfl) (.cons (.same rfl) .nil))) rfl) rfl ?_)
    | refine aops_nil ?_
    | refine lex_done _ rfl (by kernel_rfl) ?_
    | refine aw_ct rfl ?_
    | refine aw_cf rfl ?_
    | refine aw_block ?_
    | refine then_n ?_
    | refine aw_skip ?_
    | refine aw_exit ?_
    | refine then_x ?_
    | refine then_r ?_
    | refine block_x ?_
    | refine block_n ?_
    | refine block_r ?_
    | refine aw_ret ?_
  refine do_br rfl rfl (fun k2 => ?_) (fun k2 => ?_)
  · repeat' first
      | refine aw_seq ?_
      | refine aw_region ?_
      | refine aw_lex [] ?_
      | (refine isA ?_; refine do_F rfl ?_)
      | (refine isL ?_; refine lex_F rfl (by kernel_rfl) rfl rfl ?_)
      | (refine isLg rfl ?_; refine lex_S rfl (by kernel_rfl) rfl rfl ?_)
      | exact (by rw [ch_no (by simp [badCh, k2])]; exact finCT (cell_is rfl rfl rfl rfl rfl) (.same rfl))
      | refine aops_nil ?_
      | refine lex_done _ rfl (by kernel_rfl) ?_
      | refine aw_ct rfl ?_
      | refine aw_cf rfl ?_
      | refine aw_block ?_
      | refine then_n ?_
      | refine aw_skip ?_
      | refine aw_exit ?_
      | refine then_x ?_
      | refine then_r ?_
      | refine block_x ?_
      | refine block_n ?_
      | refine block_r ?_
      | refine aw_ret ?_
  repeat' first
    | refine aw_seq ?_
    | refine aw_region ?_
    | refine aw_lex [] ?_
    | (refine isA ?_; refine do_F rfl ?_)
    | (refine isL ?_; refine lex_F rfl (by kernel_rfl) rfl rfl ?_)
    | (refine isLg rfl ?_; refine lex_S rfl (by kernel_rfl) rfl rfl ?_)
    | refine aops_nil ?_
    | refine lex_done _ rfl (by kernel_rfl) ?_
    | refine aw_ct rfl ?_
    | refine aw_cf rfl ?_
    | refine aw_block ?_
    | refine then_n ?_
    | refine aw_skip ?_
    | refine aw_exit ?_
    | refine then_x ?_
    | refine then_r ?_
    | refine block_x ?_
    | refine block_n ?_
    | refine block_r ?_
    | refine aw_ret ?_
  refine aw_cond rfl (fun k3 => ?_) (fun k3 => ?_)
  · repeat' first
      | refine aw_seq ?_
      | refine aw_region ?_
      | refine aw_lex [] ?_
      | (refine isA ?_; refine do_F rfl ?_)
      | (refine isL ?_; refine lex_F rfl (by kernel_rfl) rfl rfl ?_)
      | (refine isLg rfl ?_; refine lex_S rfl (by kernel_rfl) rfl rfl ?_)
      | exact (by rw [ch_no (by simp [badCh, k3])]; exact finCT (cell_is rfl rfl rfl rfl rfl) (.same rfl))
      | refine aops_nil ?_
      | refine lex_done _ rfl (by kernel_rfl) ?_
      | refine aw_ct rfl ?_
      | refine aw_cf rfl ?_
      | refine aw_block ?_
      | refine then_n ?_
      | refine aw_skip ?_
      | refine aw_exit ?_
      | refine then_x ?_
      | refine then_r ?_
      | refine block_x ?_
      | refine block_n ?_
      | refine block_r ?_
      | refine aw_ret ?_
  have hb : badCh a n = false := by first | ((try simp only [Bool.not_eq_true', Bool.not_eq_false'] at *); simp only [badCh, *, Bool.true_and, Bool.false_and, Bool.and_true, Bool.and_false, Bool.true_or, Bool.false_or, Bool.or_true, Bool.or_false, Bool.not_true, Bool.not_false, cond_true, cond_false]; done) | (simp_all [badCh]; done) | (simp_all [badCh]; intros; omega)
  repeat' first
    | refine aw_seq ?_
    | refine aw_region ?_
    | refine aw_lex [] ?_
    | (refine isA ?_; refine do_F rfl ?_)
    | (refine isL ?_; refine lex_F rfl (by kernel_rfl) rfl rfl ?_)
    | (refine isLg rfl ?_; refine lex_S rfl (by kernel_rfl) rfl rfl ?_)
    | exact (by rw [ch_yes hb]; exact finCT (cell_is rfl rfl rfl rfl rfl) (.same rfl))
    | refine aops_nil ?_
    | refine lex_done _ rfl (by kernel_rfl) ?_
    | refine aw_ct rfl ?_
    | refine aw_cf rfl ?_
    | refine aw_block ?_
    | refine then_n ?_
    | refine aw_skip ?_
    | refine aw_exit ?_
    | refine then_x ?_
    | refine then_r ?_
    | refine block_x ?_
    | refine block_n ?_
    | refine block_r ?_
    | refine aw_ret ?_

theorem c_ich (a : Ac) (n : Int) : Meets Go.Proofs.Try.prog 50 [.agg (acE a), I n] [] (acR (chV a n)) [] true := by
  refine meets_ofCT 4 64 [5] Go.Proofs.Try.func50 rfl rfl rfl ?_
  simp only [Go.Proofs.Try.ntmps50, List.length_cons, List.length_nil, Nat.reduceAdd, Nat.reduceSub, List.replicate_succ, List.replicate_zero, List.cons_append, List.nil_append]
  repeat' first
    | refine aw_seq ?_
    | refine aw_region ?_
    | refine aw_lex [] ?_
    | (refine isA ?_; refine do_F rfl ?_)
    | (refine isL ?_; refine lex_F rfl (by kernel_rfl) rfl rfl ?_)
    | (refine isLg rfl ?_; refine lex_S rfl (by kernel_rfl) rfl rfl ?_)
    | (refine isAc 52 ?_; refine do_R rfl (st_call rfl (c_ivalA _) (.cons (.same rfl) .nil) rfl) rfl ?_)
    | (refine isLc 52 rfl ?_; refine lex_R rfl (by kernel_rfl) rfl (st_call rfl (c_ivalA _) (.cons (.same rfl) .nil) rfl) rfl ?_)
    | refine aops_nil ?_
    | refine lex_done _ rfl (by kernel_rfl) ?_
    | refine aw_ct rfl ?_
    | refine aw_cf rfl ?_
    | refine aw_block ?_
    | refine then_n ?_
    | refine aw_skip ?_
    | refine aw_exit ?_
    | refine then_x ?_
    | refine then_r ?_
    | refine block_x ?_
    | refine block_n ?_
    | refine block_r ?_
    | refine aw_ret ?_
  refine do_br rfl rfl (fun k1 => ?_) (fun k1 => ?_)
  · repeat' first
      | refine aw_seq ?_
      | refine aw_region ?_
      | refine aw_lex [] ?_
      | (refine isA ?_; refine do_F rfl ?_)
      | (refine isL ?_; refine lex_F rfl (by kernel_rfl) rfl rfl ?_)
      | (refine isLg rfl ?_; refine lex_S rfl (by kernel_rfl) rfl rfl ?_)
      | exact (by rw [ch_no (by simp [badCh, k1])]; exact finCT (cell_is rfl rfl rfl rfl rfl) (.same rfl))
      | refine aops_nil ?_
      | refine lex_done _ rfl (by kernel_rfl) ?_
      | refine aw_ct rfl ?_
      | refine aw_cf rfl ?_
      | refine aw_block ?_
      | refine then_n ?_
      | refine aw_skip ?_
      | refine aw_exit ?_
      | refine then_x ?_
      | refine then_r ?_
      | refine block_x ?_
      | refine block_n ?_
      | refine block_r ?_
      | refine aw_ret ?_
  repeat' first
    | refine aw_seq ?_
    | refine aw_region ?_
    | refine aw_lex [] ?_
    | (refine isA ?_; refine do_F rfl ?_)
    | (refine isL ?_; refine lex_F rfl (by kernel_rfl) rfl rfl ?_)
    | (refine isLg rfl ?_; refine lex_S rfl (by kernel_rfl) rfl rfl ?_)
    | (refine isAc 66 ?_; refine do_R rfl (st_call rfl (c_within _ _ _) (.cons (.same rfl) (.cons (.same rfl) (.cons (.same rfl) .nil))) rfl) rfl ?_)
    | (refine isLc 66 rfl ?_; refine lex_R rfl (by kernel_rfl) rfl (st_call rfl (c_within _ _ _) (.cons (.same rfl) (.cons (.same rfl) (.cons (.same rfl) .nil))) rfl) rfl ?_)
    | refine aops_nil ?_
    | refine lex_done _ rfl (by kernel_rfl) ?_
    | refine aw_ct rfl ?_
    | refine aw_cf rfl ?_
    | refine aw_block ?_
    | refine then_n ?_
    | refine aw_skip ?_
    | refine aw_exit ?_
    | refine then_x ?_
    | refine then_r ?_
    | refine block_x ?_
    | refine block_n ?_
    | refine block_r ?_
    | refine aw_ret ?_
  refine do_br rfl rfl (fun k2 => ?_) (fun k2 => ?_)
  · repeat' first
      | refine aw_seq ?_
      | refine aw_region ?_
      | refine aw_lex [] ?_
      | (refine isA ?_; refine do_F rfl ?_)
      | (refine isL ?_; refine lex_F rfl (by kernel_rfl) rfl rfl ?_)
      | (refine isLg rfl ?_; refine lex_S rfl (by kernel_rfl) rfl rfl ?_)
      | exact (by rw [ch_no (by simp [badCh, k2])]; exact finCT (cell_is rfl rfl rfl rfl rfl) (.same rfl))
      | refine aops_nil ?_
      | refine lex_done _ rfl (by kernel_rfl) ?_
      | refine aw_ct rfl ?_
      | refine aw_cf rfl ?_
      | refine aw_block ?_
      | refine then_n ?_
      | refine aw_skip ?_
      | refine aw_exit ?_
      | refine then_x ?_
      | refine then_r ?_
      | refine block_x ?_
      | refine block_n ?_
      | refine block_r ?_
      | refine aw_ret ?_
  repeat' first
    | refine aw_seq ?_
    | refine aw_region ?_
    | refine aw_lex [] ?_
    | (refine isA ?_; refine do_F rfl ?_)
    | (refine isL ?_; refine lex_F rfl (by kernel_rfl) rfl rfl ?_)
    | (refine isLg rfl ?_; refine lex_S rfl (by kernel_rfl) rfl rfl ?_)
    | refine aops_nil ?_
    | refine lex_done _ rfl (by kernel_rfl) ?_
    | refine aw_ct rfl ?_
    | refine aw_cf rfl ?_
    | refine aw_block ?_
    | refine then_n ?_
    | refine aw_skip ?_
    | refine aw_exit ?_
    | refine then_x ?_
    | refine then_r ?_
    | refine block_x ?_
    | refine block_n ?_
    | refine block_r ?_
    | refine aw_ret ?_
  refine aw_cond rfl (fun k3 => ?_) (fun k3 => ?_)
  · repeat' first
      | refine aw_seq ?_
      | refine aw_region ?_
      | refine aw_lex [] ?_
      | (refine isA ?_; refine do_F rfl ?_)
      | (refine isL ?_; refine lex_F rfl (by kernel_rfl) rfl rfl ?_)
      | (refine isLg rfl ?_; refine lex_S rfl (by kernel_rfl) rfl rfl ?_)
      | exact (by rw [ch_no (by simp [badCh, k3])]; exact finCT (cell_is rfl rfl rfl rfl rfl) (.same rfl))
      | refine aops_nil ?_
      | refine lex_done _ rfl (by kernel_rfl) ?_
      | refine aw_ct rfl ?_
      | refine aw_cf rfl ?_
      | refine aw_block ?_
      | refine then_n ?_
      | refine aw_skip ?_
      | refine aw_exit ?_
      | refine then_x ?_
      | refine then_r ?_
      | refine block_x ?_
      | refine block_n ?_
      | refine block_r ?_
      | refine aw_ret ?_
  have hb : badCh a n = false := by first | ((try simp only [Bool.not_eq_true', Bool.not_eq_false'] at *); simp only [badCh, *, Bool.true_and, Bool.false_and, Bool.and_true, Bool.and_false, Bool.true_or, Bool.false_or, Bool.or_true, Bool.or_false, Bool.not_true, Bool.not_false, cond_true, cond_false]; done) | (simp_all [badCh]; done) | (simp_all [badCh]; intros; omega)
  repeat' first
    | refine aw_seq ?_
    | refine aw_region ?_
    | refine aw_lex [] ?_
    | (refine isA ?_; refine do_F rfl ?_)
    | (refine isL ?_; refine lex_F rfl (by kernel_rfl) rfl rfl ?_)
    | (refine isLg rfl ?_; refine lex_S rfl (by kernel_rfl) rfl rfl ?_)
    | exact (by rw [ch_yes hb]; exact finCT (cell_is rfl rfl rfl rfl rfl) (.same rfl))
    | refine aops_nil ?_
    | refine lex_done _ rfl (by kernel_rfl) ?_
    | refine aw_ct rfl ?_
    | refine aw_cf rfl ?_
    | refine aw_block ?_
    | refine then_n ?_
    | refine aw_skip ?_
    | refine aw_exit ?_
    | refine then_x ?_
    | refine then_r ?_
    | refine block_x ?_
    | refine block_n ?_
    | refine block_r ?_
    | refine aw_ret ?_
end Go.Proofs.Ytjlhfemfmkdlhaa.Ab

/- DrwD -/
namespace Go.Proofs.Ytjlhfemfmkdlhaa.Ab
open Go.RowKit

def badRe (a : Ac) (n : Int) : Bool := !validA a || !inV n 0 a.u
def reV (a : Ac) (n : Int) : Ac × Bool := cond (badRe a n) (a, false) (⟨IntKind.i64.wrap (a.u - n), a.g, a.p, a.s⟩, true)
theorem re_no {a : Ac} {n : Int} (h : badRe a n = true) : reV a n = (a, false) := by rw [reV, h]; rfl
theorem re_yes {a : Ac} {n : Int} (h : badRe a n = false) : reV a n = (⟨IntKind.i64.wrap (a.u - n), a.g, a.p, a.s⟩, true) := by rw [reV, h]; rfl
def badSg (a : Ac) (n : Int) : Bool := !validA a || (!inV n 8 60 || decide (a.s = 1000))
def sgV (a : Ac) (n : Int) : Ac × Bool := cond (badSg a n) (a, false) (cond (decide (n < a.u)) (⟨a.u, n, a.p, IntKind.i64.wrap (a.s + 1)⟩, true) (⟨a.u, n, a.p, a.s⟩, true))
theorem sg_no {a : Ac} {n : Int} (h : badSg a n = true) : sgV a n = (a, false) := by rw [sgV, h]; rfl
theorem sg_more {a : Ac} {n : Int} (h : badSg a n = false) (h' : decide (n < a.u) = true) : sgV a n = (⟨a.u, n, a.p, IntKind.i64.wrap (a.s + 1)⟩, true) := by rw [sgV, h, h']; rfl
theorem sg_less {a : Ac} {n : Int} (h : badSg a n = false) (h' : decide (n < a.u) = false) : sgV a n = (⟨a.u, n, a.p, a.s⟩, true) := by rw [sgV, h, h']; rfl
def naV (n : Int) : Ac × Bool := cond (inV n 8 60) (⟨0, n, 0, 0⟩, true) (⟨0, 0, 0, 0⟩, false)

theorem c_srel (a : Ac) (n : Int) : Meets Go.Proofs.Try.prog 61 [.agg (acE a), I n] [] (acR (reV a n)) [] true := by
  refine meets_ofCT 4 64 [5] Go.Proofs.Try.func61 rfl rfl rfl ?_
  simp only [Go.Proofs.Try.ntmps61, List.length_cons, List.length_nil, Nat.reduceAdd, Nat.reduceSub, List.replicate_succ, List.replicate_zero, List.cons_append, List.nil_append]
  repeat' first
    | refine aw_seq ?_
    | refine aw_region ?_
    | refine aw_lex [] ?_
    | (refine isA ?_; refine do_F rfl ?_)
    | (refine isL ?_; refine lex_F rfl (by kernel_rfl) rfl rfl ?_)
    | (refine isLg rfl ?_; refine lex_S rfl (by kernel_rfl) rfl rfl ?_)
    | (refine isAc 53 ?_; refine do_R rfl (st_call rfl (c_svalA _) (.cons (.same rfl) .nil) rfl) rfl ?_)
    | (refine isLc 53 rfl ?_; refine lex_R rfl (by kernel_rfl) rfl (st_call rfl (c_svalA _) (.cons (.same rfl) .nil) rfl) rfl ?_)
    | refine aops_nil ?_
    | refine lex_done _ rfl (by kernel_rfl) ?_
    | refine aw_ct rfl ?_
    | refine aw_cf rfl ?_
    | refine aw_block ?_
    | refine then_n ?_
    | refine aw_skip ?_
    | refine aw_exit ?_
    | refine then_x ?_
    | refine then_r ?_
    | refine block_x ?_
    | refine block_n ?_
    | refine block_r ?_
    | refine aw_ret ?_
  refine do_br rfl rfl (fun k1 => ?_) (fun k1 => ?_)
  · repeat' first
      | refine aw_seq ?_
      | refine aw_region ?_
      | refine aw_lex [] ?_
      | (refine isA ?_; refine do_F rfl ?_)
      | (refine isL ?_; refine lex_F rfl (by kernel_rfl) rfl rfl ?_)
      | (refine isLg rfl ?_; refine lex_S rfl (by kernel_rfl) rfl rfl ?_)
      | exact (by rw [re_no (by simp [badRe, k1])]; exact finCT (cell_is rfl rfl rfl rfl rfl) (.same rfl))
      | refine aops_nil ?_
      | refine lex_done _ rfl (by kernel_rfl) ?_
      | refine aw_ct rfl ?_
      | refine aw_cf rfl ?_
      | refine aw_block ?_
      | refine then_n ?_
      | refine aw_skip ?_
      | refine aw_exit ?_
      | refine then_x ?_
      | refine then_r ?_
      | refine block_x ?_
      | refine block_n ?_
      | refine block_r ?_
      | refine aw_ret ?_
  repeat' first
    | refine aw_seq ?_
    | refine aw_region ?_
    | refine aw_lex [] ?_
    | (refine isA ?_; refine do_F rfl ?_)
    | (refine isL ?_; refine lex_F rfl (by kernel_rfl) rfl rfl ?_)
    | (refine isLg rfl ?_; refine lex_S rfl (by kernel_rfl) rfl rfl ?_)
    | (refine isAc 65 ?_; refine do_R rfl (st_call rfl (c_in _ _ _) (.cons (.same rfl) (.cons (.same rfl) (.cons (.same rfl) .nil))) rfl) rfl ?_)
    | (refine isLc 65 rfl ?_; refine lex_R rfl (by kernel_rfl) rfl (st_call rfl (c_in _ _ _) (.cons (.same rfl) (.cons (.same rfl) (.cons (.same rfl) .nil))) rfl) rfl ?_)
    | refine aops_nil ?_
    | refine lex_done _ rfl (by kernel_rfl) ?_
    | refine aw_ct rfl ?_
    | refine aw_cf rfl ?_
    | refine aw_block ?_
    | refine then_n ?_
    | refine aw_skip ?_
    | refine aw_exit ?_
    | refine then_x ?_
    | refine then_r ?_
    | refine block_x ?_
    | refine block_n ?_
    | refine block_r ?_
    | refine aw_ret ?_
  refine aw_cond rfl (fun k2 => ?_) (fun k2 => ?_)
  · repeat' first
      | refine aw_seq ?_
      | refine aw_region ?_
      | refine aw_lex [] ?_
      | (refine isA ?_; refine do_F rfl ?_)
      | (refine isL ?_; refine lex_F rfl (by kernel_rfl) rfl rfl ?_)
      | (refine isLg rfl ?_; refine lex_S rfl (by kernel_rfl) rfl rfl ?_)
      | exact (by rw [re_no (by simp [badRe, k2])]; exact finCT (cell_is rfl rfl rfl rfl rfl) (.same rfl))
      | refine aops_nil ?_
      | refine lex_done _ rfl (by kernel_rfl) ?_
      | refine aw_ct rfl ?_
      | refine aw_cf rfl ?_
      | refine aw_block ?_
      | refine then_n ?_
      | refine aw_skip ?_
      | refine aw_exit ?_
      | refine then_x ?_
      | refine then_r ?_
      | refine block_x ?_
      | refine block_n ?_
      | refine block_r ?_
      | refine aw_ret ?_
  have hb : badRe a n = false := by first | ((try simp only [Bool.not_eq_true', Bool.not_eq_false'] at *); simp only [badRe, *, Bool.true_and, Bool.false_and, Bool.and_true, Bool.and_false, Bool.true_or, Bool.false_or, Bool.or_true, Bool.or_false, Bool.not_true, Bool.not_false, cond_true, cond_false]; done) | (simp_all [badRe]; done) | (simp_all [badRe]; intros; omega)
  repeat' first
    | refine aw_seq ?_
    | refine aw_region ?_
    | refine aw_lex [] ?_
    | (refine isA ?_; refine do_F rfl ?_)
    | (refine isL ?_; refine lex_F rfl (by kernel_rfl) rfl rfl ?_)
    | (refine isLg rfl ?_; refine lex_S rfl (by kernel_rfl) rfl rfl ?_)
    | exact (by rw [re_yes hb]; exact finCT (cell_is rfl rfl rfl rfl rfl) (.same rfl))
    | refine aops_nil ?_
    | refine lex_done _ rfl (by kernel_rfl) ?_
    | refine aw_ct rfl ?_
    | refine aw_cf rfl ?_
    | refine aw_block ?_
    | refine then_n ?_
    | refine aw_skip ?_
    | refine aw_exit ?_
    | refine then_x ?_
    | refine then_r ?_
    | refine block_x ?_
    | refine block_n ?_
    | refine block_r ?_
    | refine aw_ret ?_

theorem c_irel (a : Ac) (n : Int) : Meets Go.Proofs.Try.prog 60 [.agg (acE a), I n] [] (acR (reV a n)) [] true := by
  refine meets_ofCT 4 64 [5] Go.Proofs.Try.func60 rfl rfl rfl ?_
  simp only [Go.Proofs.Try.ntmps60, List.length_cons, List.length_nil, Nat.reduceAdd, Nat.reduceSub, List.replicate_succ, List.replicate_zero, List.cons_append, List.nil_append]
  repeat' first
    | refine aw_seq ?_
    | refine aw_region ?_
    | refine aw_lex [] ?_
    | (refine isA ?_; refine do_F rfl ?_)
    | (refine isL ?_; refine lex_F rfl (by kernel_rfl) rfl rfl ?_)
    | (refine isLg rfl ?_; refine lex_S rfl (by kernel_rfl) rfl rfl ?_)
    | (refine isAc 52 ?_; refine do_R rfl (st_call rfl (c_ivalA _) (.cons (.same rfl) .nil) rfl) rfl ?_)
    | (refine isLc 52 rfl ?_; refine lex_R rfl (by kernel_rfl) rfl (st_call rfl (c_ivalA _) (.cons (.same rfl) .nil) rfl) rfl ?_)
    | refine aops_nil ?_
    | refine lex_done _ rfl (by kernel_rfl) ?_
    | refine aw_ct rfl ?_
    | refine aw_cf rfl ?_
    | refine aw_block ?_
    | refine then_n ?_
    | refine aw_skip ?_
    | refine aw_exit ?_
    | refine then_x ?_
    | refine then_r ?_
    | refine block_x ?_
    | refine block_n ?_
    | refine block_r ?_
    | refine aw_ret ?_
  refine do_br rfl rfl (fun k1 => ?_) (fun k1 => ?_)
  · repeat' first
      | refine aw_seq ?_
      | refine aw_region ?_
      | refine aw_lex [] ?_
      | (refine isA ?_; refine do_F rfl ?_)
      | (refine isL ?_; refine lex_F rfl (by kernel_rfl) rfl rfl ?_)
      | (refine isLg rfl ?_; refine lex_S rfl (by kernel_rfl) rfl rfl ?_)
      | exact (by rw [re_no (by simp [badRe, k1])]; exact finCT (cell_is rfl rfl rfl rfl rfl) (.same rfl))
      | refine aops_nil ?_
      | refine lex_done _ rfl (by kernel_rfl) ?_
      | refine aw_ct rfl ?_
      | refine aw_cf rfl ?_
      | refine aw_block ?_
      | refine then_n ?_
      | refine aw_skip ?_
      | refine aw_exit ?_
      | refine then_x ?_
      | refine then_r ?_
      | refine block_x ?_
      | refine block_n ?_
      | refine block_r ?_
      | refine aw_ret ?_
  repeat' first
    | refine aw_seq ?_
    | refine aw_region ?_
    | refine aw_lex [] ?_
    | (refine isA ?_; refine do_F rfl ?_)
    | (refine isL ?_; refine lex_F rfl (by kernel_rfl) rfl rfl ?_)
    | (refine isLg rfl ?_; refine lex_S rfl (by kernel_rfl) rfl rfl ?_)
    | (refine isAc 66 ?_; refine do_R rfl (st_call rfl (c_within _ _ _) (.cons (.same rfl) (.cons (.same rfl) (.cons (.same rfl) .nil))) rfl) rfl ?_)
    | (refine isLc 66 rfl ?_; refine lex_R rfl (by kernel_rfl) rfl (st_call rfl (c_within _ _ _) (.cons (.same rfl) (.cons (.same rfl) (.cons (.same rfl) .nil))) rfl) rfl ?_)
    | refine aops_nil ?_
    | refine lex_done _ rfl (by kernel_rfl) ?_
    | refine aw_ct rfl ?_
    | refine aw_cf rfl ?_
    | refine aw_block ?_
    | refine then_n ?_
    | refine aw_skip ?_
    | refine aw_exit ?_
    | refine then_x ?_
    | refine then_r ?_
    | refine block_x ?_
    | refine block_n ?_
    | refine block_r ?_
    | refine aw_ret ?_
  refine aw_cond rfl (fun k2 => ?_) (fun k2 => ?_)
  · repeat' first
      | refine aw_seq ?_
      | refine aw_region ?_
      | refine aw_lex [] ?_
      | (refine isA ?_; refine do_F rfl ?_)
      | (refine isL ?_; refine lex_F rfl (by kernel_rfl) rfl rfl ?_)
      | (refine isLg rfl ?_; refine lex_S rfl (by kernel_rfl) rfl rfl ?_)
      | exact (by rw [re_no (by simp [badRe, k2])]; exact finCT (cell_is rfl rfl rfl rfl rfl) (.same rfl))
      | refine aops_nil ?_
      | refine lex_done _ rfl (by kernel_rfl) ?_
      | refine aw_ct rfl ?_
      | refine aw_cf rfl ?_
      | refine aw_block ?_
      | refine then_n ?_
      | refine aw_skip ?_
      | refine aw_exit ?_
      | refine then_x ?_
      | refine then_r ?_
      | refine block_x ?_
      | refine block_n ?_
      | refine block_r ?_
      | refine aw_ret ?_
  have hb : badRe a n = false := by first | ((try simp only [Bool.not_eq_true', Bool.not_eq_false'] at *); simp only [badRe, *, Bool.true_and, Bool.false_and, Bool.and_true, Bool.and_false, Bool.true_or, Bool.false_or, Bool.or_true, Bool.or_false, Bool.not_true, Bool.not_false, cond_true, cond_false]; done) | (simp_all [badRe]; done) | (simp_all [badRe]; intros; omega)
  repeat' first
    | refine aw_seq ?_
    | refine aw_region ?_
    | refine aw_lex [] ?_
    | (refine isA ?_; refine do_F rfl ?_)
    | (refine isL ?_; refine lex_F rfl (by kernel_rfl) rfl rfl ?_)
    | (refine isLg rfl ?_; refine lex_S rfl (by kernel_rfl) rfl rfl ?_)
    | exact (by rw [re_yes hb]; exact finCT (cell_is rfl rfl rfl rfl rfl) (.same rfl))
    | refine aops_nil ?_
    | refine lex_done _ rfl (by kernel_rfl) ?_
    | refine aw_ct rfl ?_
    | refine aw_cf rfl ?_
    | refine aw_block ?_
    | refine then_n ?_
    | refine aw_skip ?_
    | refine aw_exit ?_
    | refine then_x ?_
    | refine then_r ?_
    | refine block_x ?_
    | refine block_n ?_
    | refine block_r ?_
    | refine aw_ret ?_

theorem c_ssg (a : Ac) (n : Int) : Meets Go.Proofs.Try.prog 58 [.agg (acE a), I n] [] (acR (sgV a n)) [] true := by
  refine meets_ofCT 4 64 [5] Go.Proofs.Try.func58 rfl rfl rfl ?_
  simp only [Go.Proofs.Try.ntmps58, List.length_cons, List.length_nil, Nat.reduceAdd, Nat.reduceSub, List.replicate_succ, List.replicate_zero, List.cons_append, List.nil_append]
  repeat' first
    | refine aw_seq ?_
    | refine aw_region ?_
    | refine aw_lex [] ?_
    | (refine isA ?_; refine do_F rfl ?_)
    | (refine isL ?_; refine lex_F rfl (by kernel_rfl) rfl rfl ?_)
    | (refine isLg rfl ?_; refine lex_S rfl (by kernel_rfl) rfl rfl ?_)
    | (refine isAc 53 ?_; refine do_R rfl (st_call rfl (c_svalA _) (.cons (.same rfl) .nil) rfl) rfl ?_)
    | (refine isLc 53 rfl ?_; refine lex_R rfl (by kernel_rfl) rfl (st_call rfl (c_svalA _) (.cons (.same rfl) .nil) rfl) rfl ?_)
    | refine aops_nil ?_
    | refine lex_done _ rfl (by kernel_rfl) ?_
    | refine aw_ct rfl ?_
    | refine aw_cf rfl ?_
    | refine aw_block ?_
    | refine then_n ?_
    | refine aw_skip ?_
    | refine aw_exit ?_
    | refine then_x ?_
    | refine then_r ?_
    | refine block_x ?_
    | refine block_n ?_
    | refine block_r ?_
    | refine aw_ret ?_
  refine do_br rfl rfl (fun k1 => ?_) (fun k1 => ?_)
  · repeat' first
      | refine aw_seq ?_
      | refine aw_region ?_
      | refine aw_lex [] ?_
      | (refine isA ?_; refine do_F rfl ?_)
      | (refine isL ?_; refine lex_F rfl (by kernel_rfl) rfl rfl ?_)
      | (refine isLg rfl ?_; refine lex_S rfl (by kernel_rfl) rfl rfl ?_)
      | exact (by rw [sg_no (by simp [badSg, k1])]; exact finCT (cell_is rfl rfl rfl rfl rfl) (.same rfl))
      | refine aops_nil ?_
      | refine lex_done _ rfl (by kernel_rfl) ?_
      | refine aw_ct rfl ?_
      | refine aw_cf rfl ?_
      | refine aw_block ?_
      | refine then_n ?_
      | refine aw_skip ?_
      | refine aw_exit ?_
      | refine then_x ?_
      | refine then_r ?_
      | refine block_x ?_
      | refine block_n ?_
      | refine block_r ?_
      | refine aw_ret ?_
  repeat' first
    | refine aw_seq ?_
    | refine aw_region ?_
    | refine aw_lex [] ?_
    | (refine isA ?_; refine do_F rfl ?_)
    | (refine isL ?_; refine lex_F rfl (by kernel_rfl) rfl rfl ?_)
    | (refine isLg rfl ?_; refine lex_S rfl (by kernel_rfl) rfl rfl ?_)
    | (refine isAc 65 ?_; refine do_R rfl (st_call rfl (c_in _ _ _) (.cons (.same rfl) (.cons (.same rfl) (.cons (.same rfl) .nil))) rfl) rfl ?_)
    | (refine isLc 65 rfl ?_; refine lex_R rfl (by kernel_rfl) rfl (st_call rfl (c_in _ _ _) (.cons (.same rfl) (.cons (.same rfl) (.cons (.same rfl) .nil))) rfl) rfl ?_)
    | refine aops_nil ?_
    | refine lex_done _ rfl (by kernel_rfl) ?_
    | refine aw_ct rfl ?_
    | refine aw_cf rfl ?_
    | refine aw_block ?_
    | refine then_n ?_
    | refine aw_skip ?_
    | refine aw_exit ?_
    | refine then_x ?_
    | refine then_r ?_
    | refine block_x ?_
    | refine block_n ?_
    | refine block_r ?_
    | refine aw_ret ?_
  refine do_br rfl rfl (fun k2 => ?_) (fun k2 => ?_)
  · repeat' first
      | refine aw_seq ?_
      | refine aw_region ?_
      | refine aw_lex [] ?_
      | (refine isA ?_; refine do_F rfl ?_)
      | (refine isL ?_; refine lex_F rfl (by kernel_rfl) rfl rfl ?_)
      | (refine isLg rfl ?_; refine lex_S rfl (by kernel_rfl) rfl rfl ?_)
      | exact (by rw [sg_no (by simp [badSg, k2])]; exact finCT (cell_is rfl rfl rfl rfl rfl) (.same rfl))
      | refine aops_nil ?_
      | refine lex_done _ rfl (by kernel_rfl) ?_
      | refine aw_ct rfl ?_
      | refine aw_cf rfl ?_
      | refine aw_block ?_
      | refine then_n ?_
      | refine aw_skip ?_
      | refine aw_exit ?_
      | refine then_x ?_
      | refine then_r ?_
      | refine block_x ?_
      | refine block_n ?_
      | refine block_r ?_
      | refine aw_ret ?_
  repeat' first
    | refine aw_seq ?_
    | refine aw_region ?_
    | refine aw_lex [] ?_
    | (refine isA ?_; refine do_F rfl ?_)
    | (refine isL ?_; refine lex_F rfl (by kernel_rfl) rfl rfl ?_)
    | (refine isLg rfl ?_; refine lex_S rfl (by kernel_rfl) rfl rfl ?_)
    | refine aops_nil ?_
    | refine lex_done _ rfl (by kernel_rfl) ?_
    | refine aw_ct rfl ?_
    | refine aw_cf rfl ?_
    | refine aw_block ?_
    | refine then_n ?_
    | refine aw_skip ?_
    | refine aw_exit ?_
    | refine then_x ?_
    | refine then_r ?_
    | refine block_x ?_
    | refine block_n ?_
    | refine block_r ?_
    | refine aw_ret ?_
  refine aw_cond rfl (fun k3 => ?_) (fun k3 => ?_)
  · repeat' first
      | refine aw_seq ?_
      | refine aw_region ?_
      | refine aw_lex [] ?_
      | (refine isA ?_; refine do_F rfl ?_)
      | (refine isL ?_; refine lex_F rfl (by kernel_rfl) rfl rfl ?_)
      | (refine isLg rfl ?_; refine lex_S rfl (by kernel_rfl) rfl rfl ?_)
      | exact (by rw [sg_no (by simp [badSg, k3])]; exact finCT (cell_is rfl rfl rfl rfl rfl) (.same rfl))
      | refine aops_nil ?_
      | refine lex_done _ rfl (by kernel_rfl) ?_
      | refine aw_ct rfl ?_
      | refine aw_cf rfl ?_
      | refine aw_block ?_
      | refine then_n ?_
      | refine aw_skip ?_
      | refine aw_exit ?_
      | refine then_x ?_
      | refine then_r ?_
      | refine block_x ?_
      | refine block_n ?_
      | refine block_r ?_
      | refine aw_ret ?_
  have hb : badSg a n = false := by first | ((try simp only [Bool.not_eq_true', Bool.not_eq_false'] at *); simp only [badSg, *, Bool.true_and, Bool.false_and, Bool.and_true, Bool.and_false, Bool.true_or, Bool.false_or, Bool.or_true, Bool.or_false, Bool.not_true, Bool.not_false, cond_true, cond_false]; done) | (simp_all [badSg]; done) | (simp_all [badSg]; intros; omega)
  repeat' first
    | refine aw_seq ?_
    | refine aw_region ?_
    | refine aw_lex [] ?_
    | (refine isA ?_; refine do_F rfl ?_)
    | (refine isL ?_; refine lex_F rfl (by kernel_rfl) rfl rfl ?_)
    | (refine isLg rfl ?_; refine lex_S rfl (by kernel_rfl) rfl rfl ?_)
    | refine aops_nil ?_
    | refine lex_done _ rfl (by kernel_rfl) ?_
    | refine aw_ct rfl ?_
    | refine aw_cf rfl ?_
    | refine aw_block ?_
    | refine then_n ?_
    | refine aw_skip ?_
    | refine aw_exit ?_
    | refine then_x ?_
    | refine then_r ?_
    | refine block_x ?_
    | refine block_n ?_
    | refine block_r ?_
    | refine aw_ret ?_
  refine aw_cond rfl (fun k4 => ?_) (fun k4 => ?_)
  · repeat' first
      | refine aw_seq ?_
      | refine aw_region ?_
      | refine aw_lex [] ?_
      | (refine isA ?_; refine do_F rfl ?_)
      | (refine isL ?_; refine lex_F rfl (by kernel_rfl) rfl rfl ?_)
      | (refine isLg rfl ?_; refine lex_S rfl (by kernel_rfl) rfl rfl ?_)
      | exact (by rw [sg_more hb k4]; exact finCT (cell_is rfl rfl rfl rfl rfl) (.same rfl))
      | refine aops_nil ?_
      | refine lex_done _ rfl (by kernel_rfl) ?_
      | refine aw_ct rfl ?_
      | refine aw_cf rfl ?_
      | refine aw_block ?_
      | refine then_n ?_
      | refine aw_skip ?_
      | refine aw_exit ?_
      | refine then_x ?_
      | refine then_r ?_
      | refine block_x ?_
      | refine block_n ?_
      | refine block_r ?_
      | refine aw_ret ?_
  · repeat' first
      | refine aw_seq ?_
      | refine aw_region ?_
      | refine aw_lex [] ?_
      | (refine isA ?_; refine do_F rfl ?_)
      | (refine isL ?_; refine lex_F rfl (by kernel_rfl) rfl rfl ?_)
      | (refine isLg rfl ?_; refine lex_S rfl (by kernel_rfl) rfl rfl ?_)
      | exact (by rw [sg_less hb k4]; exact finCT (cell_is rfl rfl rfl rfl rfl) (.same rfl))
      | refine aops_nil ?_
      | refine lex_done _ rfl (by kernel_rfl) ?_
      | refine aw_ct rfl ?_
      | refine aw_cf rfl ?_
      | refine aw_block ?_
      | refine then_n ?_
      | refine aw_skip ?_
      | refine aw_exit ?_
      | refine then_x ?_
      | refine then_r ?_
      | refine block_x ?_
      | refine block_n ?_
      | refine block_r ?_
      | refine aw_ret ?_

theorem c_isg (a : Ac) (n : Int) : Meets Go.Proofs.Try.prog 57 [.agg (acE a), I n] [] (acR (sgV a n)) [] true := by
  refine meets_ofCT 4 64 [5] Go.Proofs.Try.func57 rfl rfl rfl ?_
  simp only [Go.Proofs.Try.ntmps57, List.length_cons, List.length_nil, Nat.reduceAdd, Nat.reduceSub, List.replicate_succ, List.replicate_zero, List.cons_append, List.nil_append]
  repeat' first
    | refine aw_seq ?_
    | refine aw_region ?_
    | refine aw_lex [] ?_
    | (refine isA ?_; refine do_F rfl ?_)
    | (refine isL ?_; refine lex_F rfl (by kernel_rfl) rfl rfl ?_)
    | (refine isLg rfl ?_; refine lex_S rfl (by kernel_rfl) rfl rfl ?_)
    | (refine isAc 52 ?_; refine do_R rfl (st_call rfl (c_ivalA _) (.cons (.same rfl) .nil) rfl) rfl ?_)
    | (refine isLc 52 rfl ?_; refine lex_R rfl (by kernel_rfl) rfl (st_call rfl (c_ivalA _) (.cons (.same rfl) .nil) rfl) rfl ?_)
    | refine aops_nil ?_
    | refine lex_done _ rfl (by kernel_rfl) ?_
    | refine aw_ct rfl ?_
    | refine aw_cf rfl ?_
    | refine aw_block ?_
    | refine then_n ?_
    | refine aw_skip ?_
    | refine aw_exit ?_
    | refine then_x ?_
    | refine then_r ?_
    | refine block_x ?_
    | refine block_n ?_
    | refine block_r ?_
    | refine aw_ret ?_
  refine do_br rfl rfl (fun k1 => ?_) (fun k1 => ?_)
  · repeat' first
      | refine aw_seq ?_
      | refine aw_region ?_
      | refine aw_lex [] ?_
      | (refine isA ?_; refine do_F rfl ?_)
      | (refine isL ?_; refine lex_F rfl (by kernel_rfl) rfl rfl ?_)
      | (refine isLg rfl ?_; refine lex_S rfl (by kernel_rfl) rfl rfl ?_)
      | exact (by rw [sg_no (by simp [badSg, k1])]; exact finCT (cell_is rfl rfl rfl rfl rfl) (.same rfl))
      | refine aops_nil ?_
      | refine lex_done _ rfl (by kernel_rfl) ?_
      | refine aw_ct rfl ?_
      | refine aw_cf rfl ?_
      | refine aw_block ?_
      | refine then_n ?_
      | refine aw_skip ?_
      | refine aw_exit ?_
      | refine then_x ?_
      | refine then_r ?_
      | refine block_x ?_
      | refine block_n ?_
      | refine block_r ?_
      | refine aw_ret ?_
  repeat' first
    | refine aw_seq ?_
    | refine aw_region ?_
    | refine aw_lex [] ?_
    | (refine isA ?_; refine do_F rfl ?_)
    | (refine isL ?_; refine lex_F rfl (by kernel_rfl) rfl rfl ?_)
    | (refine isLg rfl ?_; refine lex_S rfl (by kernel_rfl) rfl rfl ?_)
    | (refine isAc 81 ?_; refine do_R rfl (st_call rfl (c_isGrant _) (.cons (.same rfl) .nil) rfl) rfl ?_)
    | (refine isLc 81 rfl ?_; refine lex_R rfl (by kernel_rfl) rfl (st_call rfl (c_isGrant _) (.cons (.same rfl) .nil) rfl) rfl ?_)
    | refine aops_nil ?_
    | refine lex_done _ rfl (by kernel_rfl) ?_
    | refine aw_ct rfl ?_
    | refine aw_cf rfl ?_
    | refine aw_block ?_
    | refine then_n ?_
    | refine aw_skip ?_
    | refine aw_exit ?_
    | refine then_x ?_
    | refine then_r ?_
    | refine block_x ?_
    | refine block_n ?_
    | refine block_r ?_
    | refine aw_ret ?_
  refine do_br rfl rfl (fun k2 => ?_) (fun k2 => ?_)
  · repeat' first
      | refine aw_seq ?_
      | refine aw_region ?_
      | refine aw_lex [] ?_
      | (refine isA ?_; refine do_F rfl ?_)
      | (refine isL ?_; refine lex_F rfl (by kernel_rfl) rfl rfl ?_)
      | (refine isLg rfl ?_; refine lex_S rfl (by kernel_rfl) rfl rfl ?_)
      | exact (by rw [sg_no (by simp [badSg, k2])]; exact finCT (cell_is rfl rfl rfl rfl rfl) (.same rfl))
      | refine aops_nil ?_
      | refine lex_done _ rfl (by kernel_rfl) ?_
      | refine aw_ct rfl ?_
      | refine aw_cf rfl ?_
      | refine aw_block ?_
      | refine then_n ?_
      | refine aw_skip ?_
      | refine aw_exit ?_
      | refine then_x ?_
      | refine then_r ?_
      | refine block_x ?_
      | refine block_n ?_
      | refine block_r ?_
      | refine aw_ret ?_
  repeat' first
    | refine aw_seq ?_
    | refine aw_region ?_
    | refine aw_lex [] ?_
    | (refine isA ?_; refine do_F rfl ?_)
    | (refine isL ?_; refine lex_F rfl (by kernel_rfl) rfl rfl ?_)
    | (refine isLg rfl ?_; refine lex_S rfl (by kernel_rfl) rfl rfl ?_)
    | refine aops_nil ?_
    | refine lex_done _ rfl (by kernel_rfl) ?_
    | refine aw_ct rfl ?_
    | refine aw_cf rfl ?_
    | refine aw_block ?_
    | refine then_n ?_
    | refine aw_skip ?_
    | refine aw_exit ?_
    | refine then_x ?_
    | refine then_r ?_
    | refine block_x ?_
    | refine block_n ?_
    | refine block_r ?_
    | refine aw_ret ?_
  refine aw_cond rfl (fun k3 => ?_) (fun k3 => ?_)
  · repeat' first
      | refine aw_seq ?_
      | refine aw_region ?_
      | refine aw_lex [] ?_
      | (refine isA ?_; refine do_F rfl ?_)
      | (refine isL ?_; refine lex_F rfl (by kernel_rfl) rfl rfl ?_)
      | (refine isLg rfl ?_; refine lex_S rfl (by kernel_rfl) rfl rfl ?_)
      | exact (by rw [sg_no (by simp [badSg, k3])]; exact finCT (cell_is rfl rfl rfl rfl rfl) (.same rfl))
      | refine aops_nil ?_
      | refine lex_done _ rfl (by kernel_rfl) ?_
      | refine aw_ct rfl ?_
      | refine aw_cf rfl ?_
      | refine aw_block ?_
      | refine then_n ?_
      | refine aw_skip ?_
      | refine aw_exit ?_
      | refine then_x ?_
      | refine then_r ?_
      | refine block_x ?_
      | refine block_n ?_
      | refine block_r ?_
      | refine aw_ret ?_
  have hb : badSg a n = false := by first | ((try simp only [Bool.not_eq_true', Bool.not_eq_false'] at *); simp only [badSg, *, Bool.true_and, Bool.false_and, Bool.and_true, Bool.and_false, Bool.true_or, Bool.false_or, Bool.or_true, Bool.or_false, Bool.not_true, Bool.not_false, cond_true, cond_false]; done) | (simp_all [badSg]; done) | (simp_all [badSg]; intros; omega)
  repeat' first
    | refine aw_seq ?_
    | refine aw_region ?_
    | refine aw_lex [] ?_
    | (refine isA ?_; refine do_F rfl ?_)
    | (refine isL ?_; refine lex_F rfl (by kernel_rfl) rfl rfl ?_)
    | (refine isLg rfl ?_; refine lex_S rfl (by kernel_rfl) rfl rfl ?_)
    | refine aops_nil ?_
    | refine lex_done _ rfl (by kernel_rfl) ?_
    | refine aw_ct rfl ?_
    | refine aw_cf rfl ?_
    | refine aw_block ?_
    | refine then_n ?_
    | refine aw_skip ?_
    | refine aw_exit ?_
    | refine then_x ?_
    | refine then_r ?_
    | refine block_x ?_
    | refine block_n ?_
    | refine block_r ?_
    | refine aw_ret ?_
  refine aw_cond rfl (fun k4 => ?_) (fun k4 => ?_)
  · repeat' first
      | refine aw_seq ?_
      | refine aw_region ?_
      | refine aw_lex [] ?_
      | (refine isA ?_; refine do_F rfl ?_)
      | (refine isL ?_; refine lex_F rfl (by kernel_rfl) rfl rfl ?_)
      | (refine isLg rfl ?_; refine lex_S rfl (by kernel_rfl) rfl rfl ?_)
      | exact (by rw [sg_more hb k4]; exact finCT (cell_is rfl rfl rfl rfl rfl) (.same rfl))
      | refine aops_nil ?_
      | refine lex_done _ rfl (by kernel_rfl) ?_
      | refine aw_ct rfl ?_
      | refine aw_cf rfl ?_
      | refine aw_block ?_
      | refine then_n ?_
      | refine aw_skip ?_
      | refine aw_exit ?_
      | refine then_x ?_
      | refine then_r ?_
      | refine block_x ?_
      | refine block_n ?_
      | refine block_r ?_
      | refine aw_ret ?_
  · repeat' first
      | refine aw_seq ?_
      | refine aw_region ?_
      | refine aw_lex [] ?_
      | (refine isA ?_; refine do_F rfl ?_)
      | (refine isL ?_; refine lex_F rfl (by kernel_rfl) rfl rfl ?_)
      | (refine isLg rfl ?_; refine lex_S rfl (by kernel_rfl) rfl rfl ?_)
      | exact (by rw [sg_less hb k4]; exact finCT (cell_is rfl rfl rfl rfl rfl) (.same rfl))
      | refine aops_nil ?_
      | refine lex_done _ rfl (by kernel_rfl) ?_
      | refine aw_ct rfl ?_
      | refine aw_cf rfl ?_
      | refine aw_block ?_
      | refine then_n ?_
      | refine aw_skip ?_
      | refine aw_exit ?_
      | refine then_x ?_
      | refine then_r ?_
      | refine block_x ?_
      | refine block_n ?_
      | refine block_r ?_
      | refine aw_ret ?_

theorem c_sna (n : Int) : Meets Go.Proofs.Try.prog 64 [I n] [] (acR (naV n)) [] true := by
  refine meets_ofCT 2 64 [3] Go.Proofs.Try.func64 rfl rfl rfl ?_
  simp only [Go.Proofs.Try.ntmps64, List.length_cons, List.length_nil, Nat.reduceAdd, Nat.reduceSub, List.replicate_succ, List.replicate_zero, List.cons_append, List.nil_append]
  repeat' first
    | refine aw_seq ?_
    | refine aw_region ?_
    | refine aw_lex [] ?_
    | (refine isA ?_; refine do_F rfl ?_)
    | (refine isL ?_; refine lex_F rfl (by kernel_rfl) rfl rfl ?_)
    | (refine isLg rfl ?_; refine lex_S rfl (by kernel_rfl) rfl rfl ?_)
    | (refine isAc 65 ?_; refine do_R rfl (st_call rfl (c_in _ _ _) (.cons (.same rfl) (.cons (.same rfl) (.cons (.same rfl) .nil))) rfl) rfl ?_)
    | (refine isLc 65 rfl ?_; refine lex_R rfl (by kernel_rfl) rfl (st_call rfl (c_in _ _ _) (.cons (.same rfl) (.cons (.same rfl) (.cons (.same rfl) .nil))) rfl) rfl ?_)
    | refine aops_nil ?_
    | refine lex_done _ rfl (by kernel_rfl) ?_
    | refine aw_ct rfl ?_
    | refine aw_cf rfl ?_
    | refine aw_block ?_
    | refine then_n ?_
    | refine aw_skip ?_
    | refine aw_exit ?_
    | refine then_x ?_
    | refine then_r ?_
    | refine block_x ?_
    | refine block_n ?_
    | refine block_r ?_
    | refine aw_ret ?_
  refine aw_cond rfl (fun k1 => ?_) (fun k1 => ?_)
  · have k1 : inV n 8 60 = false := by simpa using k1
    repeat' first
      | refine aw_seq ?_
      | refine aw_region ?_
      | refine aw_lex [] ?_
      | (refine isA ?_; refine do_F rfl ?_)
      | (refine isL ?_; refine lex_F rfl (by kernel_rfl) rfl rfl ?_)
      | (refine isLg rfl ?_; refine lex_S rfl (by kernel_rfl) rfl rfl ?_)
      | exact (by rw [naV, k1]; exact finCT (cell_is rfl rfl rfl rfl rfl) (.same rfl))
      | refine aops_nil ?_
      | refine lex_done _ rfl (by kernel_rfl) ?_
      | refine aw_ct rfl ?_
      | refine aw_cf rfl ?_
      | refine aw_block ?_
      | refine then_n ?_
      | refine aw_skip ?_
      | refine aw_exit ?_
      | refine then_x ?_
      | refine then_r ?_
      | refine block_x ?_
      | refine block_n ?_
      | refine block_r ?_
      | refine aw_ret ?_
  · have k1 : inV n 8 60 = true := by simpa using k1
    repeat' first
      | refine aw_seq ?_
      | refine aw_region ?_
      | refine aw_lex [] ?_
      | (refine isA ?_; refine do_F rfl ?_)
      | (refine isL ?_; refine lex_F rfl (by kernel_rfl) rfl rfl ?_)
      | (refine isLg rfl ?_; refine lex_S rfl (by kernel_rfl) rfl rfl ?_)
      | exact (by rw [naV, k1]; exact finCT (cell_is rfl rfl rfl rfl rfl) (.same rfl))
      | refine aops_nil ?_
      | refine lex_done _ rfl (by kernel_rfl) ?_
      | refine aw_ct rfl ?_
      | refine aw_cf rfl ?_
      | refine aw_block ?_
      | refine then_n ?_
      | refine aw_skip ?_
      | refine aw_exit ?_
      | refine then_x ?_
      | refine then_r ?_
      | refine block_x ?_
      | refine block_n ?_
      | refine block_r ?_
      | refine aw_ret ?_

theorem c_ina (n : Int) : Meets Go.Proofs.Try.prog 63 [I n] [] (acR (naV n)) [] true := by
  refine meets_ofCT 2 64 [3] Go.Proofs.Try.func63 rfl rfl rfl ?_
  simp only [Go.Proofs.Try.ntmps63, List.length_cons, List.length_nil, Nat.reduceAdd, Nat.reduceSub, List.replicate_succ, List.replicate_zero, List.cons_append, List.nil_append]
  repeat' first
    | refine aw_seq ?_
    | refine aw_region ?_
    | refine aw_lex [] ?_
    | (refine isA ?_; refine do_F rfl ?_)
    | (refine isL ?_; refine lex_F rfl (by kernel_rfl) rfl rfl ?_)
    | (refine isLg rfl ?_; refine lex_S rfl (by kernel_rfl) rfl rfl ?_)
    | (refine isAc 81 ?_; refine do_R rfl (st_call rfl (c_isGrant _) (.cons (.same rfl) .nil) rfl) rfl ?_)
    | (refine isLc 81 rfl ?_; refine lex_R rfl (by kernel_rfl) rfl (st_call rfl (c_isGrant _) (.cons (.same rfl) .nil) rfl) rfl ?_)
    | refine aops_nil ?_
    | refine lex_done _ rfl (by kernel_rfl) ?_
    | refine aw_ct rfl ?_
    | refine aw_cf rfl ?_
    | refine aw_block ?_
    | refine then_n ?_
    | refine aw_skip ?_
    | refine aw_exit ?_
    | refine then_x ?_
    | refine then_r ?_
    | refine block_x ?_
    | refine block_n ?_
    | refine block_r ?_
    | refine aw_ret ?_
  refine aw_cond rfl (fun k1 => ?_) (fun k1 => ?_)
  · have k1 : inV n 8 60 = false := by simpa using k1
    repeat' first
      | refine aw_seq ?_
      | refine aw_region ?_
      | refine aw_lex [] ?_
      | (refine isA ?_; refine do_F rfl ?_)
      | (refine isL ?_; refine lex_F rfl (by kernel_rfl) rfl rfl ?_)
      | (refine isLg rfl ?_; refine lex_S rfl (by kernel_rfl) rfl rfl ?_)
      | exact (by rw [naV, k1]; exact finCT (cell_is rfl rfl rfl rfl rfl) (.same rfl))
      | refine aops_nil ?_
      | refine lex_done _ rfl (by kernel_rfl) ?_
      | refine aw_ct rfl ?_
      | refine aw_cf rfl ?_
      | refine aw_block ?_
      | refine then_n ?_
      | refine aw_skip ?_
      | refine aw_exit ?_
      | refine then_x ?_
      | refine then_r ?_
      | refine block_x ?_
      | refine block_n ?_
      | refine block_r ?_
      | refine aw_ret ?_
  · have k1 : inV n 8 60 = true := by simpa using k1
    repeat' first
      | refine aw_seq ?_
      | refine aw_region ?_
      | refine aw_lex [] ?_
      | (refine isA ?_; refine do_F rfl ?_)
      | (refine isL ?_; refine lex_F rfl (by kernel_rfl) rfl rfl ?_)
      | (refine isLg rfl ?_; refine lex_S rfl (by kernel_rfl) rfl rfl ?_)
      | exact (by rw [naV, k1]; exact finCT (cell_is rfl rfl rfl rfl rfl) (.same rfl))
      | refine aops_nil ?_
      | refine lex_done _ rfl (by kernel_rfl) ?_
      | refine aw_ct rfl ?_
      | refine aw_cf rfl ?_
      | refine aw_block ?_
      | refine then_n ?_
      | refine aw_skip ?_
      | refine aw_exit ?_
      | refine then_x ?_
      | refine then_r ?_
      | refine block_x ?_
      | refine block_n ?_
      | refine block_r ?_
      | refine aw_ret ?_
end Go.Proofs.Ytjlhfemfmkdlhaa.Ab

/- DrwE -/
namespace Go.Proofs.Ytjlhfemfmkdlhaa.Ab
open Go.RowKit

def pkV (zs : List Int) (c : Cur) : Int := (zs[(beV zs.length c).toNat]?).getD 0
theorem c_pickL (zs : List Int) (c : Cur) (hl : c.code.length ≤ 1000000000) (h0 : 0 < zs.length) : Meets Go.Proofs.Try.prog 88 [.ptr 0 0, .lst zs.length (zs.map I)] [curR c] (I (pkV zs c)) [curR (beC zs.length c)] true := by
  obtain ⟨r0, r1⟩ := beV_range (n := zs.length) (by omega) c
  refine c_pick _ _ _ c hl h0 ?_
  have hlt : (beV zs.length c).toNat < zs.length := by omega
  rw [List.getElem?_map, pkV, List.getElem?_eq_getElem hlt]
  rfl

theorem c_drawNA (xs : List Int) (hl : xs.length ≤ 1000000000) : Meets Go.Proofs.Try.prog 62 [lstOf u8T xs] [] (I (pkV [7, 8, 60, 61, -1, 30] (newC xs))) [] true := by
  refine meets_of [2] Go.Proofs.Try.func62 rfl rfl ?_
  simp only [Go.Proofs.Try.ntmps62, List.length_cons, List.length_nil, Nat.reduceAdd, Nat.reduceSub, List.replicate_succ, List.replicate_zero, List.cons_append, List.nil_append]
  repeat' first
    | (refine isA ?_; refine do_R rfl (lit_of rfl rfl rfl rfl rfl) rfl ?_)
    | refine aw_seq ?_
    | refine aw_region ?_
    | refine aw_lex [] ?_
    | (refine isA ?_; refine do_F rfl ?_)
    | (refine isL ?_; refine lex_F rfl (by kernel_rfl) rfl rfl ?_)
    | (refine isLg rfl ?_; refine lex_S rfl (by kernel_rfl) rfl rfl ?_)
    | (refine isAc 83 ?_; refine do_R rfl (st_callK rfl (c_new xs hl) (.cons (.same rfl) .nil) (fun q hq => by simp at hq; subst hq; exact curR_noH _) rfl rfl) rfl ?_)
    | (refine isLc 83 rfl ?_; refine lex_R rfl (by kernel_rfl) rfl (st_callK rfl (c_new xs hl) (.cons (.same rfl) .nil) (fun q hq => by simp at hq; subst hq; exact curR_noH _) rfl rfl) rfl ?_)
    | (refine isAc 88 ?_; refine do_R rfl (step_callMs (K := []) (Rs' := [_]) [0] (by decide) rfl (c_pickL [7, 8, 60, 61, -1, 30] (newC xs) hl (by decide)) (.cons rfl rfl rfl (curR_noH _) (curR_noH _) .nil) (.cons (.ptr rfl) (.cons (.same rfl) .nil)) (fun q hq => by cases hq) rfl) rfl ?_)
    | (refine isLc 88 rfl ?_; refine lex_R rfl (by kernel_rfl) rfl (step_callMs (K := []) (Rs' := [_]) [0] (by decide) rfl (c_pickL [7, 8, 60, 61, -1, 30] (newC xs) hl (by decide)) (.cons rfl rfl rfl (curR_noH _) (curR_noH _) .nil) (.cons (.ptr rfl) (.cons (.same rfl) .nil)) (fun q hq => by cases hq) rfl) rfl ?_)
    | exact finP rfl (.same rfl)
    | refine aops_nil ?_
    | refine lex_done _ rfl (by kernel_rfl) ?_
    | refine aw_ct rfl ?_
    | refine aw_cf rfl ?_
    | refine aw_block ?_
    | refine then_n ?_
    | refine aw_skip ?_
    | refine aw_exit ?_
    | refine then_x ?_
    | refine then_r ?_
    | refine block_x ?_
    | refine block_n ?_
    | refine block_r ?_
    | refine aw_ret ?_

/-! ### An account, drawn -/
def turnA (p : Ac × Cur) : Ac × Cur :=
  cond (decide (beV 3 p.2 = 0)) ((chV p.1 (beV 20 (beC 3 p.2))).1, beC 20 (beC 3 p.2)) (cond (decide (beV 3 p.2 = 1)) ((reV p.1 (beV 10 (beC 3 p.2))).1, beC 10 (beC 3 p.2)) ((sgV p.1 (IntKind.i64.wrap (8 + beV 40 (beC 3 p.2)))).1, beC 40 (beC 3 p.2)))
def turnsA (p : Ac × Cur) : Nat → Ac × Cur
  | 0 => p
  | i + 1 => turnA (turnsA p i)
def lastA (p : Ac × Cur) : Ac × Cur :=
  cond (decide (beV 12 p.2 = 0)) (⟨pkV [-1, 61, IntKind.i64.wrap (p.1.p + 1)] (beC 12 p.2), p.1.g, p.1.p, p.1.s⟩, beC 3 (beC 12 p.2))
    (cond (decide (beV 12 p.2 = 1)) (⟨p.1.u, pkV [7, 61] (beC 12 p.2), p.1.p, p.1.s⟩, beC 2 (beC 12 p.2))
      (cond (decide (beV 12 p.2 = 2)) (⟨p.1.u, p.1.g, p.1.p, pkV [-1, 1000, 1001] (beC 12 p.2)⟩, beC 3 (beC 12 p.2)) (p.1, beC 12 p.2)))
def drawA (c : Cur) : Ac × Cur := lastA (turnsA ((naV (pkV [8, 20, 60] c)).1, beC 6 (beC 3 c)) (beV 6 (beC 3 c)).toNat)
theorem turnA_code (p : Ac × Cur) : (turnA p).2.code = p.2.code := by
  unfold turnA
  cases decide (beV 3 p.2 = 0) <;> cases decide (beV 3 p.2 = 1) <;> simp [beC_code]
theorem turnsA_code (p : Ac × Cur) : ∀ i, (turnsA p i).2.code = p.2.code
  | 0 => rfl
  | i + 1 => by rw [turnsA, turnA_code, turnsA_code p i]
end Go.Proofs.Ytjlhfemfmkdlhaa.Ab

/- DrwF -/
namespace Go.Proofs.Ytjlhfemfmkdlhaa.Ab
open Go.RowKit

theorem finMC1 {l : List V} {H : List Reg} {t : Tmp} {n : Nat} {v r : V} {K : Reg} (hv : CellIs l H t n v) (hr : Le [0] r v) (hH : HLes [0] H [0] [K]) :
    (Exit.ret = .ret ∨ Exit.ret = .normal) ∧ ∃ v, CellIs l H t n v ∧ Out true r [K] v ⟨l, H, 1⟩ := ⟨Or.inl rfl, v, hv, out_of (S := ⟨l, H, 1⟩) [0] fix1 (hle_of (by decide) hH) hr (Or.inl rfl)⟩

theorem c_acct (c : Cur) (hl : c.code.length ≤ 1000000000) : Meets Go.Proofs.Try.prog 91 [.ptr 0 0] [curR c] (.agg (acE (drawA c).1)) [curR (drawA c).2] true := by
  refine meets_ofC 2 64 Go.Proofs.Try.func91 rfl rfl ?_
  simp only [Go.Proofs.Try.ntmps91, List.length_cons, List.length_nil, Nat.reduceAdd, Nat.reduceSub, List.replicate_succ, List.replicate_zero, List.cons_append, List.nil_append]
  repeat' first
    | (refine isA ?_; refine do_R rfl (lit_of rfl rfl rfl rfl rfl) rfl ?_)
    | refine aw_seq ?_
    | refine aw_region ?_
    | refine aw_lex [] ?_
    | (refine isA ?_; refine do_F rfl ?_)
    | (refine isL ?_; refine lex_F rfl (by kernel_rfl) rfl rfl ?_)
    | (refine isLg rfl ?_; refine lex_S rfl (by kernel_rfl) rfl rfl ?_)
    | (refine isAc 88 ?_; refine do_R rfl (step_callMs (K := []) (Rs' := [_]) [0] (by decide) rfl (c_pickL [8, 20, 60] c hl (by decide)) (.cons rfl rfl rfl (curR_noH _) (curR_noH _) .nil) (.cons (.ptr rfl) (.cons (.same rfl) .nil)) (fun q hq => by cases hq) rfl) rfl ?_)
    | (refine isLc 88 rfl ?_; refine lex_R rfl (by kernel_rfl) rfl (step_callMs (K := []) (Rs' := [_]) [0] (by decide) rfl (c_pickL [8, 20, 60] c hl (by decide)) (.cons rfl rfl rfl (curR_noH _) (curR_noH _) .nil) (.cons (.ptr rfl) (.cons (.same rfl) .nil)) (fun q hq => by cases hq) rfl) rfl ?_)
    | (refine isAc 64 ?_; refine do_R rfl (st_call rfl (c_sna _) (.cons (.same rfl) .nil) rfl) rfl ?_)
    | (refine isLc 64 rfl ?_; refine lex_R rfl (by kernel_rfl) rfl (st_call rfl (c_sna _) (.cons (.same rfl) .nil) rfl) rfl ?_)
    | (refine isAc 90 ?_; refine do_R rfl (step_callMs (K := []) (Rs' := [_]) [0] (by decide) rfl (c_below 6 (beC 3 c) hl) (.cons rfl rfl rfl (curR_noH _) (curR_noH _) .nil) (.cons (.ptr rfl) (.cons (.same rfl) .nil)) (fun q hq => by cases hq) rfl) rfl ?_)
    | (refine isLc 90 rfl ?_; refine lex_R rfl (by kernel_rfl) rfl (step_callMs (K := []) (Rs' := [_]) [0] (by decide) rfl (c_below 6 (beC 3 c) hl) (.cons rfl rfl rfl (curR_noH _) (curR_noH _) .nil) (.cons (.ptr rfl) (.cons (.same rfl) .nil)) (fun q hq => by cases hq) rfl) rfl ?_)
    | refine aops_nil ?_
    | refine lex_done _ rfl (by kernel_rfl) ?_
    | refine aw_ct rfl ?_
    | refine aw_cf rfl ?_
    | refine aw_block ?_
    | refine then_n ?_
    | refine aw_skip ?_
    | refine aw_exit ?_
    | refine then_x ?_
    | refine then_r ?_
    | refine block_x ?_
    | refine block_n ?_
    | refine block_r ?_
    | refine aw_ret ?_
  obtain ⟨k0, k1⟩ := beV_range (n := 6) (by omega) (beC 3 c)
  obtain ⟨k, hk⟩ : ∃ k : Nat, beV 6 (beC 3 c) = k := ⟨(beV 6 (beC 3 c)).toNat, by omega⟩
  generalize hp : ((naV (pkV [8, 20, 60] c)).1, beC 6 (beC 3 c)) = p
  have hda : drawA c = lastA (turnsA p k) := by rw [drawA, hp, hk]; rfl
  have hpc : p.2.code.length ≤ 1000000000 := by rw [← hp]; show (beC 6 (beC 3 c)).code.length ≤ _; rw [beC_code, beC_code]; exact hl
  refine aw_loop (α := { j : Nat // j ≤ k }) (fun j => ⟨[.ptr 0 0, .any, .ptr 1 0, .ptr 2 0, .any, I ((k : Int) - j.1), .any, .any, .any, .any, .any, .any, .any, .any, .any, .any, .any, .any, .any, .any, .any, .any, .any, .any, .any, .any, .any, .any, .any, .any, .any, .any, .any, .any, .any, .any, .any, .any, .any, .any, .any, .any, .any, .any, .any, .any, .any, .any, .any, .any, .any, .any, .any, .any, .any, .any, .any, .any, .any, .any, .any, .any, .any, .any, .any, .any, .any, .any, .any, .any, .any], [curR (turnsA p j.1).2, ⟨64, 4, [I 0, I 0, I 0, I 0], 0⟩, ⟨64, 4, acE (turnsA p j.1).1, 0⟩], 1⟩) (fun j => k - j.1) ⟨0, Nat.zero_le _⟩ ?_ ?_
  · exact subm 1 [0, 1, 2] rfl rfl fix1 (by decide) (.cons rfl rfl rfl rfl (les_eq (by rw [turnsA, ← hp]) (curR_noH _)) (.cons rfl rfl rfl rfl (les_refl' rfl) (.cons rfl rfl rfl rfl (les_eq (by rw [turnsA, ← hp]; rfl) (noHs_mem rfl)) .nil))) (by
      repeat' first
        | exact les_nil
        | refine les_cons ?_ ?_
        | exact le_any
        | exact le_refl rfl
        | exact le_ptr rfl
        | exact le_k (congrArg _ (by rw [hk]; simp)))
  · rintro ⟨j, hj⟩
    have hcl : (beC 3 (turnsA p j).2).code.length ≤ 1000000000 := by rw [beC_code, turnsA_code]; exact hpc
    have hcl0 : (turnsA p j).2.code.length ≤ 1000000000 := by rw [turnsA_code]; exact hpc
    repeat' first
      | refine aw_seq ?_
      | refine aw_region ?_
      | refine aw_lex [] ?_
      | (refine isA ?_; refine do_F rfl ?_)
      | (refine isL ?_; refine lex_F rfl (by kernel_rfl) rfl rfl ?_)
      | (refine isLg rfl ?_; refine lex_S rfl (by kernel_rfl) rfl rfl ?_)
      | refine aops_nil ?_
      | refine lex_done _ rfl (by kernel_rfl) ?_
      | refine aw_ct rfl ?_
      | refine aw_cf rfl ?_
      | refine aw_block ?_
      | refine then_n ?_
      | refine aw_skip ?_
      | refine aw_exit ?_
      | refine then_x ?_
      | refine then_r ?_
      | refine block_x ?_
      | refine block_n ?_
      | refine block_r ?_
      | refine aw_ret ?_
    refine aw_cond rfl (fun h => ?_) (fun h => ?_)
    · have hlt : j < k := by have := of_decide_eq_true h; simp only at this; omega
      repeat' first
        | refine aw_seq ?_
        | refine aw_region ?_
        | refine aw_lex [] ?_
        | (refine isA ?_; refine do_F rfl ?_)
        | (refine isL ?_; refine lex_F rfl (by kernel_rfl) rfl rfl ?_)
        | (refine isLg rfl ?_; refine lex_S rfl (by kernel_rfl) rfl rfl ?_)
        | (refine isAc 90 ?_; refine do_R rfl (step_callMs (K := []) (Rs' := [_]) [0] (by decide) rfl (c_below 3 (turnsA p j).2 hcl0) (.cons rfl rfl rfl (curR_noH _) (curR_noH _) .nil) (.cons (.ptr rfl) (.cons (.same rfl) .nil)) (fun q hq => by cases hq) rfl) rfl ?_)
        | (refine isLc 90 rfl ?_; refine lex_R rfl (by kernel_rfl) rfl (step_callMs (K := []) (Rs' := [_]) [0] (by decide) rfl (c_below 3 (turnsA p j).2 hcl0) (.cons rfl rfl rfl (curR_noH _) (curR_noH _) .nil) (.cons (.ptr rfl) (.cons (.same rfl) .nil)) (fun q hq => by cases hq) rfl) rfl ?_)
        | refine aops_nil ?_
        | refine lex_done _ rfl (by kernel_rfl) ?_
        | refine aw_ct rfl ?_
        | refine aw_cf rfl ?_
        | refine aw_block ?_
        | refine then_n ?_
        | refine aw_skip ?_
        | refine aw_exit ?_
        | refine then_x ?_
        | refine then_r ?_
        | refine block_x ?_
        | refine block_n ?_
        | refine block_r ?_
        | refine aw_ret ?_
      refine aw_cond rfl (fun a0 => ?_) (fun a0 => ?_)
      · have E : turnsA p (j + 1) = ((chV (turnsA p j).1 (beV 20 (beC 3 (turnsA p j).2))).1, beC 20 (beC 3 (turnsA p j).2)) := by rw [turnsA, turnA, a0]; rfl
        refine aw_per [2, 7] 8 rfl ?_
        refine per_P 1 rfl (by kernel_rfl) rfl (fun _ => rfl) rfl ?_
        refine per_2F 2 0 rfl rfl (by kernel_rfl) (by kernel_rfl) rfl rfl (step_callMs (K := []) (Rs' := [_]) [0] (by decide) rfl (c_below 20 (beC 3 (turnsA p j).2) hcl) (.cons rfl rfl rfl (curR_noH _) (curR_noH _) .nil) (.cons (.ptr rfl) (.cons (.same rfl) .nil)) (fun q hq => by cases hq) rfl) rfl rfl rfl rfl ?_ ?_
        · refine per_F 0 rfl (by kernel_rfl) rfl rfl rfl ?_
          refine per_R 3 rfl (by kernel_rfl) rfl (st_call rfl (c_sch (turnsA p j).1 _) (.cons (.same rfl) (.cons (.same rfl) .nil)) rfl) rfl ?_
          refine per_P 4 rfl (by kernel_rfl) rfl (fun _ => rfl) rfl ?_
          refine per_P 5 rfl (by kernel_rfl) rfl (fun _ => rfl) rfl ?_
          refine per_P 6 rfl (by kernel_rfl) rfl (fun _ => rfl) rfl ?_
          refine per_W 7 rfl (by kernel_rfl) rfl rfl (store_ok (m := 1) (T := tab) TabC.ok rfl rfl rfl rfl rfl rfl rfl rfl rfl rfl) rfl ?_
          refine per_done (by kernel_rfl) ?_
          repeat' first
            | refine aw_seq ?_
            | refine aw_region ?_
            | refine aw_lex [] ?_
            | (refine isA ?_; refine do_F rfl ?_)
            | (refine isL ?_; refine lex_F rfl (by kernel_rfl) rfl rfl ?_)
            | (refine isLg rfl ?_; refine lex_S rfl (by kernel_rfl) rfl rfl ?_)
            | refine aops_nil ?_
            | refine lex_done _ rfl (by kernel_rfl) ?_
            | refine aw_ct rfl ?_
            | refine aw_cf rfl ?_
            | refine aw_block ?_
            | refine then_n ?_
            | refine aw_skip ?_
            | refine aw_exit ?_
            | refine then_x ?_
            | refine then_r ?_
            | refine block_x ?_
            | refine block_n ?_
            | refine block_r ?_
            | refine aw_ret ?_
          refine ⟨⟨j + 1, by omega⟩, by simp only; omega, ?_⟩
          exact subm 1 [0, 1, 2] rfl rfl fix1 (by decide) (.cons rfl rfl rfl rfl (les_eq (by rw [E]) (curR_noH _)) (.cons rfl rfl rfl rfl (les_refl' rfl) (.cons rfl rfl rfl rfl (les_eq (by rw [E]; rfl) (noHs_mem rfl)) .nil))) (by
            repeat' first
              | exact les_nil
              | refine les_cons ?_ ?_
              | exact le_any
              | exact le_refl rfl
              | exact le_ptr rfl
              | exact le_k (congrArg _ (show (k : Int) - ((j + 1 : Nat) : Int) = IntKind.i64.wrap ((k : Int) - (j : Int) - 1) by rw [IntKind.wrap_i64]; omega)))
        · refine per_W 2 rfl (by kernel_rfl) rfl rfl (step_callMs (K := []) (Rs' := [_]) [0] (by decide) rfl (c_below 20 (beC 3 (turnsA p j).2) hcl) (.cons rfl rfl rfl (curR_noH _) (curR_noH _) .nil) (.cons (.ptr rfl) (.cons (.same rfl) .nil)) (fun q hq => by cases hq) rfl) rfl ?_
          refine per_R 3 rfl (by kernel_rfl) rfl (st_call rfl (c_sch (turnsA p j).1 _) (.cons (.same rfl) (.cons (.same rfl) .nil)) rfl) rfl ?_
          refine per_P 4 rfl (by kernel_rfl) rfl (fun _ => rfl) rfl ?_
          refine per_P 5 rfl (by kernel_rfl) rfl (fun _ => rfl) rfl ?_
          refine per_P 6 rfl (by kernel_rfl) rfl (fun _ => rfl) rfl ?_
          refine per_W 7 rfl (by kernel_rfl) rfl rfl (store_ok (m := 1) (T := tab) TabC.ok rfl rfl rfl rfl rfl rfl rfl rfl rfl rfl) rfl ?_
          refine per_done (by kernel_rfl) ?_
          repeat' first
            | refine aw_seq ?_
            | refine aw_region ?_
            | refine aw_lex [] ?_
            | (refine isA ?_; refine do_F rfl ?_)
            | (refine isL ?_; refine lex_F rfl (by kernel_rfl) rfl rfl ?_)
            | (refine isLg rfl ?_; refine lex_S rfl (by kernel_rfl) rfl rfl ?_)
            | refine aops_nil ?_
            | refine lex_done _ rfl (by kernel_rfl) ?_
            | refine aw_ct rfl ?_
            | refine aw_cf rfl ?_
            | refine aw_block ?_
            | refine then_n ?_
            | refine aw_skip ?_
            | refine aw_exit ?_
            | refine then_x ?_
            | refine then_r ?_
            | refine block_x ?_
            | refine block_n ?_
            | refine block_r ?_
            | refine aw_ret ?_
          refine ⟨⟨j + 1, by omega⟩, by simp only; omega, ?_⟩
          exact subm 1 [0, 1, 2] rfl rfl fix1 (by decide) (.cons rfl rfl rfl rfl (les_eq (by rw [E]) (curR_noH _)) (.cons rfl rfl rfl rfl (les_refl' rfl) (.cons rfl rfl rfl rfl (les_eq (by rw [E]; rfl) (noHs_mem rfl)) .nil))) (by
            repeat' first
              | exact les_nil
              | refine les_cons ?_ ?_
              | exact le_any
              | exact le_refl rfl
              | exact le_ptr rfl
              | exact le_k (congrArg _ (show (k : Int) - ((j + 1 : Nat) : Int) = IntKind.i64.wrap ((k : Int) - (j : Int) - 1) by rw [IntKind.wrap_i64]; omega)))
      · repeat' first
          | refine aw_seq ?_
          | refine aw_region ?_
          | refine aw_lex [] ?_
          | (refine isA ?_; refine do_F rfl ?_)
          | (refine isL ?_; refine lex_F rfl (by kernel_rfl) rfl rfl ?_)
          | (refine isLg rfl ?_; refine lex_S rfl (by kernel_rfl) rfl rfl ?_)
          | refine aops_nil ?_
          | refine lex_done _ rfl (by kernel_rfl) ?_
          | refine aw_ct rfl ?_
          | refine aw_cf rfl ?_
          | refine aw_block ?_
          | refine then_n ?_
          | refine aw_skip ?_
          | refine aw_exit ?_
          | refine then_x ?_
          | refine then_r ?_
          | refine block_x ?_
          | refine block_n ?_
          | refine block_r ?_
          | refine aw_ret ?_
        refine aw_cond rfl (fun a1 => ?_) (fun a1 => ?_)
        · have E : turnsA p (j + 1) = ((reV (turnsA p j).1 (beV 10 (beC 3 (turnsA p j).2))).1, beC 10 (beC 3 (turnsA p j).2)) := by rw [turnsA, turnA, a0, a1]; rfl
          refine aw_per [2, 7] 8 rfl ?_
          refine per_P 1 rfl (by kernel_rfl) rfl (fun _ => rfl) rfl ?_
          refine per_2F 2 0 rfl rfl (by kernel_rfl) (by kernel_rfl) rfl rfl (step_callMs (K := []) (Rs' := [_]) [0] (by decide) rfl (c_below 10 (beC 3 (turnsA p j).2) hcl) (.cons rfl rfl rfl (curR_noH _) (curR_noH _) .nil) (.cons (.ptr rfl) (.cons (.same rfl) .nil)) (fun q hq => by cases hq) rfl) rfl rfl rfl rfl ?_ ?_
          · refine per_F 0 rfl (by kernel_rfl) rfl rfl rfl ?_
            refine per_R 3 rfl (by kernel_rfl) rfl (st_call rfl (c_srel (turnsA p j).1 _) (.cons (.same rfl) (.cons (.same rfl) .nil)) rfl) rfl ?_
            refine per_P 4 rfl (by kernel_rfl) rfl (fun _ => rfl) rfl ?_
            refine per_P 5 rfl (by kernel_rfl) rfl (fun _ => rfl) rfl ?_
            refine per_P 6 rfl (by kernel_rfl) rfl (fun _ => rfl) rfl ?_
            refine per_W 7 rfl (by kernel_rfl) rfl rfl (store_ok (m := 1) (T := tab) TabC.ok rfl rfl rfl rfl rfl rfl rfl rfl rfl rfl) rfl ?_
            refine per_done (by kernel_rfl) ?_
            repeat' first
              | refine aw_seq ?_
              | refine aw_region ?_
              | refine aw_lex [] ?_
              | (refine isA ?_; refine do_F rfl ?_)
              | (refine isL ?_; refine lex_F rfl (by kernel_rfl) rfl rfl ?_)
              | (refine isLg rfl ?_; refine lex_S rfl (by kernel_rfl) rfl rfl ?_)
              | refine aops_nil ?_
              | refine lex_done _ rfl (by kernel_rfl) ?_
              | refine aw_ct rfl ?_
              | refine aw_cf rfl ?_
              | refine aw_block ?_
              | refine then_n ?_
              | refine aw_skip ?_
              | refine aw_exit ?_
              | refine then_x ?_
              | refine then_r ?_
              | refine block_x ?_
              | refine block_n ?_
              | refine block_r ?_
              | refine aw_ret ?_
            refine ⟨⟨j + 1, by omega⟩, by simp only; omega, ?_⟩
            exact subm 1 [0, 1, 2] rfl rfl fix1 (by decide) (.cons rfl rfl rfl rfl (les_eq (by rw [E]) (curR_noH _)) (.cons rfl rfl rfl rfl (les_refl' rfl) (.cons rfl rfl rfl rfl (les_eq (by rw [E]; rfl) (noHs_mem rfl)) .nil))) (by
              repeat' first
                | exact les_nil
                | refine les_cons ?_ ?_
                | exact le_any
                | exact le_refl rfl
                | exact le_ptr rfl
                | exact le_k (congrArg _ (show (k : Int) - ((j + 1 : Nat) : Int) = IntKind.i64.wrap ((k : Int) - (j : Int) - 1) by rw [IntKind.wrap_i64]; omega)))
          · refine per_W 2 rfl (by kernel_rfl) rfl rfl (step_callMs (K := []) (Rs' := [_]) [0] (by decide) rfl (c_below 10 (beC 3 (turnsA p j).2) hcl) (.cons rfl rfl rfl (curR_noH _) (curR_noH _) .nil) (.cons (.ptr rfl) (.cons (.same rfl) .nil)) (fun q hq => by cases hq) rfl) rfl ?_
            refine per_R 3 rfl (by kernel_rfl) rfl (st_call rfl (c_srel (turnsA p j).1 _) (.cons (.same rfl) (.cons (.same rfl) .nil)) rfl) rfl ?_
            refine per_P 4 rfl (by kernel_rfl) rfl (fun _ => rfl) rfl ?_
            refine per_P 5 rfl (by kernel_rfl) rfl (fun _ => rfl) rfl ?_
            refine per_P 6 rfl (by kernel_rfl) rfl (fun _ => rfl) rfl ?_
            refine per_W 7 rfl (by kernel_rfl) rfl rfl (store_ok (m := 1) (T := tab) TabC.ok rfl rfl rfl rfl rfl rfl rfl rfl rfl rfl) rfl ?_
            refine per_done (by kernel_rfl) ?_
            repeat' first
              | refine aw_seq ?_
              | refine aw_region ?_
              | refine aw_lex [] ?_
              | (refine isA ?_; refine do_F rfl ?_)
              | (refine isL ?_; refine lex_F rfl (by kernel_rfl) rfl rfl ?_)
              | (refine isLg rfl ?_; refine lex_S rfl (by kernel_rfl) rfl rfl ?_)
              | refine aops_nil ?_
              | refine lex_done _ rfl (by kernel_rfl) ?_
              | refine aw_ct rfl ?_
              | refine aw_cf rfl ?_
              | refine aw_block ?_
              | refine then_n ?_
              | refine aw_skip ?_
              | refine aw_exit ?_
              | refine then_x ?_
              | refine then_r ?_
              | refine block_x ?_
              | refine block_n ?_
              | refine block_r ?_
              | refine aw_ret ?_
            refine ⟨⟨j + 1, by omega⟩, by simp only; omega, ?_⟩
            exact subm 1 [0, 1, 2] rfl rfl fix1 (by decide) (.cons rfl rfl rfl rfl (les_eq (by rw [E]) (curR_noH _)) (.cons rfl rfl rfl rfl (les_refl' rfl) (.cons rfl rfl rfl rfl (les_eq (by rw [E]; rfl) (noHs_mem rfl)) .nil))) (by
              repeat' first
                | exact les_nil
                | refine les_cons ?_ ?_
                | exact le_any
                | exact le_refl rfl
                | exact le_ptr rfl
                | exact le_k (congrArg _ (show (k : Int) - ((j + 1 : Nat) : Int) = IntKind.i64.wrap ((k : Int) - (j : Int) - 1) by rw [IntKind.wrap_i64]; omega)))
        · have E : turnsA p (j + 1) = ((sgV (turnsA p j).1 (IntKind.i64.wrap (8 + beV 40 (beC 3 (turnsA p j).2)))).1, beC 40 (beC 3 (turnsA p j).2)) := by rw [turnsA, turnA, a0, a1]; rfl
          refine aw_per [2, 8] 9 rfl ?_
          refine per_P 1 rfl (by kernel_rfl) rfl (fun _ => rfl) rfl ?_
          refine per_2F 2 0 rfl rfl (by kernel_rfl) (by kernel_rfl) rfl rfl (step_callMs (K := []) (Rs' := [_]) [0] (by decide) rfl (c_below 40 (beC 3 (turnsA p j).2) hcl) (.cons rfl rfl rfl (curR_noH _) (curR_noH _) .nil) (.cons (.ptr rfl) (.cons (.same rfl) .nil)) (fun q hq => by cases hq) rfl) rfl rfl rfl rfl ?_ ?_
          · refine per_F 0 rfl (by kernel_rfl) rfl rfl rfl ?_
            refine per_P 3 rfl (by kernel_rfl) rfl (fun _ => rfl) rfl ?_
            refine per_R 4 rfl (by kernel_rfl) rfl (st_call rfl (c_ssg (turnsA p j).1 _) (.cons (.same rfl) (.cons (.same rfl) .nil)) rfl) rfl ?_
            refine per_P 5 rfl (by kernel_rfl) rfl (fun _ => rfl) rfl ?_
            refine per_P 6 rfl (by kernel_rfl) rfl (fun _ => rfl) rfl ?_
            refine per_P 7 rfl (by kernel_rfl) rfl (fun _ => rfl) rfl ?_
            refine per_W 8 rfl (by kernel_rfl) rfl rfl (store_ok (m := 1) (T := tab) TabC.ok rfl rfl rfl rfl rfl rfl rfl rfl rfl rfl) rfl ?_
            refine per_done (by kernel_rfl) ?_
            repeat' first
              | refine aw_seq ?_
              | refine aw_region ?_
              | refine aw_lex [] ?_
              | (refine isA ?_; refine do_F rfl ?_)
              | (refine isL ?_; refine lex_F rfl (by kernel_rfl) rfl rfl ?_)
              | (refine isLg rfl ?_; refine lex_S rfl (by kernel_rfl) rfl rfl ?_)
              | refine aops_nil ?_
              | refine lex_done _ rfl (by kernel_rfl) ?_
              | refine aw_ct rfl ?_
              | refine aw_cf rfl ?_
              | refine aw_block ?_
              | refine then_n ?_
              | refine aw_skip ?_
              | refine aw_exit ?_
              | refine then_x ?_
              | refine then_r ?_
              | refine block_x ?_
              | refine block_n ?_
              | refine block_r ?_
              | refine aw_ret ?_
            refine ⟨⟨j + 1, by omega⟩, by simp only; omega, ?_⟩
            exact subm 1 [0, 1, 2] rfl rfl fix1 (by decide) (.cons rfl rfl rfl rfl (les_eq (by rw [E]) (curR_noH _)) (.cons rfl rfl rfl rfl (les_refl' rfl) (.cons rfl rfl rfl rfl (les_eq (by rw [E]; rfl) (noHs_mem rfl)) .nil))) (by
              repeat' first
                | exact les_nil
                | refine les_cons ?_ ?_
                | exact le_any
                | exact le_refl rfl
                | exact le_ptr rfl
                | exact le_k (congrArg _ (show (k : Int) - ((j + 1 : Nat) : Int) = IntKind.i64.wrap ((k : Int) - (j : Int) - 1) by rw [IntKind.wrap_i64]; omega)))
          · refine per_W 2 rfl (by kernel_rfl) rfl rfl (step_callMs (K := []) (Rs' := [_]) [0] (by decide) rfl (c_below 40 (beC 3 (turnsA p j).2) hcl) (.cons rfl rfl rfl (curR_noH _) (curR_noH _) .nil) (.cons (.ptr rfl) (.cons (.same rfl) .nil)) (fun q hq => by cases hq) rfl) rfl ?_
            refine per_P 3 rfl (by kernel_rfl) rfl (fun _ => rfl) rfl ?_
            refine per_R 4 rfl (by kernel_rfl) rfl (st_call rfl (c_ssg (turnsA p j).1 _) (.cons (.same rfl) (.cons (.same rfl) .nil)) rfl) rfl ?_
            refine per_P 5 rfl (by kernel_rfl) rfl (fun _ => rfl) rfl ?_
            refine per_P 6 rfl (by kernel_rfl) rfl (fun _ => rfl) rfl ?_
            refine per_P 7 rfl (by kernel_rfl) rfl (fun _ => rfl) rfl ?_
            refine per_W 8 rfl (by kernel_rfl) rfl rfl (store_ok (m := 1) (T := tab) TabC.ok rfl rfl rfl rfl rfl rfl rfl rfl rfl rfl) rfl ?_
            refine per_done (by kernel_rfl) ?_
            repeat' first
              | refine aw_seq ?_
              | refine aw_region ?_
              | refine aw_lex [] ?_
              | (refine isA ?_; refine do_F rfl ?_)
              | (refine isL ?_; refine lex_F rfl (by kernel_rfl) rfl rfl ?_)
              | (refine isLg rfl ?_; refine lex_S rfl (by kernel_rfl) rfl rfl ?_)
              | refine aops_nil ?_
              | refine lex_done _ rfl (by kernel_rfl) ?_
              | refine aw_ct rfl ?_
              | refine aw_cf rfl ?_
              | refine aw_block ?_
              | refine then_n ?_
              | refine aw_skip ?_
              | refine aw_exit ?_
              | refine then_x ?_
              | refine then_r ?_
              | refine block_x ?_
              | refine block_n ?_
              | refine block_r ?_
              | refine aw_ret ?_
            refine ⟨⟨j + 1, by omega⟩, by simp only; omega, ?_⟩
            exact subm 1 [0, 1, 2] rfl rfl fix1 (by decide) (.cons rfl rfl rfl rfl (les_eq (by rw [E]) (curR_noH _)) (.cons rfl rfl rfl rfl (les_refl' rfl) (.cons rfl rfl rfl rfl (les_eq (by rw [E]; rfl) (noHs_mem rfl)) .nil))) (by
              repeat' first
                | exact les_nil
                | refine les_cons ?_ ?_
                | exact le_any
                | exact le_refl rfl
                | exact le_ptr rfl
                | exact le_k (congrArg _ (show (k : Int) - ((j + 1 : Nat) : Int) = IntKind.i64.wrap ((k : Int) - (j : Int) - 1) by rw [IntKind.wrap_i64]; omega)))
    · have hge : j = k := by have := of_decide_eq_false h; simp only at this; omega
      subst hge
      have hcp : (beC 12 (turnsA p j).2).code.length ≤ 1000000000 := by rw [beC_code]; exact hcl0
      repeat' first
        | refine aw_seq ?_
        | refine aw_region ?_
        | refine aw_lex [] ?_
        | (refine isA ?_; refine do_F rfl ?_)
        | (refine isL ?_; refine lex_F rfl (by kernel_rfl) rfl rfl ?_)
        | (refine isLg rfl ?_; refine lex_S rfl (by kernel_rfl) rfl rfl ?_)
        | (refine isAc 90 ?_; refine do_R rfl (step_callMs (K := []) (Rs' := [_]) [0] (by decide) rfl (c_below 12 (turnsA p j).2 hcl0) (.cons rfl rfl rfl (curR_noH _) (curR_noH _) .nil) (.cons (.ptr rfl) (.cons (.same rfl) .nil)) (fun q hq => by cases hq) rfl) rfl ?_)
        | (refine isLc 90 rfl ?_; refine lex_R rfl (by kernel_rfl) rfl (step_callMs (K := []) (Rs' := [_]) [0] (by decide) rfl (c_below 12 (turnsA p j).2 hcl0) (.cons rfl rfl rfl (curR_noH _) (curR_noH _) .nil) (.cons (.ptr rfl) (.cons (.same rfl) .nil)) (fun q hq => by cases hq) rfl) rfl ?_)
        | refine aops_nil ?_
        | refine lex_done _ rfl (by kernel_rfl) ?_
        | refine aw_ct rfl ?_
        | refine aw_cf rfl ?_
        | refine aw_block ?_
        | refine then_n ?_
        | refine aw_skip ?_
        | refine aw_exit ?_
        | refine then_x ?_
        | refine then_r ?_
        | refine block_x ?_
        | refine block_n ?_
        | refine block_r ?_
        | refine aw_ret ?_
      refine aw_cond rfl (fun b0 => ?_) (fun b0 => ?_)
      · skip
        have D : drawA c = (⟨pkV [-1, 61, IntKind.i64.wrap ((turnsA p j).1.p + 1)] (beC 12 (turnsA p j).2), (turnsA p j).1.g, (turnsA p j).1.p, (turnsA p j).1.s⟩, beC 3 (beC 12 (turnsA p j).2)) := by rw [hda, lastA, b0]; rfl
        repeat' first
          | (refine isA ?_; refine do_R rfl (lit_of rfl rfl rfl rfl rfl) rfl ?_)
          | refine aw_seq ?_
          | refine aw_region ?_
          | refine aw_lex [] ?_
          | (refine isA ?_; refine do_F rfl ?_)
          | (refine isL ?_; refine lex_F rfl (by kernel_rfl) rfl rfl ?_)
          | (refine isLg rfl ?_; refine lex_S rfl (by kernel_rfl) rfl rfl ?_)
          | (refine isAc 88 ?_; refine do_R rfl (step_callMs (K := []) (Rs' := [_]) [0] (by decide) rfl (c_pickL [-1, 61, IntKind.i64.wrap ((turnsA p j).1.p + 1)] (beC 12 (turnsA p j).2) hcp (Nat.zero_lt_succ _)) (.cons rfl rfl rfl (curR_noH _) (curR_noH _) .nil) (.cons (.ptr rfl) (.cons (.same rfl) .nil)) (fun q hq => by cases hq) rfl) rfl ?_)
          | (refine isLc 88 rfl ?_; refine lex_R rfl (by kernel_rfl) rfl (step_callMs (K := []) (Rs' := [_]) [0] (by decide) rfl (c_pickL [-1, 61, IntKind.i64.wrap ((turnsA p j).1.p + 1)] (beC 12 (turnsA p j).2) hcp (Nat.zero_lt_succ _)) (.cons rfl rfl rfl (curR_noH _) (curR_noH _) .nil) (.cons (.ptr rfl) (.cons (.same rfl) .nil)) (fun q hq => by cases hq) rfl) rfl ?_)
          | exact (by rw [D]; exact finMC1 (cell_is rfl rfl rfl rfl rfl) (le_refl rfl) (.cons rfl rfl rfl rfl (les_refl (curR_noH _)) .nil))
          | refine aops_nil ?_
          | refine lex_done _ rfl (by kernel_rfl) ?_
          | refine aw_ct rfl ?_
          | refine aw_cf rfl ?_
          | refine aw_block ?_
          | refine then_n ?_
          | refine aw_skip ?_
          | refine aw_exit ?_
          | refine then_x ?_
          | refine then_r ?_
          | refine block_x ?_
          | refine block_n ?_
          | refine block_r ?_
          | refine aw_ret ?_
      · repeat' first
          | refine aw_seq ?_
          | refine aw_region ?_
          | refine aw_lex [] ?_
          | (refine isA ?_; refine do_F rfl ?_)
          | (refine isL ?_; refine lex_F rfl (by kernel_rfl) rfl rfl ?_)
          | (refine isLg rfl ?_; refine lex_S rfl (by kernel_rfl) rfl rfl ?_)
          | refine aops_nil ?_
          | refine lex_done _ rfl (by kernel_rfl) ?_
          | refine aw_ct rfl ?_
          | refine aw_cf rfl ?_
          | refine aw_block ?_
          | refine then_n ?_
          | refine aw_skip ?_
          | refine aw_exit ?_
          | refine then_x ?_
          | refine then_r ?_
          | refine block_x ?_
          | refine block_n ?_
          | refine block_r ?_
          | refine aw_ret ?_
        refine aw_cond rfl (fun b1 => ?_) (fun b1 => ?_)
        · skip
          have D : drawA c = (⟨(turnsA p j).1.u, pkV [7, 61] (beC 12 (turnsA p j).2), (turnsA p j).1.p, (turnsA p j).1.s⟩, beC 2 (beC 12 (turnsA p j).2)) := by rw [hda, lastA, b0, b1]; rfl
          repeat' first
            | (refine isA ?_; refine do_R rfl (lit_of rfl rfl rfl rfl rfl) rfl ?_)
            | refine aw_seq ?_
            | refine aw_region ?_
            | refine aw_lex [] ?_
            | (refine isA ?_; refine do_F rfl ?_)
            | (refine isL ?_; refine lex_F rfl (by kernel_rfl) rfl rfl ?_)
            | (refine isLg rfl ?_; refine lex_S rfl (by kernel_rfl) rfl rfl ?_)
            | (refine isAc 88 ?_; refine do_R rfl (step_callMs (K := []) (Rs' := [_]) [0] (by decide) rfl (c_pickL [7, 61] (beC 12 (turnsA p j).2) hcp (Nat.zero_lt_succ _)) (.cons rfl rfl rfl (curR_noH _) (curR_noH _) .nil) (.cons (.ptr rfl) (.cons (.same rfl) .nil)) (fun q hq => by cases hq) rfl) rfl ?_)
            | (refine isLc 88 rfl ?_; refine lex_R rfl (by kernel_rfl) rfl (step_callMs (K := []) (Rs' := [_]) [0] (by decide) rfl (c_pickL [7, 61] (beC 12 (turnsA p j).2) hcp (Nat.zero_lt_succ _)) (.cons rfl rfl rfl (curR_noH _) (curR_noH _) .nil) (.cons (.ptr rfl) (.cons (.same rfl) .nil)) (fun q hq => by cases hq) rfl) rfl ?_)
            | exact (by rw [D]; exact finMC1 (cell_is rfl rfl rfl rfl rfl) (le_refl rfl) (.cons rfl rfl rfl rfl (les_refl (curR_noH _)) .nil))
            | refine aops_nil ?_
            | refine lex_done _ rfl (by kernel_rfl) ?_
            | refine aw_ct rfl ?_
            | refine aw_cf rfl ?_
            | refine aw_block ?_
            | refine then_n ?_
            | refine aw_skip ?_
            | refine aw_exit ?_
            | refine then_x ?_
            | refine then_r ?_
            | refine block_x ?_
            | refine block_n ?_
            | refine block_r ?_
            | refine aw_ret ?_
        · repeat' first
            | refine aw_seq ?_
            | refine aw_region ?_
            | refine aw_lex [] ?_
            | (refine isA ?_; refine do_F rfl ?_)
            | (refine isL ?_; refine lex_F rfl (by kernel_rfl) rfl rfl ?_)
            | (refine isLg rfl ?_; refine lex_S rfl (by kernel_rfl) rfl rfl ?_)
            | refine aops_nil ?_
            | refine lex_done _ rfl (by kernel_rfl) ?_
            | refine aw_ct rfl ?_
            | refine aw_cf rfl ?_
            | refine aw_block ?_
            | refine then_n ?_
            | refine aw_skip ?_
            | refine aw_exit ?_
            | refine then_x ?_
            | refine then_r ?_
            | refine block_x ?_
            | refine block_n ?_
            | refine block_r ?_
            | refine aw_ret ?_
          refine aw_cond rfl (fun b2 => ?_) (fun b2 => ?_)
          · skip
            have D : drawA c = (⟨(turnsA p j).1.u, (turnsA p j).1.g, (turnsA p j).1.p, pkV [-1, 1000, 1001] (beC 12 (turnsA p j).2)⟩, beC 3 (beC 12 (turnsA p j).2)) := by rw [hda, lastA, b0, b1, b2]; rfl
            repeat' first
              | (refine isA ?_; refine do_R rfl (lit_of rfl rfl rfl rfl rfl) rfl ?_)
              | refine aw_seq ?_
              | refine aw_region ?_
              | refine aw_lex [] ?_
              | (refine isA ?_; refine do_F rfl ?_)
              | (refine isL ?_; refine lex_F rfl (by kernel_rfl) rfl rfl ?_)
              | (refine isLg rfl ?_; refine lex_S rfl (by kernel_rfl) rfl rfl ?_)
              | (refine isAc 88 ?_; refine do_R rfl (step_callMs (K := []) (Rs' := [_]) [0] (by decide) rfl (c_pickL [-1, 1000, 1001] (beC 12 (turnsA p j).2) hcp (Nat.zero_lt_succ _)) (.cons rfl rfl rfl (curR_noH _) (curR_noH _) .nil) (.cons (.ptr rfl) (.cons (.same rfl) .nil)) (fun q hq => by cases hq) rfl) rfl ?_)
              | (refine isLc 88 rfl ?_; refine lex_R rfl (by kernel_rfl) rfl (step_callMs (K := []) (Rs' := [_]) [0] (by decide) rfl (c_pickL [-1, 1000, 1001] (beC 12 (turnsA p j).2) hcp (Nat.zero_lt_succ _)) (.cons rfl rfl rfl (curR_noH _) (curR_noH _) .nil) (.cons (.ptr rfl) (.cons (.same rfl) .nil)) (fun q hq => by cases hq) rfl) rfl ?_)
              | exact (by rw [D]; exact finMC1 (cell_is rfl rfl rfl rfl rfl) (le_refl rfl) (.cons rfl rfl rfl rfl (les_refl (curR_noH _)) .nil))
              | refine aops_nil ?_
              | refine lex_done _ rfl (by kernel_rfl) ?_
              | refine aw_ct rfl ?_
              | refine aw_cf rfl ?_
              | refine aw_block ?_
              | refine then_n ?_
              | refine aw_skip ?_
              | refine aw_exit ?_
              | refine then_x ?_
              | refine then_r ?_
              | refine block_x ?_
              | refine block_n ?_
              | refine block_r ?_
              | refine aw_ret ?_
          · skip
            have D : drawA c = ((turnsA p j).1, (beC 12 (turnsA p j).2)) := by rw [hda, lastA, b0, b1, b2]; rfl
            repeat' first
              | refine aw_seq ?_
              | refine aw_region ?_
              | refine aw_lex [] ?_
              | (refine isA ?_; refine do_F rfl ?_)
              | (refine isL ?_; refine lex_F rfl (by kernel_rfl) rfl rfl ?_)
              | (refine isLg rfl ?_; refine lex_S rfl (by kernel_rfl) rfl rfl ?_)
              | exact (by rw [D]; exact finMC1 (cell_is rfl rfl rfl rfl rfl) (le_refl rfl) (.cons rfl rfl rfl rfl (les_refl (curR_noH _)) .nil))
              | refine aops_nil ?_
              | refine lex_done _ rfl (by kernel_rfl) ?_
              | refine aw_ct rfl ?_
              | refine aw_cf rfl ?_
              | refine aw_block ?_
              | refine then_n ?_
              | refine aw_skip ?_
              | refine aw_exit ?_
              | refine then_x ?_
              | refine then_r ?_
              | refine block_x ?_
              | refine block_n ?_
              | refine block_r ?_
              | refine aw_ret ?_
end Go.Proofs.Ytjlhfemfmkdlhaa.Ab

/- DrwG -/
namespace Go.Proofs.Ytjlhfemfmkdlhaa.Ab
open Go.RowKit

theorem turnsA_code2 (c : Cur) : (drawA c).2.code = c.code := by
  unfold drawA lastA
  generalize hq : turnsA ((naV (pkV [8, 20, 60] c)).1, beC 6 (beC 3 c)) (beV 6 (beC 3 c)).toNat = q
  have hc : q.2.code = c.code := by rw [← hq, turnsA_code]; show (beC 6 (beC 3 c)).code = _; rw [beC_code, beC_code]
  cases decide (beV 12 q.2 = 0) <;> cases decide (beV 12 q.2 = 1) <;> cases decide (beV 12 q.2 = 2) <;> simp [beC_code, hc]

def dcV (xs : List Int) : Ac × Int := ((drawA (newC xs)).1, pkV [0, 1, 8, 60, 61, -1, beV 30 (drawA (newC xs)).2] (beC 30 (drawA (newC xs)).2))

theorem c_drawCh (xs : List Int) (hl : xs.length ≤ 1000000000) : Meets Go.Proofs.Try.prog 49 [lstOf u8T xs] [] (.tup [.agg (acE (dcV xs).1), I (dcV xs).2]) [] true := by
  have h1 : (newC xs).code.length ≤ 1000000000 := hl
  have h2 : (drawA (newC xs)).2.code.length ≤ 1000000000 := by rw [turnsA_code2]; exact hl
  have h3 : (beC 30 (drawA (newC xs)).2).code.length ≤ 1000000000 := by rw [beC_code]; exact h2
  refine meets_ofCT 2 64 [3] Go.Proofs.Try.func49 rfl rfl rfl ?_
  simp only [Go.Proofs.Try.ntmps49, List.length_cons, List.length_nil, Nat.reduceAdd, Nat.reduceSub, List.replicate_succ, List.replicate_zero, List.cons_append, List.nil_append]
  repeat' first
    | (refine isA ?_; refine do_R rfl (lit_of rfl rfl rfl rfl rfl) rfl ?_)
    | refine aw_seq ?_
    | refine aw_region ?_
    | refine aw_lex [] ?_
    | (refine isA ?_; refine do_F rfl ?_)
    | (refine isL ?_; refine lex_F rfl (by kernel_rfl) rfl rfl ?_)
    | (refine isLg rfl ?_; refine lex_S rfl (by kernel_rfl) rfl rfl ?_)
    | (refine isAc 83 ?_; refine do_R rfl (st_callK rfl (c_new xs hl) (.cons (.same rfl) .nil) (fun q hq => by simp at hq; subst hq; exact curR_noH _) rfl rfl) rfl ?_)
    | (refine isLc 83 rfl ?_; refine lex_R rfl (by kernel_rfl) rfl (st_callK rfl (c_new xs hl) (.cons (.same rfl) .nil) (fun q hq => by simp at hq; subst hq; exact curR_noH _) rfl rfl) rfl ?_)
    | (refine isAc 91 ?_; refine do_R rfl (step_callMs (K := []) (Rs' := [_]) [1] (by decide) rfl (c_acct (newC xs) h1) (.cons rfl rfl rfl (curR_noH _) (curR_noH _) .nil) (.cons (.ptr rfl) .nil) (fun q hq => by cases hq) rfl) rfl ?_)
    | (refine isLc 91 rfl ?_; refine lex_R rfl (by kernel_rfl) rfl (step_callMs (K := []) (Rs' := [_]) [1] (by decide) rfl (c_acct (newC xs) h1) (.cons rfl rfl rfl (curR_noH _) (curR_noH _) .nil) (.cons (.ptr rfl) .nil) (fun q hq => by cases hq) rfl) rfl ?_)
    | (refine isAc 90 ?_; refine do_R rfl (step_callMs (K := []) (Rs' := [_]) [1] (by decide) rfl (c_below 30 (drawA (newC xs)).2 h2) (.cons rfl rfl rfl (curR_noH _) (curR_noH _) .nil) (.cons (.ptr rfl) (.cons (.same rfl) .nil)) (fun q hq => by cases hq) rfl) rfl ?_)
    | (refine isLc 90 rfl ?_; refine lex_R rfl (by kernel_rfl) rfl (step_callMs (K := []) (Rs' := [_]) [1] (by decide) rfl (c_below 30 (drawA (newC xs)).2 h2) (.cons rfl rfl rfl (curR_noH _) (curR_noH _) .nil) (.cons (.ptr rfl) (.cons (.same rfl) .nil)) (fun q hq => by cases hq) rfl) rfl ?_)
    | (refine isAc 88 ?_; refine do_R rfl (step_callMs (K := []) (Rs' := [_]) [1] (by decide) rfl (c_pickL [0, 1, 8, 60, 61, -1, beV 30 (drawA (newC xs)).2] (beC 30 (drawA (newC xs)).2) h3 (Nat.zero_lt_succ _)) (.cons rfl rfl rfl (curR_noH _) (curR_noH _) .nil) (.cons (.ptr rfl) (.cons (.same rfl) .nil)) (fun q hq => by cases hq) rfl) rfl ?_)
    | (refine isLc 88 rfl ?_; refine lex_R rfl (by kernel_rfl) rfl (step_callMs (K := []) (Rs' := [_]) [1] (by decide) rfl (c_pickL [0, 1, 8, 60, 61, -1, beV 30 (drawA (newC xs)).2] (beC 30 (drawA (newC xs)).2) h3 (Nat.zero_lt_succ _)) (.cons rfl rfl rfl (curR_noH _) (curR_noH _) .nil) (.cons (.ptr rfl) (.cons (.same rfl) .nil)) (fun q hq => by cases hq) rfl) rfl ?_)
    | exact finCT (cell_is rfl rfl rfl rfl rfl) (.same rfl)
    | refine aops_nil ?_
    | refine lex_done _ rfl (by kernel_rfl) ?_
    | refine aw_ct rfl ?_
    | refine aw_cf rfl ?_
    | refine aw_block ?_
    | refine then_n ?_
    | refine aw_skip ?_
    | refine aw_exit ?_
    | refine then_x ?_
    | refine then_r ?_
    | refine block_x ?_
    | refine block_n ?_
    | refine block_r ?_
    | refine aw_ret ?_

theorem c_drawSg (xs : List Int) (hl : xs.length ≤ 1000000000) : Meets Go.Proofs.Try.prog 56 [lstOf u8T xs] [] (.tup [.agg (acE (dcV xs).1), I (dcV xs).2]) [] true := by
  refine meets_ofCT 2 64 [3] Go.Proofs.Try.func56 rfl rfl rfl ?_
  simp only [Go.Proofs.Try.ntmps56, List.length_cons, List.length_nil, Nat.reduceAdd, Nat.reduceSub, List.replicate_succ, List.replicate_zero, List.cons_append, List.nil_append]
  repeat' first
    | refine aw_seq ?_
    | refine aw_region ?_
    | refine aw_lex [] ?_
    | (refine isA ?_; refine do_F rfl ?_)
    | (refine isL ?_; refine lex_F rfl (by kernel_rfl) rfl rfl ?_)
    | (refine isLg rfl ?_; refine lex_S rfl (by kernel_rfl) rfl rfl ?_)
    | (refine isAc 49 ?_; refine do_R rfl (st_call rfl (c_drawCh xs hl) (.cons (.same rfl) .nil) rfl) rfl ?_)
    | (refine isLc 49 rfl ?_; refine lex_R rfl (by kernel_rfl) rfl (st_call rfl (c_drawCh xs hl) (.cons (.same rfl) .nil) rfl) rfl ?_)
    | exact finCT (cell_is rfl rfl rfl rfl rfl) (.same rfl)
    | refine aops_nil ?_
    | refine lex_done _ rfl (by kernel_rfl) ?_
    | refine aw_ct rfl ?_
    | refine aw_cf rfl ?_
    | refine aw_block ?_
    | refine then_n ?_
    | refine aw_skip ?_
    | refine aw_exit ?_
    | refine then_x ?_
    | refine then_r ?_
    | refine block_x ?_
    | refine block_n ?_
    | refine block_r ?_
    | refine aw_ret ?_

theorem c_drawRe (xs : List Int) (hl : xs.length ≤ 1000000000) : Meets Go.Proofs.Try.prog 59 [lstOf u8T xs] [] (.tup [.agg (acE (dcV xs).1), I (dcV xs).2]) [] true := by
  refine meets_ofCT 2 64 [3] Go.Proofs.Try.func59 rfl rfl rfl ?_
  simp only [Go.Proofs.Try.ntmps59, List.length_cons, List.length_nil, Nat.reduceAdd, Nat.reduceSub, List.replicate_succ, List.replicate_zero, List.cons_append, List.nil_append]
  repeat' first
    | refine aw_seq ?_
    | refine aw_region ?_
    | refine aw_lex [] ?_
    | (refine isA ?_; refine do_F rfl ?_)
    | (refine isL ?_; refine lex_F rfl (by kernel_rfl) rfl rfl ?_)
    | (refine isLg rfl ?_; refine lex_S rfl (by kernel_rfl) rfl rfl ?_)
    | (refine isAc 49 ?_; refine do_R rfl (st_call rfl (c_drawCh xs hl) (.cons (.same rfl) .nil) rfl) rfl ?_)
    | (refine isLc 49 rfl ?_; refine lex_R rfl (by kernel_rfl) rfl (st_call rfl (c_drawCh xs hl) (.cons (.same rfl) .nil) rfl) rfl ?_)
    | exact finCT (cell_is rfl rfl rfl rfl rfl) (.same rfl)
    | refine aops_nil ?_
    | refine lex_done _ rfl (by kernel_rfl) ?_
    | refine aw_ct rfl ?_
    | refine aw_cf rfl ?_
    | refine aw_block ?_
    | refine then_n ?_
    | refine aw_skip ?_
    | refine aw_exit ?_
    | refine then_x ?_
    | refine then_r ?_
    | refine block_x ?_
    | refine block_n ?_
    | refine block_r ?_
    | refine aw_ret ?_

theorem c_big (xs : List Int) : Meets Go.Proofs.Try.prog 37 [lstOf u8T xs] [] (B (decide ((1048576 : Int) < xs.length))) [] false := by
  refine meets_of [2] Go.Proofs.Try.func37 rfl rfl ?_
  simp only [Go.Proofs.Try.ntmps37, List.length_cons, List.length_nil, Nat.reduceAdd, Nat.reduceSub, List.replicate_succ, List.replicate_zero, List.cons_append, List.nil_append]
  repeat' first
    | refine aw_seq ?_
    | refine aw_region ?_
    | refine aw_lex [] ?_
    | (refine isA ?_; refine do_F rfl ?_)
    | (refine isL ?_; refine lex_F rfl (by kernel_rfl) rfl rfl ?_)
    | (refine isLg rfl ?_; refine lex_S rfl (by kernel_rfl) rfl rfl ?_)
    | exact fin1 rfl rfl rfl
    | refine aops_nil ?_
    | refine lex_done _ rfl (by kernel_rfl) ?_
    | refine aw_ct rfl ?_
    | refine aw_cf rfl ?_
    | refine aw_block ?_
    | refine then_n ?_
    | refine aw_skip ?_
    | refine aw_exit ?_
    | refine then_x ?_
    | refine then_r ?_
    | refine block_x ?_
    | refine block_n ?_
    | refine block_r ?_
    | refine aw_ret ?_

end Go.Proofs.Ytjlhfemfmkdlhaa.Ab

/- DrwO -/
namespace Go.Proofs.Ytjlhfemfmkdlhaa.Ab
open Go.RowKit
theorem o_u8 : Opens Go.Proofs.Try.prog 49 (fun l : List Int => [lstOf u8T l]) (okL (okI .u8)) := opens_slice Go.Proofs.Try.underlying49 (by kernel_rfl) (opens_int Go.Proofs.Try.underlying5)
end Go.Proofs.Ytjlhfemfmkdlhaa.Ab
