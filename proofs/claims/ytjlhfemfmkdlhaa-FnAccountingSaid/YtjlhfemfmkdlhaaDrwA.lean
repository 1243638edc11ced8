/-
  Draws: the cursor.
-/
import Derived.Test.YtjlhfemfmkdlhaaAbW
import Derived.Test.YtjlhfemfmkdlhaaAbT
namespace Go.Proofs.Ytjlhfemfmkdlhaa.Ab
open Go.RowKit
set_option linter.unusedVariables false
set_option linter.unusedSimpArgs false
set_option maxRecDepth 20000
set_option maxHeartbeats 1000000

def u8T : Ty Int := ⟨1, fun n => [.k (.int .u8 n)], fun _ => rfl, by decide, fun r c hc => by
  simp only [List.mem_cons, List.not_mem_nil, or_false] at hc
  subst hc
  exact ⟨rfl, rfl⟩⟩

structure Cur where
  code : List Int
  pos : Nat
  seed : Int

abbrev curR (c : Cur) : Reg := ⟨99, 3, [lstOf u8T c.code, I c.pos, I c.seed], 0⟩

def seedN (s : Int) : Int := IntKind.i64.wrap (IntKind.i64.wrap (s * 6364136223846793005) + 1442695040888963407)
def val0 (s : Int) : Int := bAnd .i64 (bXor .i64 (bShr .i64 (seedN s) 33) (bShr .i64 (seedN s) 45)) 255
def byteV (c : Cur) : Int := match c.code[c.pos]? with
  | some b => bAnd .i64 (IntKind.i64.wrap (val0 c.seed + IntKind.i64.wrap b)) 255
  | none => val0 c.seed
def byteC (c : Cur) : Cur := ⟨c.code, match c.code[c.pos]? with | some _ => c.pos + 1 | none => c.pos, seedN c.seed⟩

theorem byteV_range (c : Cur) : 0 ≤ byteV c ∧ byteV c ≤ 255 := by
  unfold byteV
  split
  · exact and_byte _
  · exact and_byte _

theorem c_byte (c : Cur) (hl : c.code.length ≤ 1000000000) : Meets Go.Proofs.Try.prog 98 [.ptr 0 0] [curR c] (I (byteV c)) [curR (byteC c)] true := by
  refine meets_of [2] Go.Proofs.Try.func98 rfl rfl ?_
  simp only [Go.Proofs.Try.ntmps98, List.length_cons, List.length_nil, Nat.reduceAdd, Nat.reduceSub, List.replicate_succ, List.replicate_zero, List.cons_append, List.nil_append]
  repeat' first
    | refine aw_seq ?_
    | refine aw_region ?_
    | refine aw_lex [] ?_
    | (refine isA ?_; refine do_F rfl ?_)
    | (refine isL ?_; refine lex_F rfl (by kernel_rfl) rfl rfl ?_)
    | (refine isLg rfl ?_; refine lex_S rfl (by kernel_rfl) rfl rfl ?_)
    | (refine isL ?_; refine lex_R rfl (by kernel_rfl) rfl (step_shr (n := 33) rfl rfl rfl) rfl ?_)
    | (refine isL ?_; refine lex_R rfl (by kernel_rfl) rfl (step_shr (n := 45) rfl rfl rfl) rfl ?_)
    | (refine isL ?_; refine lex_R rfl (by kernel_rfl) rfl (step_xor rfl rfl rfl) rfl ?_)
    | (refine isL ?_; refine lex_R rfl (by kernel_rfl) rfl (step_and rfl rfl rfl) rfl ?_)
    | refine aops_nil ?_
    | refine lex_done _ rfl (by kernel_rfl) ?_
    | refine aw_ct rfl ?_
    | refine aw_cf rfl ?_
    | refine aw_block ?_
    | refine then_n ?_
    | refine aw_skip ?_
    | refine aw_exit ?_
    | refine then_x ?_
    | refine then_r ?_
    | refine block_x ?_
    | refine block_n ?_
    | refine block_r ?_
    | refine aw_ret ?_
  refine aw_cond rfl (fun h => ?_) (fun h => ?_)
  · have hlt : c.pos < c.code.length := by have := of_decide_eq_true h; omega
    obtain ⟨z, hz⟩ : ∃ z, c.code[c.pos]? = some z := ⟨_, List.getElem?_eq_getElem hlt⟩
    have e1 : byteV c = bAnd .i64 (IntKind.i64.wrap (val0 c.seed + IntKind.i64.wrap z)) 255 := by rw [byteV, hz]
    have e2 : byteC c = ⟨c.code, c.pos + 1, seedN c.seed⟩ := by rw [byteC, hz]
    repeat' first
      | refine aw_seq ?_
      | refine aw_region ?_
      | refine aw_lex [] ?_
      | (refine isA ?_; refine do_F rfl ?_)
      | (refine isL ?_; refine lex_F rfl (by kernel_rfl) rfl rfl ?_)
      | (refine isLg rfl ?_; refine lex_S rfl (by kernel_rfl) rfl rfl ?_)
      | (refine isAi ?_; refine do_R rfl (ia_l (t := u8T) (z := z) rfl rfl rfl rfl (Int.natCast_nonneg c.pos) hz) rfl ?_)
      | (refine isLi rfl ?_; refine lex_R rfl (by kernel_rfl) rfl (ia_l (t := u8T) (z := z) rfl rfl rfl rfl (Int.natCast_nonneg c.pos) hz) rfl ?_)
      | (refine isL ?_; refine lex_R rfl (by kernel_rfl) rfl (step_and rfl rfl rfl) rfl ?_)
      | exact (by rw [e1, e2]; exact finM 1 [0] fix1 (by decide) rfl (le_refl rfl) (.cons rfl rfl rfl rfl (les_cons (le_refl rfl) (les_cons (le_i hlt (by omega)) (les_cons (le_refl rfl) les_nil))) .nil))
      | refine aops_nil ?_
      | refine lex_done _ rfl (by kernel_rfl) ?_
      | refine aw_ct rfl ?_
      | refine aw_cf rfl ?_
      | refine aw_block ?_
      | refine then_n ?_
      | refine aw_skip ?_
      | refine aw_exit ?_
      | refine then_x ?_
      | refine then_r ?_
      | refine block_x ?_
      | refine block_n ?_
      | refine block_r ?_
      | refine aw_ret ?_
  · have hge : c.code.length ≤ c.pos := by have := of_decide_eq_false h; omega
    have hz : c.code[c.pos]? = none := List.getElem?_eq_none hge
    have e1 : byteV c = val0 c.seed := by rw [byteV, hz]
    have e2 : byteC c = ⟨c.code, c.pos, seedN c.seed⟩ := by rw [byteC, hz]
    repeat' first
      | refine aw_seq ?_
      | refine aw_region ?_
      | refine aw_lex [] ?_
      | (refine isA ?_; refine do_F rfl ?_)
      | (refine isL ?_; refine lex_F rfl (by kernel_rfl) rfl rfl ?_)
      | (refine isLg rfl ?_; refine lex_S rfl (by kernel_rfl) rfl rfl ?_)
      | exact (by rw [e1, e2]; exact finM 1 [0] fix1 (by decide) rfl (le_refl rfl) (.cons rfl rfl rfl rfl (by repeat' first | exact les_nil | refine les_cons ?_ ?_ | exact le_any | exact le_refl rfl | exact le_sl rfl rfl | exact le_ptr rfl) .nil))
      | refine aops_nil ?_
      | refine lex_done _ rfl (by kernel_rfl) ?_
      | refine aw_ct rfl ?_
      | refine aw_cf rfl ?_
      | refine aw_block ?_
      | refine then_n ?_
      | refine aw_skip ?_
      | refine aw_exit ?_
      | refine then_x ?_
      | refine then_r ?_
      | refine block_x ?_
      | refine block_n ?_
      | refine block_r ?_
      | refine aw_ret ?_
end Go.Proofs.Ytjlhfemfmkdlhaa.Ab
