/- Texts ClA in one. -/
import Derived.Test.YtjlhfemfmkdlhaaMrgG
import Derived.Test.YtjlhfemfmkdlhaaMrgH
import Derived.Test.YtjlhfemfmkdlhaaMrgD
set_option linter.unusedVariables false
set_option linter.unusedSimpArgs false
set_option maxRecDepth 20000
set_option maxHeartbeats 4000000
/- ClA -/
namespace Go.Proofs.Ytjlhfemfmkdlhaa.Ab
open Go.RowKit

/-- Paths are joined behind a piece of code. -/
theorem aw_join {P : Program} {c : Code} {Q : Exit → St → Prop} {S : St} (T : St) (h : AW P c (fun e S' => e = .normal ∧ Sub T S') S) (k : Q .normal T) : AW P c Q S :=
  ⟨fun C φ a w hI => wp_mono (h.out C φ a w hI) fun e a' w' hq => by
    obtain ⟨S', φ1, hI', he, hs⟩ := hq
    subst he
    obtain ⟨φ2, h2⟩ := hs C φ1 a' w' hI'
    exact ⟨T, φ2, h2, k⟩⟩

def unsh (q i : Nat) : Nat := if i < q then i else i + 1
theorem unsh_sh (q i : Nat) : sh q (unsh q i) = i := by
  unfold sh unsh
  by_cases h : i < q
  · rw [if_pos h, if_pos h]
  · rw [if_neg h, if_neg (by omega)]; omega
theorem unsh_ne (q i : Nat) : unsh q i ≠ q := by unfold unsh; split <;> omega

/-- One active client less, nobody waiting: who remains gets no less. -/
theorem more_gf {b : Br} {k : Int} (V : VB b) (hg : (rmV b k).2 = true) (hw : b.wait.length = 0) {i : Nat} {z : Cl} (hz : (rmV b k).1.act[i]? = some z) : ∃ g g' : Int, gf b z.a = (g, true) ∧ gf (rmV b k).1 z.a = (g', true) ∧ g ≤ g' := by
  have hv := (valid_iff b).2 V
  have w0 : b.wait = [] := List.eq_nil_of_length_eq_zero hw
  have h1 : decide (0 ≤ idxC b.wait k) = false := decide_eq_false (by
    have : idxC b.wait k < 0 := idxs_none.2 (by rw [w0]; intro x hx; cases hx)
    omega)
  have h2 : decide (0 ≤ idxC b.act k) = true := by
    cases h2 : decide (0 ≤ idxC b.act k) with
    | true => rfl
    | false => rw [rm_none h1 h2] at hg; cases hg
  have e := rm_act0 hv h1 h2 hw
  have hq := idx_lt (of_decide_eq_true h2)
  obtain ⟨V', _, _, _⟩ := rm_valid hg
  rw [e] at hz V' ⊢
  generalize (idxC b.act k).toNat = q at hz V' hq ⊢
  simp only at hz V' ⊢
  have hz' : (dropC b.act q)[sh q (unsh q i)]? = some z := by rw [unsh_sh]; exact hz
  rw [drop_sh (unsh_ne q i) hq] at hz'
  have l1 := (grants_ok V).1
  have l2 := (grants_ok V').1
  obtain ⟨g, eg⟩ : ∃ g, (cg b)[unsh q i]? = some g := ⟨_, List.getElem?_eq_getElem (by rw [l1]; exact (List.getElem?_eq_some_iff.1 hz').1)⟩
  obtain ⟨g', eg'⟩ : ∃ g, (cg ⟨b.pool, b.next, dropC b.act q, b.wait⟩)[i]? = some g := ⟨_, List.getElem?_eq_getElem (by rw [l2]; exact (List.getElem?_eq_some_iff.1 hz).1)⟩
  refine ⟨g, g', gf_at V eg hz', gf_at V' eg' hz, ?_⟩
  exact grants_more V hq V' (unsh_ne q i) eg (by rw [unsh_sh]; exact eg')

theorem wrap_s {a b : Nat} (h1 : a ≤ 1000000000) (h2 : b ≤ 1000000000) : IntKind.i64.wrap ((a : Int) + b) = (a : Int) + b := by rw [IntKind.wrap_i64]; omega

theorem law_ClientAdmission (xs : List Int) (hl0 : xs.length ≤ 9223372036854775807) : Meets Go.Proofs.Try.prog 13 [lstOf u8T xs] [] (B true) [] false := by
  refine meets_of [2] Go.Proofs.Try.func13 rfl rfl ?_
  simp only [Go.Proofs.Try.ntmps13, List.length_cons, List.length_nil, Nat.reduceAdd, Nat.reduceSub, List.replicate_succ, List.replicate_zero, List.cons_append, List.nil_append]
  repeat' first
    | refine aw_seq ?_
    | refine aw_region ?_
    | refine aw_lex [] ?_
    | (refine isA ?_; refine do_F rfl ?_)
    | (refine isL ?_; refine lex_F rfl (by kernel_rfl) rfl rfl ?_)
    | (refine isLg rfl ?_; refine lex_S rfl (by kernel_rfl) rfl rfl ?_)
    | (refine isAc 37 ?_; refine do_R rfl (st_call rfl (c_big xs) (.cons (.same rfl) .nil) rfl) rfl ?_)
    | (refine isLc 37 rfl ?_; refine lex_R rfl (by kernel_rfl) rfl (st_call rfl (c_big xs) (.cons (.same rfl) .nil) rfl) rfl ?_)
    | refine aops_nil ?_
    | refine lex_done _ rfl (by kernel_rfl) ?_
    | refine aw_ct rfl ?_
    | refine aw_cf rfl ?_
    | refine aw_block ?_
    | refine then_n ?_
    | refine aw_skip ?_
    | refine aw_exit ?_
    | refine then_x ?_
    | refine then_r ?_
    | refine block_x ?_
    | refine block_n ?_
    | refine block_r ?_
    | refine aw_ret ?_
  refine aw_cond rfl (fun h => ?_) (fun h => ?_)
  · repeat' first
      | refine aw_seq ?_
      | refine aw_region ?_
      | refine aw_lex [] ?_
      | (refine isA ?_; refine do_F rfl ?_)
      | (refine isL ?_; refine lex_F rfl (by kernel_rfl) rfl rfl ?_)
      | (refine isLg rfl ?_; refine lex_S rfl (by kernel_rfl) rfl rfl ?_)
      | exact fin1 rfl rfl rfl
      | refine aops_nil ?_
      | refine lex_done _ rfl (by kernel_rfl) ?_
      | refine aw_ct rfl ?_
      | refine aw_cf rfl ?_
      | refine aw_block ?_
      | refine then_n ?_
      | refine aw_skip ?_
      | refine aw_exit ?_
      | refine then_x ?_
      | refine then_r ?_
      | refine block_x ?_
      | refine block_n ?_
      | refine block_r ?_
      | refine aw_ret ?_
  have hl : xs.length ≤ 1000000000 := by have := of_decide_eq_false h; omega
  obtain ⟨la, lw⟩ := br0_len xs
  have d1 := c_drawAC xs hl
  have d2 := c_drawRC xs hl
  have d3 := c_drawSR xs hl
  generalize br0 xs = b at d1 d2 d3 la lw
  generalize wt0 xs = g at d1
  generalize pr0 xs = r at d1
  generalize id0 xs = k at d2 d3
  generalize wt1 xs = n at d3
  have h1 : b.act.length ≤ 1000000000 := by omega
  have h2 : b.wait.length ≤ 1000000000 := by omega
  obtain ⟨a1, a2⟩ := adV_len b g r
  obtain ⟨r1, r2⟩ := rmV_len b k
  obtain ⟨s1, s2⟩ := srV_len b k n
  have ci := (c_iadd b g r h1 h2).frozen (r' := .tup [.agg (brE (adV b g r).1), I (adV b g r).2.1, B (adV b g r).2.2]) (pur_br rfl)
  have cs := (c_sadd b g r h1 h2).frozen (r' := .tup [.agg (brE (adV b g r).1), I (adV b g r).2.1, B (adV b g r).2.2]) (pur_br rfl)
  have ce := c_seqB (adV b g r).1 (adV b g r).1 (by omega) (by omega)
  rw [eqBr_self] at ce
  have cf : (adV b g r).2.2 = false → Meets Go.Proofs.Try.prog 21 [.agg (brE (adV b g r).1), .agg (brE b)] [] (B true) [] false := fun hf => by
    have := c_seqB b b h1 h2
    rw [eqBr_self] at this
    rw [ad_false hf]
    exact this
  have cv := c_ivalid (adV b g r).1 (by omega) (by omega)
  have av := @ad_valid b g r
  generalize (adV b g r).1 = X at ci cs ce cf cv av a1 a2
  generalize (adV b g r).2.1 = id at ci cs av
  generalize (adV b g r).2.2 = is at ci cs cf av
  repeat' first
    | refine aw_seq ?_
    | refine aw_region ?_
    | refine aw_lex [] ?_
    | (refine isA ?_; refine do_F rfl ?_)
    | (refine isL ?_; refine lex_F rfl (by kernel_rfl) rfl rfl ?_)
    | (refine isLg rfl ?_; refine lex_S rfl (by kernel_rfl) rfl rfl ?_)
    | (refine isAc 46 ?_; refine do_R rfl (st_call rfl d1 (.cons (.same rfl) .nil) rfl) rfl ?_)
    | (refine isLc 46 rfl ?_; refine lex_R rfl (by kernel_rfl) rfl (st_call rfl d1 (.cons (.same rfl) .nil) rfl) rfl ?_)
    | (refine isAc 29 ?_; refine do_R rfl (st_call rfl ci (.cons (.same rfl) (.cons (.same rfl) (.cons (.same rfl) .nil))) rfl) rfl ?_)
    | (refine isLc 29 rfl ?_; refine lex_R rfl (by kernel_rfl) rfl (st_call rfl ci (.cons (.same rfl) (.cons (.same rfl) (.cons (.same rfl) .nil))) rfl) rfl ?_)
    | refine aops_nil ?_
    | refine lex_done _ rfl (by kernel_rfl) ?_
    | refine aw_ct rfl ?_
    | refine aw_cf rfl ?_
    | refine aw_block ?_
    | refine then_n ?_
    | refine aw_skip ?_
    | refine aw_exit ?_
    | refine then_x ?_
    | refine then_r ?_
    | refine block_x ?_
    | refine block_n ?_
    | refine block_r ?_
    | refine aw_ret ?_
  refine isAc 28 ?_
  refine do_R rfl (st_call rfl cs (.cons (.same rfl) (.cons (.same rfl) (.cons (.same rfl) .nil))) rfl) rfl ?_
  refine isA ?_; refine do_F rfl ?_
  refine isA ?_; refine do_F rfl ?_
  refine isA ?_; refine do_F rfl ?_
  refine isA ?_; refine do_F rfl ?_
  refine isA ?_; refine do_F rfl ?_
  refine isA ?_; refine do_F rfl ?_
  refine isA ?_; refine do_F rfl ?_
  refine isA ?_; refine do_F rfl ?_
  refine aops_nil ?_
  refine then_n ?_
  refine aw_seq ?_
  refine aw_join ⟨((lstOf u8T xs) :: .any :: .any :: (.ptr 0 0) :: .any :: .any :: (.ptr 1 0) :: (I id) :: (B is) :: .any :: .any :: .any :: .any :: .any :: .any :: .any :: .any :: .any :: .any :: .any :: .any :: .any :: .any :: .any :: .any :: .any :: .any :: .any :: .any :: .any :: .any :: .any :: .any :: .any :: .any :: .any :: .any :: .any :: .any :: .any :: .any :: .any :: .any :: .any :: .any :: .any :: .any :: .any :: .any :: .any :: .any :: .any :: .any :: .any :: .any :: .any :: .any :: .any :: .any :: .any :: .any :: .any :: .any :: .any :: .any :: .any :: .any :: .any :: .any :: .any :: .any :: .any :: .any :: .any :: .any :: .any :: .any :: .any :: .any :: .any :: .any :: .any :: .any :: .any :: .any :: .any :: .any :: .any :: .any :: .any :: .any :: .any :: .any :: .any :: .any :: .any :: .any :: .any :: .any :: .any :: .any :: .any :: .any :: .any :: .any :: .any :: .any :: .any :: .any :: .any :: .any :: .any :: .any :: .any :: .any :: .any :: .any :: .any :: .any :: .any :: .any :: .any :: .any :: .any :: .any :: .any :: .any :: .any :: .any :: .any :: .any :: .any :: .any :: .any :: .any :: .any :: .any :: .any :: .any :: .any :: .any :: .any :: .any :: .any :: .any :: .any :: .any :: .any :: .any :: .any :: .any :: .any :: .any :: .any :: .any :: .any :: .any :: .any :: .any :: .any :: .any :: .any :: .any :: .any :: .any :: .any :: .any :: .any :: .any :: .any :: .any :: .any :: .any :: .any :: .any :: .any :: .any :: .any :: .any :: .any :: .any :: .any :: .any :: .any :: .any :: .any :: .any :: .any :: .any :: .any :: .any :: .any :: .any :: .any :: .any :: .any :: .any :: .any :: .any :: .any :: .any :: .any :: .any :: .any :: .any :: .any :: .any :: .any :: .any :: .any :: .any :: .any :: .any :: .any :: .any :: .any :: .any :: .any :: .any :: .any :: .any :: .any :: .any :: .any :: .any :: .any :: .any :: .any :: .any :: .any :: .any :: .any :: .any :: .any :: .any :: .any :: .any :: .any :: .any :: .any :: .any :: .any :: .any :: .any :: .any :: .any :: .any :: .any :: .any :: .any :: .any :: .any :: .any :: .any :: .any :: .any :: []), [⟨24, 4, brE b, 0⟩, ⟨24, 4, brE X, 0⟩], 0⟩ ?_ ?_
  · repeat' first
      | (refine isA ?_; refine do_R rfl (neqB_same rfl rfl rfl (by kernel_rfl)) rfl ?_)
      | (refine isA ?_; refine do_R rfl (neqI_same rfl rfl rfl) rfl ?_)
      | refine aw_seq ?_
      | refine aw_region ?_
      | refine aw_lex [] ?_
      | (refine isA ?_; refine do_F rfl ?_)
      | (refine isL ?_; refine lex_F rfl (by kernel_rfl) rfl rfl ?_)
      | (refine isLg rfl ?_; refine lex_S rfl (by kernel_rfl) rfl rfl ?_)
      | (refine isAc 21 (x := #[.tmp 65, .tmp 66]) ?_; refine do_R rfl (st_call rfl ce (.cons (.same rfl) (.cons (.same rfl) .nil)) rfl) rfl ?_)
      | (refine isLc 21 (x := #[.tmp 65, .tmp 66]) rfl ?_; refine lex_R rfl (by kernel_rfl) rfl (st_call rfl ce (.cons (.same rfl) (.cons (.same rfl) .nil)) rfl) rfl ?_)
      | refine aops_nil ?_
      | refine lex_done _ rfl (by kernel_rfl) ?_
      | refine aw_ct rfl ?_
      | refine aw_cf rfl ?_
      | refine aw_block ?_
      | refine then_n ?_
      | refine aw_skip ?_
      | refine aw_exit ?_
      | refine then_x ?_
      | refine then_r ?_
      | refine block_x ?_
      | refine block_n ?_
      | refine block_r ?_
      | refine aw_ret ?_
    refine do_br rfl rfl (fun p => ?_) (fun p => ?_)
    · have p' : is = false := by simpa using p
      have cf' := cf p'
      repeat' first
        | refine aw_seq ?_
        | refine aw_region ?_
        | refine aw_lex [] ?_
        | (refine isA ?_; refine do_F rfl ?_)
        | (refine isL ?_; refine lex_F rfl (by kernel_rfl) rfl rfl ?_)
        | (refine isLg rfl ?_; refine lex_S rfl (by kernel_rfl) rfl rfl ?_)
        | (refine isAc 21 ?_; refine do_R rfl (st_call rfl cf' (.cons (.same rfl) (.cons (.same rfl) .nil)) rfl) rfl ?_)
        | (refine isLc 21 rfl ?_; refine lex_R rfl (by kernel_rfl) rfl (st_call rfl cf' (.cons (.same rfl) (.cons (.same rfl) .nil)) rfl) rfl ?_)
        | refine aops_nil ?_
        | refine lex_done _ rfl (by kernel_rfl) ?_
        | refine aw_ct rfl ?_
        | refine aw_cf rfl ?_
        | refine aw_block ?_
        | refine then_n ?_
        | refine aw_skip ?_
        | refine aw_exit ?_
        | refine then_x ?_
        | refine then_r ?_
        | refine block_x ?_
        | refine block_n ?_
        | refine block_r ?_
        | refine aw_ret ?_
      exact ⟨rfl, sub0 [0, 1] rfl rfl (by decide) (by repeat' first | exact HLes.nil | refine HLes.cons rfl rfl rfl rfl ?_ ?_ | exact les_nil | refine les_cons ?_ ?_ | exact le_any | exact le_refl rfl | exact le_sl rfl rfl | exact le_ptr rfl) (by repeat' first | exact les_nil | refine les_cons ?_ ?_ | exact le_any | exact le_refl rfl | exact le_sl rfl rfl | exact le_ptr rfl)⟩
    · repeat' first
        | refine aw_seq ?_
        | refine aw_region ?_
        | refine aw_lex [] ?_
        | (refine isA ?_; refine do_F rfl ?_)
        | (refine isL ?_; refine lex_F rfl (by kernel_rfl) rfl rfl ?_)
        | (refine isLg rfl ?_; refine lex_S rfl (by kernel_rfl) rfl rfl ?_)
        | refine aops_nil ?_
        | refine lex_done _ rfl (by kernel_rfl) ?_
        | refine aw_ct rfl ?_
        | refine aw_cf rfl ?_
        | refine aw_block ?_
        | refine then_n ?_
        | refine aw_skip ?_
        | refine aw_exit ?_
        | refine then_x ?_
        | refine then_r ?_
        | refine block_x ?_
        | refine block_n ?_
        | refine block_r ?_
        | refine aw_ret ?_
      exact ⟨rfl, sub0 [0, 1] rfl rfl (by decide) (by repeat' first | exact HLes.nil | refine HLes.cons rfl rfl rfl rfl ?_ ?_ | exact les_nil | refine les_cons ?_ ?_ | exact le_any | exact le_refl rfl | exact le_sl rfl rfl | exact le_ptr rfl) (by repeat' first | exact les_nil | refine les_cons ?_ ?_ | exact le_any | exact le_refl rfl | exact le_sl rfl rfl | exact le_ptr rfl)⟩
  refine then_n ?_
  refine aw_seq ?_
  refine aw_join ⟨((lstOf u8T xs) :: .any :: .any :: .any :: .any :: .any :: .any :: .any :: .any :: .any :: .any :: .any :: .any :: .any :: .any :: .any :: .any :: .any :: .any :: .any :: .any :: .any :: .any :: .any :: .any :: .any :: .any :: .any :: .any :: .any :: .any :: .any :: .any :: .any :: .any :: .any :: .any :: .any :: .any :: .any :: .any :: .any :: .any :: .any :: .any :: .any :: .any :: .any :: .any :: .any :: .any :: .any :: .any :: .any :: .any :: .any :: .any :: .any :: .any :: .any :: .any :: .any :: .any :: .any :: .any :: .any :: .any :: .any :: .any :: .any :: .any :: .any :: .any :: .any :: .any :: .any :: .any :: .any :: .any :: .any :: .any :: .any :: .any :: .any :: .any :: .any :: .any :: .any :: .any :: .any :: .any :: .any :: .any :: .any :: .any :: .any :: .any :: .any :: .any :: .any :: .any :: .any :: .any :: .any :: .any :: .any :: .any :: .any :: .any :: .any :: .any :: .any :: .any :: .any :: .any :: .any :: .any :: .any :: .any :: .any :: .any :: .any :: .any :: .any :: .any :: .any :: .any :: .any :: .any :: .any :: .any :: .any :: .any :: .any :: .any :: .any :: .any :: .any :: .any :: .any :: .any :: .any :: .any :: .any :: .any :: .any :: .any :: .any :: .any :: .any :: .any :: .any :: .any :: .any :: .any :: .any :: .any :: .any :: .any :: .any :: .any :: .any :: .any :: .any :: .any :: .any :: .any :: .any :: .any :: .any :: .any :: .any :: .any :: .any :: .any :: .any :: .any :: .any :: .any :: .any :: .any :: .any :: .any :: .any :: .any :: .any :: .any :: .any :: .any :: .any :: .any :: .any :: .any :: .any :: .any :: .any :: .any :: .any :: .any :: .any :: .any :: .any :: .any :: .any :: .any :: .any :: .any :: .any :: .any :: .any :: .any :: .any :: .any :: .any :: .any :: .any :: .any :: .any :: .any :: .any :: .any :: .any :: .any :: .any :: .any :: .any :: .any :: .any :: .any :: .any :: .any :: .any :: .any :: .any :: .any :: .any :: .any :: .any :: .any :: .any :: .any :: .any :: .any :: .any :: .any :: .any :: .any :: .any :: .any :: .any :: .any :: .any :: .any :: .any :: .any :: .any :: []), [], 0⟩ ?_ ?_
  · repeat' first
      | refine aw_seq ?_
      | refine aw_region ?_
      | refine aw_lex [] ?_
      | (refine isA ?_; refine do_F rfl ?_)
      | (refine isL ?_; refine lex_F rfl (by kernel_rfl) rfl rfl ?_)
      | (refine isLg rfl ?_; refine lex_S rfl (by kernel_rfl) rfl rfl ?_)
      | refine aops_nil ?_
      | refine lex_done _ rfl (by kernel_rfl) ?_
      | refine aw_ct rfl ?_
      | refine aw_cf rfl ?_
      | refine aw_block ?_
      | refine then_n ?_
      | refine aw_skip ?_
      | refine aw_exit ?_
      | refine then_x ?_
      | refine then_r ?_
      | refine block_x ?_
      | refine block_n ?_
      | refine block_r ?_
      | refine aw_ret ?_
    refine do_br rfl rfl (fun p => ?_) (fun p => ?_)
    · obtain ⟨av1, av2, av3⟩ := av p
      rw [(valid_iff X).2 av1] at cv
      have hw : IntKind.i64.wrap ((X.act.length : Int) + X.wait.length) = IntKind.i64.wrap (IntKind.i64.wrap ((b.act.length : Int) + b.wait.length) + 1) := by
        rw [wrap_s h1 h2]
        exact congrArg _ (by omega)
      repeat' first
        | refine aw_seq ?_
        | refine aw_region ?_
        | refine aw_lex [] ?_
        | (refine isA ?_; refine do_F rfl ?_)
        | (refine isL ?_; refine lex_F rfl (by kernel_rfl) rfl rfl ?_)
        | (refine isLg rfl ?_; refine lex_S rfl (by kernel_rfl) rfl rfl ?_)
        | (refine isAc 25 ?_; refine do_R rfl (st_call rfl cv (.cons (.same rfl) .nil) rfl) rfl ?_)
        | (refine isLc 25 rfl ?_; refine lex_R rfl (by kernel_rfl) rfl (st_call rfl cv (.cons (.same rfl) .nil) rfl) rfl ?_)
        | refine aops_nil ?_
        | refine lex_done _ rfl (by kernel_rfl) ?_
        | refine aw_ct rfl ?_
        | refine aw_cf rfl ?_
        | refine aw_block ?_
        | refine then_n ?_
        | refine aw_skip ?_
        | refine aw_exit ?_
        | refine then_x ?_
        | refine then_r ?_
        | refine block_x ?_
        | refine block_n ?_
        | refine block_r ?_
        | refine aw_ret ?_
      refine do_br rfl rfl (fun p => absurd p (by simp only [hw]; simp)) (fun p => ?_)
      repeat' first
        | refine aw_seq ?_
        | refine aw_region ?_
        | refine aw_lex [] ?_
        | (refine isA ?_; refine do_F rfl ?_)
        | (refine isL ?_; refine lex_F rfl (by kernel_rfl) rfl rfl ?_)
        | (refine isLg rfl ?_; refine lex_S rfl (by kernel_rfl) rfl rfl ?_)
        | refine aops_nil ?_
        | refine lex_done _ rfl (by kernel_rfl) ?_
        | refine aw_ct rfl ?_
        | refine aw_cf rfl ?_
        | refine aw_block ?_
        | refine then_n ?_
        | refine aw_skip ?_
        | refine aw_exit ?_
        | refine then_x ?_
        | refine then_r ?_
        | refine block_x ?_
        | refine block_n ?_
        | refine block_r ?_
        | refine aw_ret ?_
      refine aw_cond rfl (fun p => absurd p (by simp [av3])) (fun p => ?_)
      repeat' first
        | refine aw_seq ?_
        | refine aw_region ?_
        | refine aw_lex [] ?_
        | (refine isA ?_; refine do_F rfl ?_)
        | (refine isL ?_; refine lex_F rfl (by kernel_rfl) rfl rfl ?_)
        | (refine isLg rfl ?_; refine lex_S rfl (by kernel_rfl) rfl rfl ?_)
        | refine aops_nil ?_
        | refine lex_done _ rfl (by kernel_rfl) ?_
        | refine aw_ct rfl ?_
        | refine aw_cf rfl ?_
        | refine aw_block ?_
        | refine then_n ?_
        | refine aw_skip ?_
        | refine aw_exit ?_
        | refine then_x ?_
        | refine then_r ?_
        | refine block_x ?_
        | refine block_n ?_
        | refine block_r ?_
        | refine aw_ret ?_
      exact ⟨rfl, sub0 [] rfl rfl (by decide) .nil (by repeat' first | exact les_nil | refine les_cons ?_ ?_ | exact le_any | exact le_refl rfl | exact le_sl rfl rfl | exact le_ptr rfl)⟩
    · repeat' first
        | refine aw_seq ?_
        | refine aw_region ?_
        | refine aw_lex [] ?_
        | (refine isA ?_; refine do_F rfl ?_)
        | (refine isL ?_; refine lex_F rfl (by kernel_rfl) rfl rfl ?_)
        | (refine isLg rfl ?_; refine lex_S rfl (by kernel_rfl) rfl rfl ?_)
        | refine aops_nil ?_
        | refine lex_done _ rfl (by kernel_rfl) ?_
        | refine aw_ct rfl ?_
        | refine aw_cf rfl ?_
        | refine aw_block ?_
        | refine then_n ?_
        | refine aw_skip ?_
        | refine aw_exit ?_
        | refine then_x ?_
        | refine then_r ?_
        | refine block_x ?_
        | refine block_n ?_
        | refine block_r ?_
        | refine aw_ret ?_
      exact ⟨rfl, sub0 [] rfl rfl (by decide) .nil (by repeat' first | exact les_nil | refine les_cons ?_ ?_ | exact le_any | exact le_refl rfl | exact le_sl rfl rfl | exact le_ptr rfl)⟩
  refine then_n ?_
  clear ci cs ce cf cv av
  have ri := (c_irm b k h1 h2).frozen (r' := .tup [.agg (brE (rmV b k).1), B (rmV b k).2]) (pur_br rfl)
  have rs := (c_srm b k h1 h2).frozen (r' := .tup [.agg (brE (rmV b k).1), B (rmV b k).2]) (pur_br rfl)
  have re := c_seqB (rmV b k).1 (rmV b k).1 (by omega) (by omega)
  rw [eqBr_self] at re
  have ui := (c_iset b k n h1 h2).frozen (r' := .tup [.agg (brE (srV b k n).1), B (srV b k n).2]) (pur_br rfl)
  have us := (c_sset b k n h1 h2).frozen (r' := .tup [.agg (brE (srV b k n).1), B (srV b k n).2]) (pur_br rfl)
  have ue := c_seqB (srV b k n).1 (srV b k n).1 (by omega) (by omega)
  rw [eqBr_self] at ue
  have uv := c_ivalid (srV b k n).1 (by omega) (by omega)
  have uV := @sr_valid b k n
  generalize (srV b k n).1 = U at ui us ue uv uV
  generalize (srV b k n).2 = uo at ui us uV
  repeat' first
    | refine aw_seq ?_
    | refine aw_region ?_
    | refine aw_lex [] ?_
    | (refine isA ?_; refine do_F rfl ?_)
    | (refine isL ?_; refine lex_F rfl (by kernel_rfl) rfl rfl ?_)
    | (refine isLg rfl ?_; refine lex_S rfl (by kernel_rfl) rfl rfl ?_)
    | (refine isAc 47 ?_; refine do_R rfl (st_call rfl d2 (.cons (.same rfl) .nil) rfl) rfl ?_)
    | (refine isLc 47 rfl ?_; refine lex_R rfl (by kernel_rfl) rfl (st_call rfl d2 (.cons (.same rfl) .nil) rfl) rfl ?_)
    | (refine isAc 48 ?_; refine do_R rfl (st_call rfl d3 (.cons (.same rfl) .nil) rfl) rfl ?_)
    | (refine isLc 48 rfl ?_; refine lex_R rfl (by kernel_rfl) rfl (st_call rfl d3 (.cons (.same rfl) .nil) rfl) rfl ?_)
    | (refine isAc 41 ?_; refine do_R rfl (st_call rfl ri (.cons (.same rfl) (.cons (.same rfl) .nil)) rfl) rfl ?_)
    | (refine isLc 41 rfl ?_; refine lex_R rfl (by kernel_rfl) rfl (st_call rfl ri (.cons (.same rfl) (.cons (.same rfl) .nil)) rfl) rfl ?_)
    | (refine isAc 40 ?_; refine do_R rfl (st_call rfl rs (.cons (.same rfl) (.cons (.same rfl) .nil)) rfl) rfl ?_)
    | (refine isLc 40 rfl ?_; refine lex_R rfl (by kernel_rfl) rfl (st_call rfl rs (.cons (.same rfl) (.cons (.same rfl) .nil)) rfl) rfl ?_)
    | (refine isAc 36 ?_; refine do_R rfl (st_call rfl ui (.cons (.same rfl) (.cons (.same rfl) (.cons (.same rfl) .nil))) rfl) rfl ?_)
    | (refine isLc 36 rfl ?_; refine lex_R rfl (by kernel_rfl) rfl (st_call rfl ui (.cons (.same rfl) (.cons (.same rfl) (.cons (.same rfl) .nil))) rfl) rfl ?_)
    | refine aops_nil ?_
    | refine lex_done _ rfl (by kernel_rfl) ?_
    | refine aw_ct rfl ?_
    | refine aw_cf rfl ?_
    | refine aw_block ?_
    | refine then_n ?_
    | refine aw_skip ?_
    | refine aw_exit ?_
    | refine then_x ?_
    | refine then_r ?_
    | refine block_x ?_
    | refine block_n ?_
    | refine block_r ?_
    | refine aw_ret ?_
  refine isAc 35 ?_
  refine do_R rfl (st_call rfl us (.cons (.same rfl) (.cons (.same rfl) (.cons (.same rfl) .nil))) rfl) rfl ?_
  refine isA ?_; refine do_F rfl ?_
  refine isA ?_; refine do_F rfl ?_
  refine isA ?_; refine do_F rfl ?_
  refine isA ?_; refine do_F rfl ?_
  refine isA ?_; refine do_F rfl ?_
  refine isA ?_; refine do_F rfl ?_
  refine aops_nil ?_
  refine then_n ?_
  refine aw_seq ?_
  refine aw_join ⟨(.any :: .any :: .any :: .any :: .any :: .any :: .any :: .any :: .any :: .any :: .any :: .any :: (.ptr 0 0) :: (I k) :: (.ptr 1 0) :: (B (rmV b k).2) :: .any :: .any :: .any :: .any :: .any :: .any :: .any :: .any :: .any :: .any :: .any :: .any :: .any :: .any :: .any :: .any :: .any :: .any :: .any :: .any :: .any :: .any :: .any :: .any :: .any :: .any :: .any :: .any :: .any :: .any :: .any :: .any :: .any :: .any :: .any :: .any :: .any :: .any :: .any :: .any :: .any :: .any :: .any :: .any :: .any :: .any :: .any :: .any :: .any :: .any :: .any :: .any :: .any :: .any :: .any :: .any :: .any :: .any :: .any :: .any :: .any :: .any :: .any :: .any :: .any :: .any :: .any :: .any :: .any :: .any :: .any :: .any :: .any :: .any :: .any :: .any :: .any :: .any :: .any :: .any :: .any :: .any :: .any :: .any :: .any :: .any :: .any :: .any :: .any :: .any :: .any :: .any :: .any :: .any :: .any :: .any :: .any :: .any :: .any :: .any :: .any :: .any :: .any :: .any :: .any :: .any :: .any :: .any :: .any :: .any :: .any :: .any :: .any :: .any :: .any :: .any :: .any :: .any :: .any :: .any :: .any :: .any :: .any :: .any :: .any :: .any :: .any :: .any :: .any :: .any :: .any :: .any :: .any :: .any :: .any :: .any :: .any :: .any :: .any :: .any :: .any :: .any :: .any :: .any :: .any :: .any :: .any :: .any :: .any :: .any :: .any :: .any :: .any :: .any :: .any :: .any :: .any :: .any :: .any :: .any :: .any :: .any :: .any :: .any :: .any :: .any :: .any :: .any :: .any :: .any :: .any :: .any :: .any :: .any :: .any :: .any :: .any :: .any :: .any :: .any :: .any :: .any :: .any :: .any :: .any :: .any :: .any :: .any :: .any :: .any :: .any :: .any :: .any :: .any :: .any :: .any :: .any :: .any :: .any :: .any :: .any :: .any :: .any :: .any :: .any :: .any :: .any :: .any :: .any :: .any :: .any :: .any :: .any :: .any :: .any :: .any :: .any :: .any :: .any :: .any :: .any :: .any :: .any :: .any :: .any :: .any :: .any :: .any :: .any :: .any :: .any :: .any :: .any :: .any :: .any :: .any :: .any :: .any :: .any :: .any :: []), [⟨24, 4, brE b, 0⟩, ⟨24, 4, brE (rmV b k).1, 0⟩], 0⟩ ?_ ?_
  · repeat' first
      | (refine isA ?_; refine do_R rfl (neqB_same rfl rfl rfl (by kernel_rfl)) rfl ?_)
      | refine aw_seq ?_
      | refine aw_region ?_
      | refine aw_lex [] ?_
      | (refine isA ?_; refine do_F rfl ?_)
      | (refine isL ?_; refine lex_F rfl (by kernel_rfl) rfl rfl ?_)
      | (refine isLg rfl ?_; refine lex_S rfl (by kernel_rfl) rfl rfl ?_)
      | (refine isAc 21 (x := #[.tmp 151, .tmp 152]) ?_; refine do_R rfl (st_call rfl re (.cons (.same rfl) (.cons (.same rfl) .nil)) rfl) rfl ?_)
      | (refine isLc 21 (x := #[.tmp 151, .tmp 152]) rfl ?_; refine lex_R rfl (by kernel_rfl) rfl (st_call rfl re (.cons (.same rfl) (.cons (.same rfl) .nil)) rfl) rfl ?_)
      | (refine isAc 21 (x := #[.tmp 162, .tmp 163]) ?_; refine do_R rfl (st_call rfl ue (.cons (.same rfl) (.cons (.same rfl) .nil)) rfl) rfl ?_)
      | (refine isLc 21 (x := #[.tmp 162, .tmp 163]) rfl ?_; refine lex_R rfl (by kernel_rfl) rfl (st_call rfl ue (.cons (.same rfl) (.cons (.same rfl) .nil)) rfl) rfl ?_)
      | refine aops_nil ?_
      | refine lex_done _ rfl (by kernel_rfl) ?_
      | refine aw_ct rfl ?_
      | refine aw_cf rfl ?_
      | refine aw_block ?_
      | refine then_n ?_
      | refine aw_skip ?_
      | refine aw_exit ?_
      | refine then_x ?_
      | refine then_r ?_
      | refine block_x ?_
      | refine block_n ?_
      | refine block_r ?_
      | refine aw_ret ?_
    refine do_br rfl rfl (fun p => ?_) (fun p => ?_)
    · rw [(valid_iff U).2 (uV p)] at uv
      repeat' first
        | refine aw_seq ?_
        | refine aw_region ?_
        | refine aw_lex [] ?_
        | (refine isA ?_; refine do_F rfl ?_)
        | (refine isL ?_; refine lex_F rfl (by kernel_rfl) rfl rfl ?_)
        | (refine isLg rfl ?_; refine lex_S rfl (by kernel_rfl) rfl rfl ?_)
        | (refine isAc 25 ?_; refine do_R rfl (st_call rfl uv (.cons (.same rfl) .nil) rfl) rfl ?_)
        | (refine isLc 25 rfl ?_; refine lex_R rfl (by kernel_rfl) rfl (st_call rfl uv (.cons (.same rfl) .nil) rfl) rfl ?_)
        | refine aops_nil ?_
        | refine lex_done _ rfl (by kernel_rfl) ?_
        | refine aw_ct rfl ?_
        | refine aw_cf rfl ?_
        | refine aw_block ?_
        | refine then_n ?_
        | refine aw_skip ?_
        | refine aw_exit ?_
        | refine then_x ?_
        | refine then_r ?_
        | refine block_x ?_
        | refine block_n ?_
        | refine block_r ?_
        | refine aw_ret ?_
      exact ⟨rfl, sub0 [0, 1] rfl rfl (by decide) (by repeat' first | exact HLes.nil | refine HLes.cons rfl rfl rfl rfl ?_ ?_ | exact les_nil | refine les_cons ?_ ?_ | exact le_any | exact le_refl rfl | exact le_sl rfl rfl | exact le_ptr rfl) (by repeat' first | exact les_nil | refine les_cons ?_ ?_ | exact le_any | exact le_refl rfl | exact le_sl rfl rfl | exact le_ptr rfl)⟩
    · repeat' first
        | refine aw_seq ?_
        | refine aw_region ?_
        | refine aw_lex [] ?_
        | (refine isA ?_; refine do_F rfl ?_)
        | (refine isL ?_; refine lex_F rfl (by kernel_rfl) rfl rfl ?_)
        | (refine isLg rfl ?_; refine lex_S rfl (by kernel_rfl) rfl rfl ?_)
        | refine aops_nil ?_
        | refine lex_done _ rfl (by kernel_rfl) ?_
        | refine aw_ct rfl ?_
        | refine aw_cf rfl ?_
        | refine aw_block ?_
        | refine then_n ?_
        | refine aw_skip ?_
        | refine aw_exit ?_
        | refine then_x ?_
        | refine then_r ?_
        | refine block_x ?_
        | refine block_n ?_
        | refine block_r ?_
        | refine aw_ret ?_
      exact ⟨rfl, sub0 [0, 1] rfl rfl (by decide) (by repeat' first | exact HLes.nil | refine HLes.cons rfl rfl rfl rfl ?_ ?_ | exact les_nil | refine les_cons ?_ ?_ | exact le_any | exact le_refl rfl | exact le_sl rfl rfl | exact le_ptr rfl) (by repeat' first | exact les_nil | refine les_cons ?_ ?_ | exact le_any | exact le_refl rfl | exact le_sl rfl rfl | exact le_ptr rfl)⟩
  refine then_n ?_
  clear ri rs re ui us ue uv uV d1 d2 d3
  repeat' first
    | refine aw_seq ?_
    | refine aw_region ?_
    | refine aw_lex [] ?_
    | (refine isA ?_; refine do_F rfl ?_)
    | (refine isL ?_; refine lex_F rfl (by kernel_rfl) rfl rfl ?_)
    | (refine isLg rfl ?_; refine lex_S rfl (by kernel_rfl) rfl rfl ?_)
    | refine aops_nil ?_
    | refine lex_done _ rfl (by kernel_rfl) ?_
    | refine aw_ct rfl ?_
    | refine aw_cf rfl ?_
    | refine aw_block ?_
    | refine then_n ?_
    | refine aw_skip ?_
    | refine aw_exit ?_
    | refine then_x ?_
    | refine then_r ?_
    | refine block_x ?_
    | refine block_n ?_
    | refine block_r ?_
    | refine aw_ret ?_
  refine aw_cond rfl (fun p => ?_) (fun p => ?_)
  · have p' : (rmV b k).2 = false := by simpa using p
    have e := rm_false p'
    have ce := c_seqB b b h1 h2
    rw [eqBr_self] at ce
    rw [e]
    repeat' first
      | refine aw_seq ?_
      | refine aw_region ?_
      | refine aw_lex [] ?_
      | (refine isA ?_; refine do_F rfl ?_)
      | (refine isL ?_; refine lex_F rfl (by kernel_rfl) rfl rfl ?_)
      | (refine isLg rfl ?_; refine lex_S rfl (by kernel_rfl) rfl rfl ?_)
      | (refine isAc 21 ?_; refine do_R rfl (st_call rfl ce (.cons (.same rfl) (.cons (.same rfl) .nil)) rfl) rfl ?_)
      | (refine isLc 21 rfl ?_; refine lex_R rfl (by kernel_rfl) rfl (st_call rfl ce (.cons (.same rfl) (.cons (.same rfl) .nil)) rfl) rfl ?_)
      | exact fin1 rfl rfl rfl
      | refine aops_nil ?_
      | refine lex_done _ rfl (by kernel_rfl) ?_
      | refine aw_ct rfl ?_
      | refine aw_cf rfl ?_
      | refine aw_block ?_
      | refine then_n ?_
      | refine aw_skip ?_
      | refine aw_exit ?_
      | refine then_x ?_
      | refine then_r ?_
      | refine block_x ?_
      | refine block_n ?_
      | refine block_r ?_
      | refine aw_ret ?_
  have p' : (rmV b k).2 = true := by simpa using p
  have V : VB b := by
    cases hv : validB b with
    | true => exact (valid_iff b).1 hv
    | false => rw [rm_no hv] at p'; cases p'
  obtain ⟨VZ, z1, z2, z3⟩ := rm_valid p'
  have zm := fun hw i z hz => @more_gf b k V p' hw i z hz
  have zg : gf (rmV b k).1 k = (0, false) := gf_no2 (idxs_none.2 z2)
  generalize (rmV b k).1 = Z at VZ z1 z2 z3 zm zg r1 r2
  have y1 : Z.act.length ≤ 1000000000 := by omega
  have y2 : Z.wait.length ≤ 1000000000 := by omega
  have cg0 := c_igf Z k y1 y2
  rw [zg] at cg0
  have cv := c_ivalid Z y1 y2
  rw [(valid_iff Z).2 VZ] at cv
  have hw : IntKind.i64.wrap ((Z.act.length : Int) + Z.wait.length) = IntKind.i64.wrap (IntKind.i64.wrap ((b.act.length : Int) + b.wait.length) - 1) := by
    rw [wrap_s h1 h2]
    exact congrArg _ (by omega)
  repeat' first
    | refine aw_seq ?_
    | refine aw_region ?_
    | refine aw_lex [] ?_
    | (refine isA ?_; refine do_F rfl ?_)
    | (refine isL ?_; refine lex_F rfl (by kernel_rfl) rfl rfl ?_)
    | (refine isLg rfl ?_; refine lex_S rfl (by kernel_rfl) rfl rfl ?_)
    | (refine isAc 27 ?_; refine do_R rfl (st_call rfl cg0 (.cons (.same rfl) (.cons (.same rfl) .nil)) rfl) rfl ?_)
    | (refine isLc 27 rfl ?_; refine lex_R rfl (by kernel_rfl) rfl (st_call rfl cg0 (.cons (.same rfl) (.cons (.same rfl) .nil)) rfl) rfl ?_)
    | (refine isAc 25 ?_; refine do_R rfl (st_call rfl cv (.cons (.same rfl) .nil) rfl) rfl ?_)
    | (refine isLc 25 rfl ?_; refine lex_R rfl (by kernel_rfl) rfl (st_call rfl cv (.cons (.same rfl) .nil) rfl) rfl ?_)
    | refine aops_nil ?_
    | refine lex_done _ rfl (by kernel_rfl) ?_
    | refine aw_ct rfl ?_
    | refine aw_cf rfl ?_
    | refine aw_block ?_
    | refine then_n ?_
    | refine aw_skip ?_
    | refine aw_exit ?_
    | refine then_x ?_
    | refine then_r ?_
    | refine block_x ?_
    | refine block_n ?_
    | refine block_r ?_
    | refine aw_ret ?_
  refine aw_cond rfl (fun p => absurd p (by simp only [hw]; simp)) (fun p => ?_)
  repeat' first
    | refine aw_seq ?_
    | refine aw_region ?_
    | refine aw_lex [] ?_
    | (refine isA ?_; refine do_F rfl ?_)
    | (refine isL ?_; refine lex_F rfl (by kernel_rfl) rfl rfl ?_)
    | (refine isLg rfl ?_; refine lex_S rfl (by kernel_rfl) rfl rfl ?_)
    | refine aops_nil ?_
    | refine lex_done _ rfl (by kernel_rfl) ?_
    | refine aw_ct rfl ?_
    | refine aw_cf rfl ?_
    | refine aw_block ?_
    | refine then_n ?_
    | refine aw_skip ?_
    | refine aw_exit ?_
    | refine then_x ?_
    | refine then_r ?_
    | refine block_x ?_
    | refine block_n ?_
    | refine block_r ?_
    | refine aw_ret ?_
  refine aw_loop (α := { i : Nat // i ≤ Z.act.length }) (fun i => ⟨(.any :: .any :: .any :: .any :: .any :: .any :: .any :: .any :: .any :: .any :: .any :: .any :: (.ptr 0 0) :: .any :: (.ptr 1 0) :: .any :: .any :: .any :: .any :: .any :: .any :: .any :: .any :: .any :: .any :: .any :: .any :: (I i.1) :: .any :: .any :: .any :: .any :: .any :: .any :: .any :: .any :: .any :: .any :: .any :: .any :: .any :: .any :: .any :: .any :: .any :: .any :: .any :: .any :: .any :: .any :: .any :: .any :: .any :: .any :: .any :: .any :: .any :: .any :: .any :: .any :: .any :: .any :: .any :: .any :: .any :: .any :: .any :: .any :: .any :: .any :: .any :: .any :: .any :: .any :: .any :: .any :: .any :: .any :: .any :: .any :: .any :: .any :: .any :: .any :: .any :: .any :: .any :: .any :: .any :: .any :: .any :: .any :: .any :: .any :: .any :: .any :: .any :: .any :: .any :: .any :: .any :: .any :: .any :: .any :: .any :: .any :: .any :: .any :: .any :: .any :: .any :: .any :: .any :: .any :: .any :: .any :: .any :: .any :: .any :: .any :: .any :: .any :: .any :: .any :: .any :: .any :: .any :: .any :: .any :: .any :: .any :: .any :: .any :: .any :: .any :: .any :: .any :: .any :: .any :: .any :: .any :: .any :: .any :: .any :: .any :: .any :: .any :: .any :: .any :: .any :: .any :: .any :: .any :: .any :: .any :: .any :: .any :: .any :: .any :: .any :: .any :: .any :: .any :: .any :: .any :: .any :: .any :: .any :: .any :: .any :: .any :: .any :: .any :: .any :: .any :: .any :: .any :: .any :: .any :: .any :: .any :: .any :: .any :: .any :: .any :: .any :: .any :: .any :: .any :: .any :: .any :: .any :: .any :: .any :: .any :: .any :: .any :: .any :: .any :: .any :: .any :: .any :: .any :: .any :: .any :: .any :: .any :: .any :: .any :: .any :: .any :: .any :: .any :: .any :: .any :: .any :: .any :: .any :: .any :: .any :: .any :: .any :: .any :: .any :: .any :: .any :: .any :: .any :: .any :: .any :: .any :: .any :: .any :: .any :: .any :: .any :: .any :: .any :: .any :: .any :: .any :: .any :: .any :: .any :: .any :: .any :: .any :: .any :: .any :: .any :: .any :: .any :: .any :: .any :: .any :: .any :: []), [⟨24, 4, brE b, 0⟩, ⟨24, 4, brE Z, 0⟩], 0⟩) (fun i => Z.act.length - i.1) ⟨0, Nat.zero_le _⟩ ?_ ?_
  · exact sub0 [0, 1] rfl rfl (by decide) (by repeat' first | exact HLes.nil | refine HLes.cons rfl rfl rfl rfl ?_ ?_ | exact les_nil | refine les_cons ?_ ?_ | exact le_any | exact le_refl rfl | exact le_sl rfl rfl | exact le_ptr rfl) (by repeat' first | exact les_nil | refine les_cons ?_ ?_ | exact le_any | exact le_refl rfl | exact le_sl rfl rfl | exact le_ptr rfl)
  · rintro ⟨i, hi⟩
    repeat' first
      | refine aw_seq ?_
      | refine aw_region ?_
      | refine aw_lex [] ?_
      | (refine isA ?_; refine do_F rfl ?_)
      | (refine isL ?_; refine lex_F rfl (by kernel_rfl) rfl rfl ?_)
      | (refine isLg rfl ?_; refine lex_S rfl (by kernel_rfl) rfl rfl ?_)
      | refine aops_nil ?_
      | refine lex_done _ rfl (by kernel_rfl) ?_
      | refine aw_ct rfl ?_
      | refine aw_cf rfl ?_
      | refine aw_block ?_
      | refine then_n ?_
      | refine aw_skip ?_
      | refine aw_exit ?_
      | refine then_x ?_
      | refine then_r ?_
      | refine block_x ?_
      | refine block_n ?_
      | refine block_r ?_
      | refine aw_ret ?_
    refine do_br rfl rfl (fun q => ?_) (fun q => ?_)
    · have hlt : i < Z.act.length := by have := of_decide_eq_true q; simp only at this; omega
      obtain ⟨z, hz⟩ : ∃ z, Z.act[i]? = some z := ⟨_, List.getElem?_eq_getElem hlt⟩
      repeat' first
        | refine aw_seq ?_
        | refine aw_region ?_
        | refine aw_lex [] ?_
        | (refine isA ?_; refine do_F rfl ?_)
        | (refine isL ?_; refine lex_F rfl (by kernel_rfl) rfl rfl ?_)
        | (refine isLg rfl ?_; refine lex_S rfl (by kernel_rfl) rfl rfl ?_)
        | refine aops_nil ?_
        | refine lex_done _ rfl (by kernel_rfl) ?_
        | refine aw_ct rfl ?_
        | refine aw_cf rfl ?_
        | refine aw_block ?_
        | refine then_n ?_
        | refine aw_skip ?_
        | refine aw_exit ?_
        | refine then_x ?_
        | refine then_r ?_
        | refine block_x ?_
        | refine block_n ?_
        | refine block_r ?_
        | refine aw_ret ?_
      refine aw_cond rfl (fun q2 => ?_) (fun q2 => ?_)
      · have hw0 : b.wait.length = 0 := by have := of_decide_eq_true q2; omega
        obtain ⟨g, g', e1, e2, hle⟩ := zm hw0 i z hz
        have cb := c_sgf b z.a h1 h2
        have cz := c_igf Z z.a y1 y2
        rw [e1] at cb
        rw [e2] at cz
        repeat' first
          | refine aw_seq ?_
          | refine aw_region ?_
          | refine aw_lex [] ?_
          | (refine isA ?_; refine do_F rfl ?_)
          | (refine isL ?_; refine lex_F rfl (by kernel_rfl) rfl rfl ?_)
          | (refine isLg rfl ?_; refine lex_S rfl (by kernel_rfl) rfl rfl ?_)
          | (refine isAi (x := .tmp 226) ?_; refine do_R rfl (ia_l (t := clT) (z := z) rfl rfl rfl rfl (Int.natCast_nonneg i) hz) rfl ?_)
          | (refine isLi (x := .tmp 226) rfl ?_; refine lex_R rfl (by kernel_rfl) rfl (ia_l (t := clT) (z := z) rfl rfl rfl rfl (Int.natCast_nonneg i) hz) rfl ?_)
          | (refine isAi (x := .tmp 237) ?_; refine do_R rfl (ia_l (t := clT) (z := z) rfl rfl rfl rfl (Int.natCast_nonneg i) hz) rfl ?_)
          | (refine isLi (x := .tmp 237) rfl ?_; refine lex_R rfl (by kernel_rfl) rfl (ia_l (t := clT) (z := z) rfl rfl rfl rfl (Int.natCast_nonneg i) hz) rfl ?_)
          | (refine isAc 26 ?_; refine do_R rfl (st_call rfl cb (.cons (.same rfl) (.cons (.same rfl) .nil)) rfl) rfl ?_)
          | (refine isLc 26 rfl ?_; refine lex_R rfl (by kernel_rfl) rfl (st_call rfl cb (.cons (.same rfl) (.cons (.same rfl) .nil)) rfl) rfl ?_)
          | (refine isAc 27 ?_; refine do_R rfl (st_call rfl cz (.cons (.same rfl) (.cons (.same rfl) .nil)) rfl) rfl ?_)
          | (refine isLc 27 rfl ?_; refine lex_R rfl (by kernel_rfl) rfl (st_call rfl cz (.cons (.same rfl) (.cons (.same rfl) .nil)) rfl) rfl ?_)
          | refine aops_nil ?_
          | refine lex_done _ rfl (by kernel_rfl) ?_
          | refine aw_ct rfl ?_
          | refine aw_cf rfl ?_
          | refine aw_block ?_
          | refine then_n ?_
          | refine aw_skip ?_
          | refine aw_exit ?_
          | refine then_x ?_
          | refine then_r ?_
          | refine block_x ?_
          | refine block_n ?_
          | refine block_r ?_
          | refine aw_ret ?_
        refine aw_cond rfl (fun q3 => absurd (of_decide_eq_true q3) (by simp only; omega)) (fun _ => ?_)
        repeat' first
          | refine aw_seq ?_
          | refine aw_region ?_
          | refine aw_lex [] ?_
          | (refine isA ?_; refine do_F rfl ?_)
          | (refine isL ?_; refine lex_F rfl (by kernel_rfl) rfl rfl ?_)
          | (refine isLg rfl ?_; refine lex_S rfl (by kernel_rfl) rfl rfl ?_)
          | refine aops_nil ?_
          | refine lex_done _ rfl (by kernel_rfl) ?_
          | refine aw_ct rfl ?_
          | refine aw_cf rfl ?_
          | refine aw_block ?_
          | refine then_n ?_
          | refine aw_skip ?_
          | refine aw_exit ?_
          | refine then_x ?_
          | refine then_r ?_
          | refine block_x ?_
          | refine block_n ?_
          | refine block_r ?_
          | refine aw_ret ?_
        refine ⟨⟨i + 1, hlt⟩, by simp only; omega, ?_⟩
        exact sub0 [0, 1] rfl rfl (by decide) (by repeat' first | exact HLes.nil | refine HLes.cons rfl rfl rfl rfl ?_ ?_ | exact les_nil | refine les_cons ?_ ?_ | exact le_any | exact le_refl rfl | exact le_sl rfl rfl | exact le_ptr rfl) (by
          repeat' first
            | exact les_nil
            | refine les_cons ?_ ?_
            | exact le_any
            | exact le_refl rfl
            | exact le_ptr rfl
            | exact le_i hlt (by omega))
      · repeat' first
          | refine aw_seq ?_
          | refine aw_region ?_
          | refine aw_lex [] ?_
          | (refine isA ?_; refine do_F rfl ?_)
          | (refine isL ?_; refine lex_F rfl (by kernel_rfl) rfl rfl ?_)
          | (refine isLg rfl ?_; refine lex_S rfl (by kernel_rfl) rfl rfl ?_)
          | exact fin1 rfl rfl rfl
          | refine aops_nil ?_
          | refine lex_done _ rfl (by kernel_rfl) ?_
          | refine aw_ct rfl ?_
          | refine aw_cf rfl ?_
          | refine aw_block ?_
          | refine then_n ?_
          | refine aw_skip ?_
          | refine aw_exit ?_
          | refine then_x ?_
          | refine then_r ?_
          | refine block_x ?_
          | refine block_n ?_
          | refine block_r ?_
          | refine aw_ret ?_
    · repeat' first
        | refine aw_seq ?_
        | refine aw_region ?_
        | refine aw_lex [] ?_
        | (refine isA ?_; refine do_F rfl ?_)
        | (refine isL ?_; refine lex_F rfl (by kernel_rfl) rfl rfl ?_)
        | (refine isLg rfl ?_; refine lex_S rfl (by kernel_rfl) rfl rfl ?_)
        | exact fin1 rfl rfl rfl
        | refine aops_nil ?_
        | refine lex_done _ rfl (by kernel_rfl) ?_
        | refine aw_ct rfl ?_
        | refine aw_cf rfl ?_
        | refine aw_block ?_
        | refine then_n ?_
        | refine aw_skip ?_
        | refine aw_exit ?_
        | refine then_x ?_
        | refine then_r ?_
        | refine block_x ?_
        | refine block_n ?_
        | refine block_r ?_
        | refine aw_ret ?_
end Go.Proofs.Ytjlhfemfmkdlhaa.Ab
