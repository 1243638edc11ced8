/- Texts JoB, DrwA, DrwB, DrwP, StA, StB, DrwQ, JoC, PaS, PaC, PaD, PaE, PaF in one. -/
import Derived.Test.YtkcicbigpbdjpaaZj0
import Derived.Test.YtkcicbigpbdjpaaAbW
import Derived.Test.YtkcicbigpbdjpaaAbT
import Derived.Test.YtkcicbigpbdjpaaAbX
import Derived.Test.YtkcicbigpbdjpaaAb5
import Derived.Test.YtkcicbigpbdjpaaAb2
import Derived.Test.YtkcicbigpbdjpaaAb9
set_option linter.unusedVariables false
set_option linter.unusedSimpArgs false
set_option maxRecDepth 20000
set_option maxHeartbeats 8000000
/- JoB -/
namespace Go.Proofs.Ytkcicbigpbdjpaa.Ab.Pr
open Go.RowKit

abbrev bxR (l : Go.Proofs.Ytkcicbigpbdjpaa.Ab.Rw) : Reg := ⟨71, 3, Go.Proofs.Ytkcicbigpbdjpaa.Ab.rwE l, 0⟩
theorem aw_joinQ {P : Program} (id : Nat) {ops : Array Oper} {b : Bool} {c y : Code} {Q : Exit → St → Prop} {S : St} (T : St) (h : AW P (.seq (.region id ops b) c) (fun e S' => e = .normal ∧ Sub T S') S) (k : AW P y Q T) : AW P (.seq (.seq (.region id ops b) c) y) Q S :=
  aw_seq ⟨fun C φ a w hI => wp_mono (h.out C φ a w hI) fun e a' w' hq => by
    obtain ⟨S', φ1, hI', he, hs⟩ := hq
    subst he
    obtain ⟨φ2, h2⟩ := hs C φ1 a' w' hI'
    exact ⟨T, φ2, h2, k⟩⟩

theorem c_ijoin (k : Int) (a b : List Go.Proofs.Ytkcicbigpbdjpaa.Ab.Rw) (h1 : a.length ≤ 1000) (h2 : b.length ≤ 1000) : Meets Go.Proofs.Try.prog 68 [I k, Go.Proofs.Ytkcicbigpbdjpaa.Ab.rwL a, Go.Proofs.Ytkcicbigpbdjpaa.Ab.rwL b] [] (.sl 0 0 (joinV k a b).length) [rwR (joinV k a b)] false := by
  refine meets_of [6] Go.Proofs.Try.func68 rfl rfl ?_
  simp only [Go.Proofs.Try.ntmps68, List.length_cons, List.length_nil, Nat.reduceAdd, Nat.reduceSub, List.replicate_succ, List.replicate_zero, List.cons_append, List.nil_append]
  repeat' first | refine aw_seq ?_ | refine aw_region ?_ | refine aw_lex [] ?_ | (refine isA ?_; refine do_F rfl ?_) | (refine isL ?_; refine lex_F rfl (by kernel_rfl) rfl rfl ?_) | (refine isLg rfl ?_; refine lex_S rfl (by kernel_rfl) rfl rfl ?_) | refine aops_nil ?_ | refine lex_done _ rfl (by kernel_rfl) ?_ | refine aw_ct rfl ?_ | refine aw_cf rfl ?_ | refine aw_block ?_ | with_reducible refine then_n ?_ | refine aw_skip ?_ | refine aw_exit ?_ | (with_reducible first | refine then_x ?_ | refine then_r ?_ | refine block_x ?_ | refine block_n ?_ | refine block_r ?_) | refine aw_ret ?_
  refine aw_loop (α := { p : Nat × List Rw // p.1 ≤ a.length ∧ p.2 = joinV k (a.take p.1) b }) (fun p => ⟨((I k) :: (Go.Proofs.Ytkcicbigpbdjpaa.Ab.rwL a) :: (Go.Proofs.Ytkcicbigpbdjpaa.Ab.rwL b) :: .any :: .any :: .any :: .any :: (.sl 0 0 p.1.2.length) :: .any :: .any :: .any :: .any :: .any :: .any :: (Go.Proofs.Ytkcicbigpbdjpaa.Ab.rwL a) :: (I a.length) :: (I p.1.1) :: .any :: .any :: .any :: .any :: .any :: .any :: .any :: .any :: .any :: .any :: .any :: .any :: .any :: .any :: .any :: .any :: .any :: .any :: .any :: .any :: .any :: .any :: .any :: .any :: .any :: .any :: .any :: .any :: .any :: .any :: .any :: .any :: .any :: .any :: .any :: .any :: .any :: .any :: .any :: .any :: .any :: .any :: .any :: .any :: .any :: .any :: .any :: .any :: .any :: .any :: .any :: .any :: .any :: .any :: .any :: .any :: .any :: .any :: .any :: []), [rwR p.1.2], 0⟩) (fun p => a.length - p.1.1) ⟨(0, []), Nat.zero_le _, rfl⟩ ?_ ?_
  · exact sub0 [0] rfl rfl (by decide) (.cons rfl rfl rfl rfl (les_refl (flat_noH _ _)) .nil) (by repeat' first | exact les_nil | refine les_cons ?_ ?_ | exact le_any | exact le_refl rfl | exact le_sl rfl rfl | exact le_ptr rfl)
  · rintro ⟨⟨i, out⟩, hi, ho⟩
    simp only at hi ho
    repeat' first | refine aw_seq ?_ | refine aw_region ?_ | refine aw_lex [] ?_ | (refine isA ?_; refine do_F rfl ?_) | (refine isL ?_; refine lex_F rfl (by kernel_rfl) rfl rfl ?_) | (refine isLg rfl ?_; refine lex_S rfl (by kernel_rfl) rfl rfl ?_) | refine aops_nil ?_ | refine lex_done _ rfl (by kernel_rfl) ?_ | refine aw_ct rfl ?_ | refine aw_cf rfl ?_ | refine aw_block ?_ | with_reducible refine then_n ?_ | refine aw_skip ?_ | refine aw_exit ?_ | (with_reducible first | refine then_x ?_ | refine then_r ?_ | refine block_x ?_ | refine block_n ?_ | refine block_r ?_) | refine aw_ret ?_
    refine aw_cond rfl (fun h => ?_) (fun h => ?_)
    · have hlt : i < a.length := by simpa using h
      obtain ⟨l, hl⟩ : ∃ z, a[i]? = some z := ⟨_, List.getElem?_eq_getElem hlt⟩
      have hs := join_snoc (k := k) (b := b) hl
      have hjl : out.length ≤ 1002000 := by
        rw [ho]
        have := join_len k b (a.take i)
        have h3 : (a.take i).length ≤ 1000 := by simp; omega
        have h4 : (a.take i).length * (b.length + 1) ≤ 1000 * 1001 := Nat.mul_le_mul h3 (by omega)
        omega
      have hol := one_len k b l
      rw [oneJ, ← ho, ← List.append_assoc] at hs
      have hn := cnt_le l b
      have ci := c_icount l b (by omega)
      repeat' first | (refine aw_joinQ 6 ⟨((I k) :: (Go.Proofs.Ytkcicbigpbdjpaa.Ab.rwL a) :: (Go.Proofs.Ytkcicbigpbdjpaa.Ab.rwL b) :: .any :: .any :: .any :: .any :: (.sl 0 0 (out ++ cond (c6 k (cntV l b)) (matV l b) []).length) :: .any :: (.ptr 1 0) :: (I (cntV l b)) :: .any :: .any :: .any :: (Go.Proofs.Ytkcicbigpbdjpaa.Ab.rwL a) :: (I a.length) :: (I i) :: .any :: .any :: .any :: .any :: .any :: .any :: .any :: .any :: .any :: .any :: .any :: .any :: .any :: .any :: .any :: .any :: .any :: .any :: .any :: .any :: .any :: .any :: .any :: .any :: .any :: .any :: .any :: .any :: .any :: .any :: .any :: .any :: .any :: .any :: .any :: .any :: .any :: .any :: .any :: .any :: .any :: .any :: .any :: .any :: .any :: .any :: .any :: .any :: .any :: .any :: .any :: .any :: .any :: .any :: .any :: .any :: .any :: .any :: .any :: []), [rwR (out ++ cond (c6 k (cntV l b)) (matV l b) []), bxR l], 0⟩ (unhold ?_) (unhold ?_)) | refine aw_seq ?_ | refine aw_region ?_ | refine aw_lex [] ?_ | (refine isA ?_; refine do_F rfl ?_) | (refine isL ?_; refine lex_F rfl (by kernel_rfl) rfl rfl ?_) | (refine isLg rfl ?_; refine lex_S rfl (by kernel_rfl) rfl rfl ?_) | (refine isAi (x := .tmp 14) ?_; refine do_R rfl (ia_l (t := Go.Proofs.Ytkcicbigpbdjpaa.Ab.rwT) (z := l) rfl rfl rfl rfl (Int.natCast_nonneg i) hl) rfl ?_) | (refine isLi (x := .tmp 14) rfl ?_; refine lex_R rfl (by kernel_rfl) rfl (ia_l (t := Go.Proofs.Ytkcicbigpbdjpaa.Ab.rwT) (z := l) rfl rfl rfl rfl (Int.natCast_nonneg i) hl) rfl ?_) | (refine isAc 74 ?_; refine do_R rfl (st_call rfl ci (.cons (.same rfl) (.cons (.same rfl) .nil)) rfl) rfl ?_) | (refine isLc 74 rfl ?_; refine lex_R rfl (by kernel_rfl) rfl (st_call rfl ci (.cons (.same rfl) (.cons (.same rfl) .nil)) rfl) rfl ?_) | refine aops_nil ?_ | refine lex_done _ rfl (by kernel_rfl) ?_ | refine aw_ct rfl ?_ | refine aw_cf rfl ?_ | refine aw_block ?_ | with_reducible refine then_n ?_ | refine aw_skip ?_ | refine aw_exit ?_ | (with_reducible first | refine then_x ?_ | refine then_r ?_ | refine block_x ?_ | refine block_n ?_ | refine block_r ?_) | refine aw_ret ?_
      · refine hold ?_
        refine aw_joinR 6 ⟨((I k) :: (Go.Proofs.Ytkcicbigpbdjpaa.Ab.rwL a) :: (Go.Proofs.Ytkcicbigpbdjpaa.Ab.rwL b) :: .any :: .any :: .any :: .any :: (.sl 0 0 out.length) :: .any :: (.ptr 1 0) :: (I (cntV l b)) :: .any :: .any :: .any :: (Go.Proofs.Ytkcicbigpbdjpaa.Ab.rwL a) :: (I a.length) :: (I i) :: .any :: .any :: .any :: .any :: .any :: .any :: .any :: .any :: .any :: .any :: .any :: .any :: .any :: .any :: .any :: (B (c6 k (cntV l b))) :: .any :: .any :: .any :: .any :: .any :: .any :: .any :: .any :: .any :: .any :: .any :: .any :: .any :: .any :: .any :: .any :: .any :: .any :: .any :: .any :: .any :: .any :: .any :: .any :: .any :: .any :: .any :: .any :: .any :: .any :: .any :: .any :: .any :: .any :: .any :: .any :: .any :: .any :: .any :: .any :: .any :: .any :: .any :: []), [rwR out, bxR l], 0⟩ ?_ ?_
        · repeat' first | refine aw_seq ?_ | refine aw_region ?_ | refine aw_lex [] ?_ | (refine isA ?_; refine do_F rfl ?_) | (refine isL ?_; refine lex_F rfl (by kernel_rfl) rfl rfl ?_) | (refine isLg rfl ?_; refine lex_S rfl (by kernel_rfl) rfl rfl ?_) | exact ⟨rfl, sub0 [0, 1] rfl rfl (by decide) (.cons rfl rfl rfl rfl (les_refl (flat_noH _ _)) (.cons rfl rfl rfl rfl (les_refl' rfl) .nil)) (by repeat' first | exact les_nil | refine les_cons ?_ ?_ | exact le_any | exact le_refl rfl | exact le_ptr rfl | exact le_sl rfl rfl | exact le_sl rfl (by simp) | exact le_i (by omega) (by omega) | exact le_k (congrArg _ (by first | ((try simp only [Bool.not_eq_true', Bool.not_eq_false'] at *); simp only [c6, *, Bool.true_and, Bool.false_and, Bool.and_true, Bool.and_false, Bool.true_or, Bool.false_or, Bool.or_true, Bool.or_false, Bool.not_true, Bool.not_false, cond_true, cond_false]; done) | (simp_all [c6]; done) | (simp_all [c6]; intros; omega))))⟩ | refine aops_nil ?_ | refine lex_done _ rfl (by kernel_rfl) ?_ | refine aw_ct rfl ?_ | refine aw_cf rfl ?_ | refine aw_block ?_ | with_reducible refine then_n ?_ | refine aw_skip ?_ | refine aw_exit ?_ | (with_reducible first | refine then_x ?_ | refine then_r ?_ | refine block_x ?_ | refine block_n ?_ | refine block_r ?_) | refine aw_ret ?_ | (refine isAg ?_; refine do_br rfl rfl (fun hbr => ?_) (fun hbr => ?_) <;> (fail_if_success (with_reducible (have hx : true = true := hbr))) <;> (fail_if_success (with_reducible (have hx : false = false := hbr)))) | (refine isLg rfl ?_; refine lex_br rfl rfl rfl rfl (fun hbr => ?_) (fun hbr => ?_) <;> (fail_if_success (with_reducible (have hx : true = true := hbr))) <;> (fail_if_success (with_reducible (have hx : false = false := hbr))))
        · rcases Bool.eq_false_or_eq_true (c6 k (cntV l b)) with q | q
          · rw [q]
            repeat' first | refine aw_seq ?_ | refine aw_region ?_ | refine aw_lex [] ?_ | (refine isA ?_; refine do_F rfl ?_) | (refine isL ?_; refine lex_F rfl (by kernel_rfl) rfl rfl ?_) | (refine isLg rfl ?_; refine lex_S rfl (by kernel_rfl) rfl rfl ?_) | refine aops_nil ?_ | refine lex_done _ rfl (by kernel_rfl) ?_ | refine aw_ct rfl ?_ | refine aw_cf rfl ?_ | refine aw_block ?_ | with_reducible refine then_n ?_ | refine aw_skip ?_ | refine aw_exit ?_ | (with_reducible first | refine then_x ?_ | refine then_r ?_ | refine block_x ?_ | refine block_n ?_ | refine block_r ?_) | refine aw_ret ?_
            refine aw_loop (α := { p : Nat × List Rw // p.1 ≤ b.length ∧ p.2 = out ++ matV l (b.take p.1) }) (fun p => ⟨((I k) :: (Go.Proofs.Ytkcicbigpbdjpaa.Ab.rwL a) :: (Go.Proofs.Ytkcicbigpbdjpaa.Ab.rwL b) :: .any :: .any :: .any :: .any :: (.sl 0 0 p.1.2.length) :: .any :: (.ptr 1 0) :: (I (cntV l b)) :: .any :: .any :: .any :: (Go.Proofs.Ytkcicbigpbdjpaa.Ab.rwL a) :: (I a.length) :: (I i) :: .any :: .any :: .any :: .any :: .any :: .any :: .any :: .any :: .any :: .any :: .any :: .any :: .any :: .any :: .any :: .any :: (Go.Proofs.Ytkcicbigpbdjpaa.Ab.rwL b) :: (I b.length) :: (I p.1.1) :: .any :: .any :: .any :: .any :: .any :: .any :: .any :: .any :: .any :: .any :: .any :: .any :: .any :: .any :: .any :: .any :: .any :: .any :: .any :: .any :: .any :: .any :: .any :: .any :: .any :: .any :: .any :: .any :: .any :: .any :: .any :: .any :: .any :: .any :: .any :: .any :: .any :: .any :: .any :: .any :: []), [rwR p.1.2, bxR l], 0⟩) (fun p => b.length - p.1.1) ⟨(0, out), Nat.zero_le _, by simp [matV]⟩ ?_ ?_
            · exact sub0 [0, 1] rfl rfl (by decide) (.cons rfl rfl rfl rfl (les_refl (flat_noH _ _)) (.cons rfl rfl rfl rfl (les_refl' rfl) .nil)) (by repeat' first | exact les_nil | refine les_cons ?_ ?_ | exact le_any | exact le_refl rfl | exact le_ptr rfl | exact le_sl rfl rfl | exact le_sl rfl (by simp) | exact le_i (by omega) (by omega))
            · rintro ⟨⟨j, u⟩, hj, hu⟩
              simp only at hj hu
              have hul : u.length ≤ 1003000 := by
                rw [hu]
                have := mat_len l (b.take j)
                have := cnt_le l (b.take j)
                simp only [List.length_append, List.length_take] at *; omega
              repeat' first | refine aw_seq ?_ | refine aw_region ?_ | refine aw_lex [] ?_ | (refine isA ?_; refine do_F rfl ?_) | (refine isL ?_; refine lex_F rfl (by kernel_rfl) rfl rfl ?_) | (refine isLg rfl ?_; refine lex_S rfl (by kernel_rfl) rfl rfl ?_) | refine aops_nil ?_ | refine lex_done _ rfl (by kernel_rfl) ?_ | refine aw_ct rfl ?_ | refine aw_cf rfl ?_ | refine aw_block ?_ | with_reducible refine then_n ?_ | refine aw_skip ?_ | refine aw_exit ?_ | (with_reducible first | refine then_x ?_ | refine then_r ?_ | refine block_x ?_ | refine block_n ?_ | refine block_r ?_) | refine aw_ret ?_
              refine aw_cond rfl (fun h => ?_) (fun h => ?_)
              · have hjt : j < b.length := by simpa using h
                obtain ⟨z, hz⟩ : ∃ z, b[j]? = some z := ⟨_, List.getElem?_eq_getElem hjt⟩
                have hm := mat_snoc (l := l) hz
                repeat' first | refine aw_seq ?_ | refine aw_region ?_ | refine aw_lex [] ?_ | (refine isA ?_; refine do_F rfl ?_) | (refine isL ?_; refine lex_F rfl (by kernel_rfl) rfl rfl ?_) | (refine isLg rfl ?_; refine lex_S rfl (by kernel_rfl) rfl rfl ?_) | (refine isAi (x := .tmp 33) ?_; refine do_R rfl (ia_l (t := Go.Proofs.Ytkcicbigpbdjpaa.Ab.rwT) (z := z) rfl rfl rfl rfl (Int.natCast_nonneg j) hz) rfl ?_) | (refine isLi (x := .tmp 33) rfl ?_; refine lex_R rfl (by kernel_rfl) rfl (ia_l (t := Go.Proofs.Ytkcicbigpbdjpaa.Ab.rwT) (z := z) rfl rfl rfl rfl (Int.natCast_nonneg j) hz) rfl ?_) | refine aops_nil ?_ | refine lex_done _ rfl (by kernel_rfl) ?_ | refine aw_ct rfl ?_ | refine aw_cf rfl ?_ | refine aw_block ?_ | with_reducible refine then_n ?_ | refine aw_skip ?_ | refine aw_exit ?_ | (with_reducible first | refine then_x ?_ | refine then_r ?_ | refine block_x ?_ | refine block_n ?_ | refine block_r ?_) | refine aw_ret ?_
                refine aw_cond rfl (fun h1 => ?_) (fun h1 => ?_)
                · have e : hit l z = true := h1
                  rw [e] at hm
                  repeat' first | refine aw_seq ?_ | refine aw_region ?_ | refine aw_lex [] ?_ | (refine isA ?_; refine do_F rfl ?_) | (refine isL ?_; refine lex_F rfl (by kernel_rfl) rfl rfl ?_) | (refine isLg rfl ?_; refine lex_S rfl (by kernel_rfl) rfl rfl ?_) | (refine isAp ?_; refine do_R rfl (ap_l (t := rwT) (xs := u) (ys := [⟨l, z, true⟩]) rfl rfl rfl rfl (src_of rfl rfl rfl rfl) (by simp; omega) rfl) rfl ?_) | (refine isLp rfl ?_; refine lex_R rfl (by kernel_rfl) rfl (ap_l (t := rwT) (xs := u) (ys := [⟨l, z, true⟩]) rfl rfl rfl rfl (src_of rfl rfl rfl rfl) (by simp; omega) rfl) rfl ?_) | refine aops_nil ?_ | refine lex_done _ rfl (by kernel_rfl) ?_ | refine aw_ct rfl ?_ | refine aw_cf rfl ?_ | refine aw_block ?_ | with_reducible refine then_n ?_ | refine aw_skip ?_ | refine aw_exit ?_ | (with_reducible first | refine then_x ?_ | refine then_r ?_ | refine block_x ?_ | refine block_n ?_ | refine block_r ?_) | refine aw_ret ?_
                  refine ⟨⟨(j + 1, u ++ [⟨l, z, true⟩]), hjt, by rw [hm, hu]; simp⟩, by simp only; omega, ?_⟩
                  exact sub0 [4, 1] rfl rfl (by decide) (.cons rfl rfl rfl rfl (les_refl (flat_noH _ _)) (.cons rfl rfl rfl rfl (les_refl' rfl) .nil)) (by repeat' first | exact les_nil | refine les_cons ?_ ?_ | exact le_any | exact le_refl rfl | exact le_ptr rfl | exact le_sl rfl rfl | exact le_sl rfl (by simp) | exact le_i (by omega) (by omega))
                · have e : hit l z = false := h1
                  rw [e] at hm
                  repeat' first | refine aw_seq ?_ | refine aw_region ?_ | refine aw_lex [] ?_ | (refine isA ?_; refine do_F rfl ?_) | (refine isL ?_; refine lex_F rfl (by kernel_rfl) rfl rfl ?_) | (refine isLg rfl ?_; refine lex_S rfl (by kernel_rfl) rfl rfl ?_) | refine aops_nil ?_ | refine lex_done _ rfl (by kernel_rfl) ?_ | refine aw_ct rfl ?_ | refine aw_cf rfl ?_ | refine aw_block ?_ | with_reducible refine then_n ?_ | refine aw_skip ?_ | refine aw_exit ?_ | (with_reducible first | refine then_x ?_ | refine then_r ?_ | refine block_x ?_ | refine block_n ?_ | refine block_r ?_) | refine aw_ret ?_
                  refine ⟨⟨(j + 1, u), hjt, by rw [hm, hu]; simp⟩, by simp only; omega, ?_⟩
                  exact sub0 [0, 1] rfl rfl (by decide) (.cons rfl rfl rfl rfl (les_refl (flat_noH _ _)) (.cons rfl rfl rfl rfl (les_refl' rfl) .nil)) (by repeat' first | exact les_nil | refine les_cons ?_ ?_ | exact le_any | exact le_refl rfl | exact le_ptr rfl | exact le_sl rfl rfl | exact le_sl rfl (by simp) | exact le_i (by omega) (by omega))
              · have hge : j = b.length := by
                  have : ¬ ((j : Int) < b.length) := by simpa using h
                  omega
                subst hge
                rw [List.take_length] at hu
                subst hu
                repeat' first | refine aw_seq ?_ | refine aw_region ?_ | refine aw_lex [] ?_ | (refine isA ?_; refine do_F rfl ?_) | (refine isL ?_; refine lex_F rfl (by kernel_rfl) rfl rfl ?_) | (refine isLg rfl ?_; refine lex_S rfl (by kernel_rfl) rfl rfl ?_) | exact ⟨rfl, sub0 [0, 1] rfl rfl (by decide) (.cons rfl rfl rfl rfl (les_refl (flat_noH _ _)) (.cons rfl rfl rfl rfl (les_refl' rfl) .nil)) (by repeat' first | exact les_nil | refine les_cons ?_ ?_ | exact le_any | exact le_refl rfl | exact le_ptr rfl | exact le_sl rfl rfl | exact le_sl rfl (by simp) | exact le_i (by omega) (by omega))⟩ | refine aops_nil ?_ | refine lex_done _ rfl (by kernel_rfl) ?_ | refine aw_ct rfl ?_ | refine aw_cf rfl ?_ | refine aw_block ?_ | with_reducible refine then_n ?_ | refine aw_skip ?_ | refine aw_exit ?_ | (with_reducible first | refine then_x ?_ | refine then_r ?_ | refine block_x ?_ | refine block_n ?_ | refine block_r ?_) | refine aw_ret ?_
          · rw [q, cond_false, List.append_nil]
            repeat' first | refine aw_seq ?_ | refine aw_region ?_ | refine aw_lex [] ?_ | (refine isA ?_; refine do_F rfl ?_) | (refine isL ?_; refine lex_F rfl (by kernel_rfl) rfl rfl ?_) | (refine isLg rfl ?_; refine lex_S rfl (by kernel_rfl) rfl rfl ?_) | exact ⟨rfl, sub0 [0, 1] rfl rfl (by decide) (.cons rfl rfl rfl rfl (les_refl (flat_noH _ _)) (.cons rfl rfl rfl rfl (les_refl' rfl) .nil)) (by repeat' first | exact les_nil | refine les_cons ?_ ?_ | exact le_any | exact le_refl rfl | exact le_ptr rfl | exact le_sl rfl rfl | exact le_sl rfl (by simp) | exact le_i (by omega) (by omega))⟩ | refine aops_nil ?_ | refine lex_done _ rfl (by kernel_rfl) ?_ | refine aw_ct rfl ?_ | refine aw_cf rfl ?_ | refine aw_block ?_ | with_reducible refine then_n ?_ | refine aw_skip ?_ | refine aw_exit ?_ | (with_reducible first | refine then_x ?_ | refine then_r ?_ | refine block_x ?_ | refine block_n ?_ | refine block_r ?_) | refine aw_ret ?_
      · refine hold ?_
        have hvl : (out ++ cond (c6 k (cntV l b)) (matV l b) []).length ≤ 1004000 := by
          have := mat_len l b
          cases c6 k (cntV l b) <;> simp <;> omega
        generalize out ++ cond (c6 k (cntV l b)) (matV l b) [] = v at hs hvl
        refine aw_joinR 13 ⟨((I k) :: (Go.Proofs.Ytkcicbigpbdjpaa.Ab.rwL a) :: (Go.Proofs.Ytkcicbigpbdjpaa.Ab.rwL b) :: .any :: .any :: .any :: .any :: (.sl 0 0 v.length) :: .any :: (.ptr 1 0) :: (I (cntV l b)) :: .any :: .any :: .any :: (Go.Proofs.Ytkcicbigpbdjpaa.Ab.rwL a) :: (I a.length) :: (I i) :: .any :: .any :: .any :: .any :: .any :: .any :: .any :: .any :: .any :: .any :: .any :: .any :: .any :: .any :: .any :: .any :: .any :: .any :: .any :: .any :: .any :: .any :: .any :: .any :: .any :: .any :: .any :: .any :: .any :: .any :: .any :: .any :: .any :: .any :: .any :: .any :: .any :: .any :: .any :: .any :: .any :: .any :: .any :: .any :: .any :: .any :: .any :: .any :: .any :: .any :: .any :: (B (c13 k (cntV l b))) :: .any :: .any :: .any :: .any :: .any :: .any :: .any :: []), [rwR v, bxR l], 0⟩ ?_ ?_
        · repeat' first | refine aw_seq ?_ | refine aw_region ?_ | refine aw_lex [] ?_ | (refine isA ?_; refine do_F rfl ?_) | (refine isL ?_; refine lex_F rfl (by kernel_rfl) rfl rfl ?_) | (refine isLg rfl ?_; refine lex_S rfl (by kernel_rfl) rfl rfl ?_) | exact ⟨rfl, sub0 [0, 1] rfl rfl (by decide) (.cons rfl rfl rfl rfl (les_refl (flat_noH _ _)) (.cons rfl rfl rfl rfl (les_refl' rfl) .nil)) (by repeat' first | exact les_nil | refine les_cons ?_ ?_ | exact le_any | exact le_refl rfl | exact le_ptr rfl | exact le_sl rfl rfl | exact le_sl rfl (by simp) | exact le_i (by omega) (by omega) | exact le_k (congrArg _ (by first | ((try simp only [Bool.not_eq_true', Bool.not_eq_false'] at *); simp only [c13, *, Bool.true_and, Bool.false_and, Bool.and_true, Bool.and_false, Bool.true_or, Bool.false_or, Bool.or_true, Bool.or_false, Bool.not_true, Bool.not_false, cond_true, cond_false]; done) | (simp_all [c13]; done) | (simp_all [c13]; intros; omega))))⟩ | refine aops_nil ?_ | refine lex_done _ rfl (by kernel_rfl) ?_ | refine aw_ct rfl ?_ | refine aw_cf rfl ?_ | refine aw_block ?_ | with_reducible refine then_n ?_ | refine aw_skip ?_ | refine aw_exit ?_ | (with_reducible first | refine then_x ?_ | refine then_r ?_ | refine block_x ?_ | refine block_n ?_ | refine block_r ?_) | refine aw_ret ?_ | (refine isAg ?_; refine do_br rfl rfl (fun hbr => ?_) (fun hbr => ?_) <;> (fail_if_success (with_reducible (have hx : true = true := hbr))) <;> (fail_if_success (with_reducible (have hx : false = false := hbr)))) | (refine isLg rfl ?_; refine lex_br rfl rfl rfl rfl (fun hbr => ?_) (fun hbr => ?_) <;> (fail_if_success (with_reducible (have hx : true = true := hbr))) <;> (fail_if_success (with_reducible (have hx : false = false := hbr))))
        · rcases Bool.eq_false_or_eq_true (c13 k (cntV l b)) with q | q
          · rw [q] at hs ⊢
            repeat' first | refine aw_seq ?_ | refine aw_region ?_ | refine aw_lex [] ?_ | (refine isA ?_; refine do_F rfl ?_) | (refine isL ?_; refine lex_F rfl (by kernel_rfl) rfl rfl ?_) | (refine isLg rfl ?_; refine lex_S rfl (by kernel_rfl) rfl rfl ?_) | (refine isAp ?_; refine do_R rfl (ap_l (t := rwT) (xs := v) (ys := [aloneV l]) rfl rfl rfl rfl (src_of rfl rfl rfl rfl) (by simp; omega) rfl) rfl ?_) | (refine isLp rfl ?_; refine lex_R rfl (by kernel_rfl) rfl (ap_l (t := rwT) (xs := v) (ys := [aloneV l]) rfl rfl rfl rfl (src_of rfl rfl rfl rfl) (by simp; omega) rfl) rfl ?_) | refine aops_nil ?_ | refine lex_done _ rfl (by kernel_rfl) ?_ | refine aw_ct rfl ?_ | refine aw_cf rfl ?_ | refine aw_block ?_ | with_reducible refine then_n ?_ | refine aw_skip ?_ | refine aw_exit ?_ | (with_reducible first | refine then_x ?_ | refine then_r ?_ | refine block_x ?_ | refine block_n ?_ | refine block_r ?_) | refine aw_ret ?_
            refine ⟨⟨(i + 1, v ++ [aloneV l]), hlt, hs.symm⟩, by simp only; omega, ?_⟩
            exact sub0 [3] rfl rfl (by decide) (.cons rfl rfl rfl rfl (les_refl (flat_noH _ _)) .nil) (by repeat' first | exact les_nil | refine les_cons ?_ ?_ | exact le_any | exact le_refl rfl | exact le_ptr rfl | exact le_sl rfl rfl | exact le_sl rfl (by simp) | exact le_i (by omega) (by omega))
          · rw [q] at hs ⊢
            repeat' first | refine aw_seq ?_ | refine aw_region ?_ | refine aw_lex [] ?_ | (refine isA ?_; refine do_F rfl ?_) | (refine isL ?_; refine lex_F rfl (by kernel_rfl) rfl rfl ?_) | (refine isLg rfl ?_; refine lex_S rfl (by kernel_rfl) rfl rfl ?_) | refine aops_nil ?_ | refine lex_done _ rfl (by kernel_rfl) ?_ | refine aw_ct rfl ?_ | refine aw_cf rfl ?_ | refine aw_block ?_ | with_reducible refine then_n ?_ | refine aw_skip ?_ | refine aw_exit ?_ | (with_reducible first | refine then_x ?_ | refine then_r ?_ | refine block_x ?_ | refine block_n ?_ | refine block_r ?_) | refine aw_ret ?_
            refine ⟨⟨(i + 1, v), hlt, by rw [hs]; simp⟩, by simp only; omega, ?_⟩
            exact sub0 [0] rfl rfl (by decide) (.cons rfl rfl rfl rfl (les_refl (flat_noH _ _)) .nil) (by repeat' first | exact les_nil | refine les_cons ?_ ?_ | exact le_any | exact le_refl rfl | exact le_ptr rfl | exact le_sl rfl rfl | exact le_sl rfl (by simp) | exact le_i (by omega) (by omega))
    · have hge : i = a.length := by
        have : ¬ ((i : Int) < a.length) := by simpa using h
        omega
      subst hge
      rw [List.take_length] at ho
      subst ho
      repeat' first | refine aw_seq ?_ | refine aw_region ?_ | refine aw_lex [] ?_ | (refine isA ?_; refine do_F rfl ?_) | (refine isL ?_; refine lex_F rfl (by kernel_rfl) rfl rfl ?_) | (refine isLg rfl ?_; refine lex_S rfl (by kernel_rfl) rfl rfl ?_) | exact finL (ty := rwT) rfl rfl rfl rfl rfl rfl (flat_rw _) | refine aops_nil ?_ | refine lex_done _ rfl (by kernel_rfl) ?_ | refine aw_ct rfl ?_ | refine aw_cf rfl ?_ | refine aw_block ?_ | with_reducible refine then_n ?_ | refine aw_skip ?_ | refine aw_exit ?_ | (with_reducible first | refine then_x ?_ | refine then_r ?_ | refine block_x ?_ | refine block_n ?_ | refine block_r ?_) | refine aw_ret ?_

end Go.Proofs.Ytkcicbigpbdjpaa.Ab.Pr

/- DrwA -/
namespace Go.Proofs.Ytkcicbigpbdjpaa.Ab
open Go.RowKit

def u8T : Ty Int := ⟨1, fun n => [.k (.int .u8 n)], fun _ => rfl, by decide, fun r c hc => by
  simp only [List.mem_cons, List.not_mem_nil, or_false] at hc
  subst hc
  exact ⟨rfl, rfl⟩⟩

structure Cur where
  code : List Int
  pos : Nat
  seed : Int

abbrev curR (c : Cur) : Reg := ⟨154, 3, [lstOf u8T c.code, I c.pos, I c.seed], 0⟩

def seedN (s : Int) : Int := IntKind.i64.wrap (IntKind.i64.wrap (s * 6364136223846793005) + 1442695040888963407)
def val0 (s : Int) : Int := bAnd .i64 (bXor .i64 (bShr .i64 (seedN s) 33) (bShr .i64 (seedN s) 45)) 255
def byteV (c : Cur) : Int := match c.code[c.pos]? with
  | some b => bAnd .i64 (IntKind.i64.wrap (val0 c.seed + IntKind.i64.wrap b)) 255
  | none => val0 c.seed
def byteC (c : Cur) : Cur := ⟨c.code, match c.code[c.pos]? with | some _ => c.pos + 1 | none => c.pos, seedN c.seed⟩

theorem byteV_range (c : Cur) : 0 ≤ byteV c ∧ byteV c ≤ 255 := by
  unfold byteV
  split
  · exact and_byte _
  · exact and_byte _

theorem c_byte (c : Cur) (hl : c.code.length ≤ 1000000000) : Meets Go.Proofs.Try.prog 163 [.ptr 0 0] [curR c] (I (byteV c)) [curR (byteC c)] true := by
  refine meets_of [2] Go.Proofs.Try.func163 rfl rfl ?_
  simp only [Go.Proofs.Try.ntmps163, List.length_cons, List.length_nil, Nat.reduceAdd, Nat.reduceSub, List.replicate_succ, List.replicate_zero, List.cons_append, List.nil_append]
  repeat' first | refine aw_seq ?_ | refine aw_region ?_ | refine aw_lex [] ?_ | (refine isA ?_; refine do_F rfl ?_) | (refine isL ?_; refine lex_F rfl (by kernel_rfl) rfl rfl ?_) | (refine isLg rfl ?_; refine lex_S rfl (by kernel_rfl) rfl rfl ?_) | (refine isL ?_; refine lex_R rfl (by kernel_rfl) rfl (step_shr (n := 33) rfl rfl rfl) rfl ?_) | (refine isL ?_; refine lex_R rfl (by kernel_rfl) rfl (step_shr (n := 45) rfl rfl rfl) rfl ?_) | (refine isL ?_; refine lex_R rfl (by kernel_rfl) rfl (step_xor rfl rfl rfl) rfl ?_) | (refine isL ?_; refine lex_R rfl (by kernel_rfl) rfl (step_and rfl rfl rfl) rfl ?_) | refine aops_nil ?_ | refine lex_done _ rfl (by kernel_rfl) ?_ | refine aw_ct rfl ?_ | refine aw_cf rfl ?_ | refine aw_block ?_ | with_reducible refine then_n ?_ | refine aw_skip ?_ | refine aw_exit ?_ | (with_reducible first | refine then_x ?_ | refine then_r ?_ | refine block_x ?_ | refine block_n ?_ | refine block_r ?_) | refine aw_ret ?_
  refine aw_cond rfl (fun h => ?_) (fun h => ?_)
  · have hlt : c.pos < c.code.length := by have := of_decide_eq_true h; omega
    obtain ⟨z, hz⟩ : ∃ z, c.code[c.pos]? = some z := ⟨_, List.getElem?_eq_getElem hlt⟩
    have e1 : byteV c = bAnd .i64 (IntKind.i64.wrap (val0 c.seed + IntKind.i64.wrap z)) 255 := by rw [byteV, hz]
    have e2 : byteC c = ⟨c.code, c.pos + 1, seedN c.seed⟩ := by rw [byteC, hz]
    repeat' first | refine aw_seq ?_ | refine aw_region ?_ | refine aw_lex [] ?_ | (refine isA ?_; refine do_F rfl ?_) | (refine isL ?_; refine lex_F rfl (by kernel_rfl) rfl rfl ?_) | (refine isLg rfl ?_; refine lex_S rfl (by kernel_rfl) rfl rfl ?_) | (refine isAi ?_; refine do_R rfl (ia_l (t := u8T) (z := z) rfl rfl rfl rfl (Int.natCast_nonneg c.pos) hz) rfl ?_) | (refine isLi rfl ?_; refine lex_R rfl (by kernel_rfl) rfl (ia_l (t := u8T) (z := z) rfl rfl rfl rfl (Int.natCast_nonneg c.pos) hz) rfl ?_) | (refine isL ?_; refine lex_R rfl (by kernel_rfl) rfl (step_and rfl rfl rfl) rfl ?_) | exact (by rw [e1, e2]; exact finM 1 [0] fix1 (by decide) rfl (le_refl rfl) (.cons rfl rfl rfl rfl (les_cons (le_refl rfl) (les_cons (le_i hlt (by omega)) (les_cons (le_refl rfl) les_nil))) .nil)) | refine aops_nil ?_ | refine lex_done _ rfl (by kernel_rfl) ?_ | refine aw_ct rfl ?_ | refine aw_cf rfl ?_ | refine aw_block ?_ | with_reducible refine then_n ?_ | refine aw_skip ?_ | refine aw_exit ?_ | (with_reducible first | refine then_x ?_ | refine then_r ?_ | refine block_x ?_ | refine block_n ?_ | refine block_r ?_) | refine aw_ret ?_
  · have hge : c.code.length ≤ c.pos := by have := of_decide_eq_false h; omega
    have hz : c.code[c.pos]? = none := List.getElem?_eq_none hge
    have e1 : byteV c = val0 c.seed := by rw [byteV, hz]
    have e2 : byteC c = ⟨c.code, c.pos, seedN c.seed⟩ := by rw [byteC, hz]
    repeat' first | refine aw_seq ?_ | refine aw_region ?_ | refine aw_lex [] ?_ | (refine isA ?_; refine do_F rfl ?_) | (refine isL ?_; refine lex_F rfl (by kernel_rfl) rfl rfl ?_) | (refine isLg rfl ?_; refine lex_S rfl (by kernel_rfl) rfl rfl ?_) | exact (by rw [e1, e2]; exact finM 1 [0] fix1 (by decide) rfl (le_refl rfl) (.cons rfl rfl rfl rfl (by repeat' first | exact les_nil | refine les_cons ?_ ?_ | exact le_any | exact le_refl rfl | exact le_sl rfl rfl | exact le_ptr rfl) .nil)) | refine aops_nil ?_ | refine lex_done _ rfl (by kernel_rfl) ?_ | refine aw_ct rfl ?_ | refine aw_cf rfl ?_ | refine aw_block ?_ | with_reducible refine then_n ?_ | refine aw_skip ?_ | refine aw_exit ?_ | (with_reducible first | refine then_x ?_ | refine then_r ?_ | refine block_x ?_ | refine block_n ?_ | refine block_r ?_) | refine aw_ret ?_
end Go.Proofs.Ytkcicbigpbdjpaa.Ab

/- DrwB -/
namespace Go.Proofs.Ytkcicbigpbdjpaa.Ab
open Go.RowKit

theorem byteC_code (c : Cur) : (byteC c).code = c.code := rfl
theorem curR_noH (c : Cur) : NoH (curR c).cells := noHs_mem rfl

def four (a b c d : Int) : Int := IntKind.i64.wrap (IntKind.i64.wrap (IntKind.i64.wrap (IntKind.i64.wrap (a * 16777216) + IntKind.i64.wrap (b * 65536)) + IntKind.i64.wrap (c * 256)) + d)
theorem four_pos {a b c d : Int} (ha : 0 ≤ a ∧ a ≤ 255) (hb : 0 ≤ b ∧ b ≤ 255) (hc : 0 ≤ c ∧ c ≤ 255) (hd : 0 ≤ d ∧ d ≤ 255) : 0 ≤ four a b c d := by
  have e1 : IntKind.i64.wrap (a * 16777216) = a * 16777216 := by rw [IntKind.wrap_i64]; omega
  have e2 : IntKind.i64.wrap (b * 65536) = b * 65536 := by rw [IntKind.wrap_i64]; omega
  have e3 : IntKind.i64.wrap (c * 256) = c * 256 := by rw [IntKind.wrap_i64]; omega
  have e4 : IntKind.i64.wrap (a * 16777216 + b * 65536) = a * 16777216 + b * 65536 := by rw [IntKind.wrap_i64]; omega
  have e5 : IntKind.i64.wrap (a * 16777216 + b * 65536 + c * 256) = a * 16777216 + b * 65536 + c * 256 := by rw [IntKind.wrap_i64]; omega
  have e6 : IntKind.i64.wrap (a * 16777216 + b * 65536 + c * 256 + d) = a * 16777216 + b * 65536 + c * 256 + d := by rw [IntKind.wrap_i64]; omega
  rw [four, e1, e2, e4, e3, e5, e6]
  omega

def beV (n : Int) (c : Cur) : Int := cond (decide (n ≤ 0)) 0 (cond (decide (n ≤ 256)) ((byteV c).tmod n) ((four (byteV c) (byteV (byteC c)) (byteV (byteC (byteC c))) (byteV (byteC (byteC (byteC c))))).tmod n))
def beC (n : Int) (c : Cur) : Cur := cond (decide (n ≤ 0)) c (cond (decide (n ≤ 256)) (byteC c) (byteC (byteC (byteC (byteC c)))))
theorem beC_code (n : Int) (c : Cur) : (beC n c).code = c.code := by
  unfold beC
  cases decide (n ≤ 0) <;> cases decide (n ≤ 256) <;> rfl
theorem beV_range {n : Int} (h : 0 < n) (c : Cur) : 0 ≤ beV n c ∧ beV n c < n := by
  have h0 : decide (n ≤ 0) = false := decide_eq_false (by omega)
  unfold beV
  rw [h0, cond_false]
  cases decide (n ≤ 256) with
  | true => exact ⟨Int.tmod_nonneg _ (byteV_range c).1, Int.tmod_lt_of_pos _ h⟩
  | false => exact ⟨Int.tmod_nonneg _ (four_pos (byteV_range _) (byteV_range _) (byteV_range _) (byteV_range _)), Int.tmod_lt_of_pos _ h⟩

theorem c_lbel (n : Int) (c : Cur) (hl : c.code.length ≤ 1000000000) : Meets Go.Proofs.Try.prog 143 [.ptr 0 0, I n] [curR c] (I (beV n c)) [curR (beC n c)] true := by
  refine meets_of [4] Go.Proofs.Try.func143 rfl rfl ?_
  simp only [Go.Proofs.Try.ntmps143, List.length_cons, List.length_nil, Nat.reduceAdd, Nat.reduceSub, List.replicate_succ, List.replicate_zero, List.cons_append, List.nil_append]
  repeat' first | refine aw_seq ?_ | refine aw_region ?_ | refine aw_lex [] ?_ | (refine isA ?_; refine do_F rfl ?_) | (refine isL ?_; refine lex_F rfl (by kernel_rfl) rfl rfl ?_) | (refine isLg rfl ?_; refine lex_S rfl (by kernel_rfl) rfl rfl ?_) | refine aops_nil ?_ | refine lex_done _ rfl (by kernel_rfl) ?_ | refine aw_ct rfl ?_ | refine aw_cf rfl ?_ | refine aw_block ?_ | with_reducible refine then_n ?_ | refine aw_skip ?_ | refine aw_exit ?_ | (with_reducible first | refine then_x ?_ | refine then_r ?_ | refine block_x ?_ | refine block_n ?_ | refine block_r ?_) | refine aw_ret ?_
  refine aw_cond rfl (fun h => ?_) (fun h => ?_)
  · repeat' first | refine aw_seq ?_ | refine aw_region ?_ | refine aw_lex [] ?_ | (refine isA ?_; refine do_F rfl ?_) | (refine isL ?_; refine lex_F rfl (by kernel_rfl) rfl rfl ?_) | (refine isLg rfl ?_; refine lex_S rfl (by kernel_rfl) rfl rfl ?_) | exact (by rw [beV, beC, h]; exact finM 1 [0] fix1 (by decide) rfl (le_refl rfl) (.cons rfl rfl rfl rfl (les_refl (curR_noH c)) .nil)) | refine aops_nil ?_ | refine lex_done _ rfl (by kernel_rfl) ?_ | refine aw_ct rfl ?_ | refine aw_cf rfl ?_ | refine aw_block ?_ | with_reducible refine then_n ?_ | refine aw_skip ?_ | refine aw_exit ?_ | (with_reducible first | refine then_x ?_ | refine then_r ?_ | refine block_x ?_ | refine block_n ?_ | refine block_r ?_) | refine aw_ret ?_
  · have hn : n ≠ 0 := by have := of_decide_eq_false h; omega
    repeat' first | refine aw_seq ?_ | refine aw_region ?_ | refine aw_lex [] ?_ | (refine isA ?_; refine do_F rfl ?_) | (refine isL ?_; refine lex_F rfl (by kernel_rfl) rfl rfl ?_) | (refine isLg rfl ?_; refine lex_S rfl (by kernel_rfl) rfl rfl ?_) | refine aops_nil ?_ | refine lex_done _ rfl (by kernel_rfl) ?_ | refine aw_ct rfl ?_ | refine aw_cf rfl ?_ | refine aw_block ?_ | with_reducible refine then_n ?_ | refine aw_skip ?_ | refine aw_exit ?_ | (with_reducible first | refine then_x ?_ | refine then_r ?_ | refine block_x ?_ | refine block_n ?_ | refine block_r ?_) | refine aw_ret ?_
    refine aw_cond rfl (fun h' => ?_) (fun h' => ?_)
    · repeat' first | refine aw_seq ?_ | refine aw_region ?_ | refine aw_lex [] ?_ | (refine isA ?_; refine do_F rfl ?_) | (refine isL ?_; refine lex_F rfl (by kernel_rfl) rfl rfl ?_) | (refine isLg rfl ?_; refine lex_S rfl (by kernel_rfl) rfl rfl ?_) | (refine isAc 163 ?_; refine do_R rfl (step_callMs (K := []) (Rs' := [_]) [0] (by decide) rfl (c_byte c hl) (.cons rfl rfl rfl (curR_noH _) (curR_noH _) .nil) (.cons (.ptr rfl) .nil) (fun q hq => by cases hq) rfl) rfl ?_) | (refine isLc 163 rfl ?_; refine lex_R rfl (by kernel_rfl) rfl (step_callMs (K := []) (Rs' := [_]) [0] (by decide) rfl (c_byte c hl) (.cons rfl rfl rfl (curR_noH _) (curR_noH _) .nil) (.cons (.ptr rfl) .nil) (fun q hq => by cases hq) rfl) rfl ?_) | (refine isA ?_; refine do_R rfl (step_rem rfl rfl rfl hn) rfl ?_) | exact (by rw [beV, beC, h, h']; exact finM 1 [0] fix1 (by decide) rfl (le_refl rfl) (.cons rfl rfl rfl rfl (les_refl (curR_noH (byteC c))) .nil)) | refine aops_nil ?_ | refine lex_done _ rfl (by kernel_rfl) ?_ | refine aw_ct rfl ?_ | refine aw_cf rfl ?_ | refine aw_block ?_ | with_reducible refine then_n ?_ | refine aw_skip ?_ | refine aw_exit ?_ | (with_reducible first | refine then_x ?_ | refine then_r ?_ | refine block_x ?_ | refine block_n ?_ | refine block_r ?_) | refine aw_ret ?_
    · repeat' first | refine aw_seq ?_ | refine aw_region ?_ | refine aw_lex [] ?_ | (refine isA ?_; refine do_F rfl ?_) | (refine isL ?_; refine lex_F rfl (by kernel_rfl) rfl rfl ?_) | (refine isLg rfl ?_; refine lex_S rfl (by kernel_rfl) rfl rfl ?_) | (refine isAc 163 (x := #[.tmp 17]) ?_; refine do_R rfl (step_callMs (K := []) (Rs' := [_]) [0] (by decide) rfl (c_byte c hl) (.cons rfl rfl rfl (curR_noH _) (curR_noH _) .nil) (.cons (.ptr rfl) .nil) (fun q hq => by cases hq) rfl) rfl ?_) | (refine isAc 163 (x := #[.tmp 19]) ?_; refine do_R rfl (step_callMs (K := []) (Rs' := [_]) [0] (by decide) rfl (c_byte (byteC c) hl) (.cons rfl rfl rfl (curR_noH _) (curR_noH _) .nil) (.cons (.ptr rfl) .nil) (fun q hq => by cases hq) rfl) rfl ?_) | (refine isAc 163 (x := #[.tmp 21]) ?_; refine do_R rfl (step_callMs (K := []) (Rs' := [_]) [0] (by decide) rfl (c_byte (byteC (byteC c)) hl) (.cons rfl rfl rfl (curR_noH _) (curR_noH _) .nil) (.cons (.ptr rfl) .nil) (fun q hq => by cases hq) rfl) rfl ?_) | (refine isAc 163 (x := #[.tmp 23]) ?_; refine do_R rfl (step_callMs (K := []) (Rs' := [_]) [0] (by decide) rfl (c_byte (byteC (byteC (byteC c))) hl) (.cons rfl rfl rfl (curR_noH _) (curR_noH _) .nil) (.cons (.ptr rfl) .nil) (fun q hq => by cases hq) rfl) rfl ?_) | (refine isA ?_; refine do_R rfl (step_rem rfl rfl rfl hn) rfl ?_) | exact (by rw [beV, beC, h, h']; exact finM 1 [0] fix1 (by decide) rfl (le_refl rfl) (.cons rfl rfl rfl rfl (les_refl (curR_noH (byteC (byteC (byteC (byteC c)))))) .nil)) | refine aops_nil ?_ | refine lex_done _ rfl (by kernel_rfl) ?_ | refine aw_ct rfl ?_ | refine aw_cf rfl ?_ | refine aw_block ?_ | with_reducible refine then_n ?_ | refine aw_skip ?_ | refine aw_exit ?_ | (with_reducible first | refine then_x ?_ | refine then_r ?_ | refine block_x ?_ | refine block_n ?_ | refine block_r ?_) | refine aw_ret ?_

theorem c_once (n : Int) (c : Cur) (hl : c.code.length ≤ 1000000000) : Meets Go.Proofs.Try.prog 128 [.ptr 0 0, I n] [curR c] (B (decide (beV n c = 0))) [curR (beC n c)] true := by
  refine meets_of [4] Go.Proofs.Try.func128 rfl rfl ?_
  simp only [Go.Proofs.Try.ntmps128, List.length_cons, List.length_nil, Nat.reduceAdd, Nat.reduceSub, List.replicate_succ, List.replicate_zero, List.cons_append, List.nil_append]
  repeat' first | refine aw_seq ?_ | refine aw_region ?_ | refine aw_lex [] ?_ | (refine isA ?_; refine do_F rfl ?_) | (refine isL ?_; refine lex_F rfl (by kernel_rfl) rfl rfl ?_) | (refine isLg rfl ?_; refine lex_S rfl (by kernel_rfl) rfl rfl ?_) | (refine isAc 143 ?_; refine do_R rfl (step_callMs (K := []) (Rs' := [_]) [0] (by decide) rfl (c_lbel n c hl) (.cons rfl rfl rfl (curR_noH _) (curR_noH _) .nil) (.cons (.ptr rfl) (.cons (.same rfl) .nil)) (fun q hq => by cases hq) rfl) rfl ?_) | (refine isLc 143 rfl ?_; refine lex_R rfl (by kernel_rfl) rfl (step_callMs (K := []) (Rs' := [_]) [0] (by decide) rfl (c_lbel n c hl) (.cons rfl rfl rfl (curR_noH _) (curR_noH _) .nil) (.cons (.ptr rfl) (.cons (.same rfl) .nil)) (fun q hq => by cases hq) rfl) rfl ?_) | exact finM 1 [0] fix1 (by decide) rfl (le_refl rfl) (.cons rfl rfl rfl rfl (les_refl (curR_noH _)) .nil) | refine aops_nil ?_ | refine lex_done _ rfl (by kernel_rfl) ?_ | refine aw_ct rfl ?_ | refine aw_cf rfl ?_ | refine aw_block ?_ | with_reducible refine then_n ?_ | refine aw_skip ?_ | refine aw_exit ?_ | (with_reducible first | refine then_x ?_ | refine then_r ?_ | refine block_x ?_ | refine block_n ?_ | refine block_r ?_) | refine aw_ret ?_

theorem ld_at {P : Program} {o : Oper} {ρ : Operand → V} {H : List Reg} {t i : Nat} {x : Operand} {cs : List V} {v : V} [ht : Sc P t] (ho : o.op = .load t x) (hx : ρ x = .pref (cs.drop i)) (hz : cs[i]? = some v) : Step P o ρ H v H := by
  have hlt := (List.getElem?_eq_some_iff.1 hz).1
  rw [List.drop_eq_getElem_cons hlt] at hx
  have hv : cs[i] = v := by rw [List.getElem?_eq_getElem hlt] at hz; exact Option.some.inj hz
  rw [hv] at hx
  exact step_load_pref ho hx

theorem c_pick (xs : List V) (n : Nat) (z : Int) (c : Cur) (hl : c.code.length ≤ 1000000000) (h0 : 0 < n) (hz : xs[(beV n c).toNat]? = some (I z)) : Meets Go.Proofs.Try.prog 131 [.ptr 0 0, .lst n xs] [curR c] (I z) [curR (beC n c)] true := by
  obtain ⟨r0, r1⟩ := beV_range (n := n) (by omega) c
  refine meets_of [4] Go.Proofs.Try.func131 rfl rfl ?_
  simp only [Go.Proofs.Try.ntmps131, List.length_cons, List.length_nil, Nat.reduceAdd, Nat.reduceSub, List.replicate_succ, List.replicate_zero, List.cons_append, List.nil_append]
  repeat' first | refine aw_seq ?_ | refine aw_region ?_ | refine aw_lex [] ?_ | (refine isA ?_; refine do_F rfl ?_) | (refine isL ?_; refine lex_F rfl (by kernel_rfl) rfl rfl ?_) | (refine isLg rfl ?_; refine lex_S rfl (by kernel_rfl) rfl rfl ?_) | (refine isAc 143 ?_; refine do_R rfl (step_callMs (K := []) (Rs' := [_]) [0] (by decide) rfl (c_lbel n c hl) (.cons rfl rfl rfl (curR_noH _) (curR_noH _) .nil) (.cons (.ptr rfl) (.cons (.same rfl) .nil)) (fun q hq => by cases hq) rfl) rfl ?_) | (refine isLc 143 rfl ?_; refine lex_R rfl (by kernel_rfl) rfl (step_callMs (K := []) (Rs' := [_]) [0] (by decide) rfl (c_lbel n c hl) (.cons rfl rfl rfl (curR_noH _) (curR_noH _) .nil) (.cons (.ptr rfl) (.cons (.same rfl) .nil)) (fun q hq => by cases hq) rfl) rfl ?_) | (refine isAi ?_; refine do_R rfl (step_ia_lst rfl rfl rfl r0 r1) rfl ?_) | (refine isLi rfl ?_; refine lex_R rfl (by kernel_rfl) rfl (step_ia_lst rfl rfl rfl r0 r1) rfl ?_) | (refine isAl ?_; refine do_R rfl (ld_at rfl rfl (by rw [Nat.mul_one]; exact hz)) rfl ?_) | exact finM 1 [0] fix1 (by decide) rfl (le_refl rfl) (.cons rfl rfl rfl rfl (les_refl (curR_noH _)) .nil) | refine aops_nil ?_ | refine lex_done _ rfl (by kernel_rfl) ?_ | refine aw_ct rfl ?_ | refine aw_cf rfl ?_ | refine aw_block ?_ | with_reducible refine then_n ?_ | refine aw_skip ?_ | refine aw_exit ?_ | (with_reducible first | refine then_x ?_ | refine then_r ?_ | refine block_x ?_ | refine block_n ?_ | refine block_r ?_) | refine aw_ret ?_

/-! ### A new cursor -/
def newS (xs : List Int) : Nat → Int
  | 0 => IntKind.i64.wrap (10101 + xs.length)
  | i + 1 => match xs[i]? with
    | some b => bAnd .i64 (IntKind.i64.wrap (IntKind.i64.wrap (IntKind.i64.wrap (newS xs i * 131) + IntKind.i64.wrap b) + 7)) 1073741823
    | none => newS xs i
def newC (xs : List Int) : Cur := ⟨xs, 0, newS xs (min xs.length 4000)⟩

theorem c_new (xs : List Int) (hl : xs.length ≤ 1000000000) : Meets Go.Proofs.Try.prog 104 [lstOf u8T xs] [] (.ptr 0 0) [curR (newC xs)] true := by
  refine meets_of [2] Go.Proofs.Try.func104 rfl rfl ?_
  simp only [Go.Proofs.Try.ntmps104, List.length_cons, List.length_nil, Nat.reduceAdd, Nat.reduceSub, List.replicate_succ, List.replicate_zero, List.cons_append, List.nil_append]
  repeat' first | refine aw_seq ?_ | refine aw_region ?_ | refine aw_lex [] ?_ | (refine isA ?_; refine do_F rfl ?_) | (refine isL ?_; refine lex_F rfl (by kernel_rfl) rfl rfl ?_) | (refine isLg rfl ?_; refine lex_S rfl (by kernel_rfl) rfl rfl ?_) | refine aops_nil ?_ | refine lex_done _ rfl (by kernel_rfl) ?_ | refine aw_ct rfl ?_ | refine aw_cf rfl ?_ | refine aw_block ?_ | with_reducible refine then_n ?_ | refine aw_skip ?_ | refine aw_exit ?_ | (with_reducible first | refine then_x ?_ | refine then_r ?_ | refine block_x ?_ | refine block_n ?_ | refine block_r ?_) | refine aw_ret ?_
  refine aw_loop (α := { i : Nat // i ≤ min xs.length 4000 }) (fun i => ⟨[lstOf u8T xs, .any, .any, I (newS xs i.1), I i.1, .any, .any, .any, .any, .any, .any, .any, .any, .any, .any, .any, .any, .any, .any, .any, .any, .any, .any, .any, .any, .any, .any, .any, .any, .any, .any, .any], [], 0⟩) (fun i => xs.length - i.1) ⟨0, Nat.zero_le _⟩ ?_ ?_
  · exact sub0 [] rfl rfl (by decide) .nil (by repeat' first | exact les_nil | refine les_cons ?_ ?_ | exact le_any | exact le_refl rfl | exact le_sl rfl rfl | exact le_ptr rfl)
  · rintro ⟨i, hi⟩
    have hdone : i = min xs.length 4000 → newC xs = ⟨xs, 0, newS xs i⟩ := fun e => by rw [newC, e]
    repeat' first | refine aw_seq ?_ | refine aw_region ?_ | refine aw_lex [] ?_ | (refine isA ?_; refine do_F rfl ?_) | (refine isL ?_; refine lex_F rfl (by kernel_rfl) rfl rfl ?_) | (refine isLg rfl ?_; refine lex_S rfl (by kernel_rfl) rfl rfl ?_) | refine aops_nil ?_ | refine lex_done _ rfl (by kernel_rfl) ?_ | refine aw_ct rfl ?_ | refine aw_cf rfl ?_ | refine aw_block ?_ | with_reducible refine then_n ?_ | refine aw_skip ?_ | refine aw_exit ?_ | (with_reducible first | refine then_x ?_ | refine then_r ?_ | refine block_x ?_ | refine block_n ?_ | refine block_r ?_) | refine aw_ret ?_
    refine do_br rfl rfl (fun h => ?_) (fun h => ?_)
    · have hlt : i < xs.length := by simpa using h
      obtain ⟨z, hz⟩ : ∃ z, xs[i]? = some z := ⟨_, List.getElem?_eq_getElem hlt⟩
      have es : newS xs (i + 1) = bAnd .i64 (IntKind.i64.wrap (IntKind.i64.wrap (IntKind.i64.wrap (newS xs i * 131) + IntKind.i64.wrap z) + 7)) 1073741823 := by rw [newS, hz]
      repeat' first | refine aw_seq ?_ | refine aw_region ?_ | refine aw_lex [] ?_ | (refine isA ?_; refine do_F rfl ?_) | (refine isL ?_; refine lex_F rfl (by kernel_rfl) rfl rfl ?_) | (refine isLg rfl ?_; refine lex_S rfl (by kernel_rfl) rfl rfl ?_) | refine aops_nil ?_ | refine lex_done _ rfl (by kernel_rfl) ?_ | refine aw_ct rfl ?_ | refine aw_cf rfl ?_ | refine aw_block ?_ | with_reducible refine then_n ?_ | refine aw_skip ?_ | refine aw_exit ?_ | (with_reducible first | refine then_x ?_ | refine then_r ?_ | refine block_x ?_ | refine block_n ?_ | refine block_r ?_) | refine aw_ret ?_
      refine aw_cond rfl (fun h' => ?_) (fun h' => ?_)
      · have h4 : i < 4000 := by have := of_decide_eq_true h'; simp only at this; omega
        repeat' first | refine aw_seq ?_ | refine aw_region ?_ | refine aw_lex [] ?_ | (refine isA ?_; refine do_F rfl ?_) | (refine isL ?_; refine lex_F rfl (by kernel_rfl) rfl rfl ?_) | (refine isLg rfl ?_; refine lex_S rfl (by kernel_rfl) rfl rfl ?_) | (refine isAi ?_; refine do_R rfl (ia_l (t := u8T) (z := z) rfl rfl rfl rfl (Int.natCast_nonneg i) hz) rfl ?_) | (refine isLi rfl ?_; refine lex_R rfl (by kernel_rfl) rfl (ia_l (t := u8T) (z := z) rfl rfl rfl rfl (Int.natCast_nonneg i) hz) rfl ?_) | (refine isA ?_; refine do_R rfl (step_and rfl rfl rfl) rfl ?_) | refine aops_nil ?_ | refine lex_done _ rfl (by kernel_rfl) ?_ | refine aw_ct rfl ?_ | refine aw_cf rfl ?_ | refine aw_block ?_ | with_reducible refine then_n ?_ | refine aw_skip ?_ | refine aw_exit ?_ | (with_reducible first | refine then_x ?_ | refine then_r ?_ | refine block_x ?_ | refine block_n ?_ | refine block_r ?_) | refine aw_ret ?_
        refine ⟨⟨i + 1, by omega⟩, by simp only; omega, ?_⟩
        exact sub0 [] rfl rfl (by decide) .nil (by
          repeat' first | exact les_nil | refine les_cons ?_ ?_ | exact le_any | exact le_refl rfl | exact le_i hlt (by omega) | exact le_k (congrArg _ es))
      · have h4 : ¬ i < 4000 := by have := of_decide_eq_false h'; simp only at this; omega
        repeat' first | refine aw_seq ?_ | refine aw_region ?_ | refine aw_lex [] ?_ | (refine isA ?_; refine do_F rfl ?_) | (refine isL ?_; refine lex_F rfl (by kernel_rfl) rfl rfl ?_) | (refine isLg rfl ?_; refine lex_S rfl (by kernel_rfl) rfl rfl ?_) | exact (by rw [hdone (by omega)]; exact finM 0 [0] (fun i hi => absurd hi (Nat.not_lt_zero _)) (by decide) rfl (le_ptr rfl) (.cons rfl rfl rfl rfl (by repeat' first | exact les_nil | refine les_cons ?_ ?_ | exact le_any | exact le_refl rfl | exact le_sl rfl rfl | exact le_ptr rfl) .nil)) | refine aops_nil ?_ | refine lex_done _ rfl (by kernel_rfl) ?_ | refine aw_ct rfl ?_ | refine aw_cf rfl ?_ | refine aw_block ?_ | with_reducible refine then_n ?_ | refine aw_skip ?_ | refine aw_exit ?_ | (with_reducible first | refine then_x ?_ | refine then_r ?_ | refine block_x ?_ | refine block_n ?_ | refine block_r ?_) | refine aw_ret ?_
    · have hge : ¬ i < xs.length := by simpa using h
      repeat' first | refine aw_seq ?_ | refine aw_region ?_ | refine aw_lex [] ?_ | (refine isA ?_; refine do_F rfl ?_) | (refine isL ?_; refine lex_F rfl (by kernel_rfl) rfl rfl ?_) | (refine isLg rfl ?_; refine lex_S rfl (by kernel_rfl) rfl rfl ?_) | exact (by rw [hdone (by omega)]; exact finM 0 [0] (fun i hi => absurd hi (Nat.not_lt_zero _)) (by decide) rfl (le_ptr rfl) (.cons rfl rfl rfl rfl (by repeat' first | exact les_nil | refine les_cons ?_ ?_ | exact le_any | exact le_refl rfl | exact le_sl rfl rfl | exact le_ptr rfl) .nil)) | refine aops_nil ?_ | refine lex_done _ rfl (by kernel_rfl) ?_ | refine aw_ct rfl ?_ | refine aw_cf rfl ?_ | refine aw_block ?_ | with_reducible refine then_n ?_ | refine aw_skip ?_ | refine aw_exit ?_ | (with_reducible first | refine then_x ?_ | refine then_r ?_ | refine block_x ?_ | refine block_n ?_ | refine block_r ?_) | refine aw_ret ?_
end Go.Proofs.Ytkcicbigpbdjpaa.Ab

/- DrwP -/
namespace Go.Proofs.Ytkcicbigpbdjpaa.Ab
open Go.RowKit

def pkV (zs : List Int) (c : Cur) : Int := (zs[(beV zs.length c).toNat]?).getD 0
theorem c_pickL (zs : List Int) (c : Cur) (hl : c.code.length ≤ 1000000000) (h0 : 0 < zs.length) : Meets Go.Proofs.Try.prog 131 [.ptr 0 0, .lst zs.length (zs.map I)] [curR c] (I (pkV zs c)) [curR (beC zs.length c)] true := by
  obtain ⟨r0, r1⟩ := beV_range (n := zs.length) (by omega) c
  refine c_pick _ _ _ c hl h0 ?_
  have hlt : (beV zs.length c).toNat < zs.length := by omega
  rw [List.getElem?_map, pkV, List.getElem?_eq_getElem hlt]
  rfl
theorem finMC1 {l : List V} {H : List Reg} {t : Tmp} {n : Nat} {v r : V} {K : Reg} (hv : CellIs l H t n v) (hr : Le [0] r v) (hH : HLes [0] H [0] [K]) :
    (Exit.ret = .ret ∨ Exit.ret = .normal) ∧ ∃ v, CellIs l H t n v ∧ Out true r [K] v ⟨l, H, 1⟩ := ⟨Or.inl rfl, v, hv, out_of (S := ⟨l, H, 1⟩) [0] fix1 (hle_of (by decide) hH) hr (Or.inl rfl)⟩
/-- A list is drawn off the cursor in row h: a new row behind the others. -/
theorem st_drawL {o : Oper} {ρ : Operand → V} {H H' : List Reg} {f : FuncId} {a : Operand} {args : List Operand} {ats : Array TypeId} {cargs : List V} {m : Nat} {c c' : Cur} {R : Reg} (n h : Nat) [he : Ent Go.Proofs.Try.prog f]
    (hm : Meets Go.Proofs.Try.prog f (.ptr 0 0 :: cargs) [curR c] (.sl 1 0 m) [curR c', R] true) (ho : o.op = .call { callee := .value (.func f), args := (a :: args).toArray, argTypes := ats })
    (ha : ρ a = .ptr h 0) (hargs : args.map ρ = cargs) (hN : noHs cargs = true) (hR : NoH R.cells) (hH : H[h]? = some (curR c)) (hn : H.length = n) (hH' : H.set h (curR c') ++ [R] = H') : Step Go.Proofs.Try.prog o ρ H (.sl n 0 m) H' := by
  subst hn
  refine st_callN (args := a :: args) (K := [R]) (K2 := [R]) (Rs' := [curR c']) [h] (by simp) ho hm (.cons (R0 := curR c) (R' := curR c') hH rfl (passS_noH (curR_noH _)) Nat.zero_ne_one (.rest (curR_noH _)) .nil) ?_ (.ofN (fun q hq => by simp at hq; subst hq; exact hR)) (.sl rfl) hH'
  show PassS [h] (ρ a :: args.map ρ) _
  rw [ha, hargs]
  exact .cons (.ptr rfl) (passS_noH (noHs_mem hN))

/-! ### A row -/
def rowD (keys : Int) (c : Cur) : Rw × Cur := (⟨beV keys c, beV 100 (beC keys c), pkV [0, 0, 1, 2, 3] (beC 100 (beC keys c))⟩, beC 5 (beC 100 (beC keys c)))
theorem rowD_code (keys : Int) (c : Cur) : (rowD keys c).2.code = c.code := by
  show (beC 5 (beC 100 (beC keys c))).code = _
  rw [beC_code, beC_code, beC_code]
theorem c_row (keys : Int) (c : Cur) (hl : c.code.length ≤ 1000000000) : Meets Go.Proofs.Try.prog 159 [.ptr 0 0, I keys] [curR c] (.agg (rwE (rowD keys c).1)) [curR (rowD keys c).2] true := by
  have h1 : (beC keys c).code.length ≤ 1000000000 := by rw [beC_code]; exact hl
  have h2 : (beC 100 (beC keys c)).code.length ≤ 1000000000 := by rw [beC_code]; exact h1
  refine meets_ofC 4 71 Go.Proofs.Try.func159 rfl rfl ?_
  simp only [Go.Proofs.Try.ntmps159, List.length_cons, List.length_nil, Nat.reduceAdd, Nat.reduceSub, List.replicate_succ, List.replicate_zero, List.cons_append, List.nil_append]
  repeat' first | (refine isA ?_; refine do_R rfl (lit_of rfl rfl rfl rfl rfl) rfl ?_) | refine aw_seq ?_ | refine aw_region ?_ | refine aw_lex [] ?_ | (refine isA ?_; refine do_F rfl ?_) | (refine isL ?_; refine lex_F rfl (by kernel_rfl) rfl rfl ?_) | (refine isLg rfl ?_; refine lex_S rfl (by kernel_rfl) rfl rfl ?_) | (refine isAc 143 (x := #[.tmp 5, .tmp 6]) ?_; refine do_R rfl (step_callMs (K := []) (Rs' := [_]) [0] (by decide) rfl (c_lbel keys c hl) (.cons rfl rfl rfl (curR_noH _) (curR_noH _) .nil) (.cons (.ptr rfl) (.cons (.same rfl) .nil)) (fun q hq => by cases hq) rfl) rfl ?_) | (refine isLc 143 (x := #[.tmp 5, .tmp 6]) rfl ?_; refine lex_R rfl (by kernel_rfl) rfl (step_callMs (K := []) (Rs' := [_]) [0] (by decide) rfl (c_lbel keys c hl) (.cons rfl rfl rfl (curR_noH _) (curR_noH _) .nil) (.cons (.ptr rfl) (.cons (.same rfl) .nil)) (fun q hq => by cases hq) rfl) rfl ?_) | (refine isAc 143 ?_; refine do_R rfl (step_callMs (K := []) (Rs' := [_]) [0] (by decide) rfl (c_lbel 100 (beC keys c) h1) (.cons rfl rfl rfl (curR_noH _) (curR_noH _) .nil) (.cons (.ptr rfl) (.cons (.same rfl) .nil)) (fun q hq => by cases hq) rfl) rfl ?_) | (refine isLc 143 rfl ?_; refine lex_R rfl (by kernel_rfl) rfl (step_callMs (K := []) (Rs' := [_]) [0] (by decide) rfl (c_lbel 100 (beC keys c) h1) (.cons rfl rfl rfl (curR_noH _) (curR_noH _) .nil) (.cons (.ptr rfl) (.cons (.same rfl) .nil)) (fun q hq => by cases hq) rfl) rfl ?_) | (refine isAc 131 ?_; refine do_R rfl (step_callMs (K := []) (Rs' := [_]) [0] (by decide) rfl (c_pickL [0, 0, 1, 2, 3] (beC 100 (beC keys c)) h2 (by decide)) (.cons rfl rfl rfl (curR_noH _) (curR_noH _) .nil) (.cons (.ptr rfl) (.cons (.same rfl) .nil)) (fun q hq => by cases hq) rfl) rfl ?_) | (refine isLc 131 rfl ?_; refine lex_R rfl (by kernel_rfl) rfl (step_callMs (K := []) (Rs' := [_]) [0] (by decide) rfl (c_pickL [0, 0, 1, 2, 3] (beC 100 (beC keys c)) h2 (by decide)) (.cons rfl rfl rfl (curR_noH _) (curR_noH _) .nil) (.cons (.ptr rfl) (.cons (.same rfl) .nil)) (fun q hq => by cases hq) rfl) rfl ?_) | exact finMC1 (cell_is rfl rfl rfl rfl rfl) (le_refl rfl) (.cons rfl rfl rfl rfl (les_refl (curR_noH _)) .nil) | refine aops_nil ?_ | refine lex_done _ rfl (by kernel_rfl) ?_ | refine aw_ct rfl ?_ | refine aw_cf rfl ?_ | refine aw_block ?_ | with_reducible refine then_n ?_ | refine aw_skip ?_ | refine aw_exit ?_ | (with_reducible first | refine then_x ?_ | refine then_r ?_ | refine block_x ?_ | refine block_n ?_ | refine block_r ?_) | refine aw_ret ?_

/-! ### Rows -/
def rowsF (keys : Int) (c : Cur) : Nat → List Rw × Cur
  | 0 => ([], c)
  | i + 1 => ((rowsF keys c i).1 ++ [(rowD keys (rowsF keys c i).2).1], (rowD keys (rowsF keys c i).2).2)
theorem rowsF_len (keys : Int) (c : Cur) : ∀ i, (rowsF keys c i).1.length = i
  | 0 => rfl
  | i + 1 => by rw [rowsF, List.length_append, rowsF_len keys c i]; rfl
theorem rowsF_code (keys : Int) (c : Cur) : ∀ i, (rowsF keys c i).2.code = c.code
  | 0 => rfl
  | i + 1 => by rw [rowsF, rowD_code, rowsF_code keys c i]
def rowsD (most : Int) (c : Cur) : List Rw × Cur := rowsF (pkV [1, 2, 4, 10] c) (beC (IntKind.i64.wrap (most + 1)) (beC 4 c)) (beV (IntKind.i64.wrap (most + 1)) (beC 4 c)).toNat
theorem rowsD_code (most : Int) (c : Cur) : (rowsD most c).2.code = c.code := by rw [rowsD, rowsF_code, beC_code, beC_code]
theorem rowsD_len {most : Int} (h0 : 0 ≤ most) (h1 : most ≤ 1000) (c : Cur) : ((rowsD most c).1.length : Int) ≤ most := by
  have e : IntKind.i64.wrap (most + 1) = most + 1 := by rw [IntKind.wrap_i64]; omega
  rw [rowsD, rowsF_len, e]
  have := beV_range (n := most + 1) (by omega) (beC 4 c)
  omega
theorem c_rows (most : Int) (m0 : 0 ≤ most) (m1 : most ≤ 1000) (c : Cur) (hl : c.code.length ≤ 1000000000) : Meets Go.Proofs.Try.prog 129 [.ptr 0 0, I most] [curR c] (.sl 1 0 (rowsD most c).1.length) [curR (rowsD most c).2, rwR (rowsD most c).1] true := by
  have h1 : (beC 4 c).code.length ≤ 1000000000 := by rw [beC_code]; exact hl
  have e : IntKind.i64.wrap (most + 1) = most + 1 := by rw [IntKind.wrap_i64]; omega
  obtain ⟨r0, r1⟩ := beV_range (n := IntKind.i64.wrap (most + 1)) (by omega) (beC 4 c)
  obtain ⟨k, hk⟩ : ∃ k : Nat, beV (IntKind.i64.wrap (most + 1)) (beC 4 c) = k := ⟨(beV (IntKind.i64.wrap (most + 1)) (beC 4 c)).toNat, by omega⟩
  have hkl : k ≤ 1000 := by omega
  refine meets_of [4] Go.Proofs.Try.func129 rfl rfl ?_
  simp only [Go.Proofs.Try.ntmps129, List.length_cons, List.length_nil, Nat.reduceAdd, Nat.reduceSub, List.replicate_succ, List.replicate_zero, List.cons_append, List.nil_append]
  repeat' first | (refine isA ?_; refine do_R rfl (lit_of (cs := [1, 2, 4, 10].map I) rfl rfl rfl rfl rfl) rfl ?_) | refine aw_seq ?_ | refine aw_region ?_ | refine aw_lex [] ?_ | (refine isA ?_; refine do_F rfl ?_) | (refine isL ?_; refine lex_F rfl (by kernel_rfl) rfl rfl ?_) | (refine isLg rfl ?_; refine lex_S rfl (by kernel_rfl) rfl rfl ?_) | (refine isAc 131 ?_; refine do_R rfl (step_callMs (K := []) (Rs' := [_]) [0] (by decide) rfl (c_pickL [1, 2, 4, 10] c hl (by decide)) (.cons rfl rfl rfl (curR_noH _) (curR_noH _) .nil) (.cons (.ptr rfl) (.cons (.same rfl) .nil)) (fun q hq => by cases hq) rfl) rfl ?_) | (refine isLc 131 rfl ?_; refine lex_R rfl (by kernel_rfl) rfl (step_callMs (K := []) (Rs' := [_]) [0] (by decide) rfl (c_pickL [1, 2, 4, 10] c hl (by decide)) (.cons rfl rfl rfl (curR_noH _) (curR_noH _) .nil) (.cons (.ptr rfl) (.cons (.same rfl) .nil)) (fun q hq => by cases hq) rfl) rfl ?_) | (refine isAc 143 ?_; refine do_R rfl (step_callMs (K := []) (Rs' := [_]) [0] (by decide) rfl (c_lbel (IntKind.i64.wrap (most + 1)) (beC 4 c) h1) (.cons rfl rfl rfl (curR_noH _) (curR_noH _) .nil) (.cons (.ptr rfl) (.cons (.same rfl) .nil)) (fun q hq => by cases hq) rfl) rfl ?_) | (refine isLc 143 rfl ?_; refine lex_R rfl (by kernel_rfl) rfl (step_callMs (K := []) (Rs' := [_]) [0] (by decide) rfl (c_lbel (IntKind.i64.wrap (most + 1)) (beC 4 c) h1) (.cons rfl rfl rfl (curR_noH _) (curR_noH _) .nil) (.cons (.ptr rfl) (.cons (.same rfl) .nil)) (fun q hq => by cases hq) rfl) rfl ?_) | refine aops_nil ?_ | refine lex_done _ rfl (by kernel_rfl) ?_ | refine aw_ct rfl ?_ | refine aw_cf rfl ?_ | refine aw_block ?_ | with_reducible refine then_n ?_ | refine aw_skip ?_ | refine aw_exit ?_ | (with_reducible first | refine then_x ?_ | refine then_r ?_ | refine block_x ?_ | refine block_n ?_ | refine block_r ?_) | refine aw_ret ?_
  have hq : (beC (IntKind.i64.wrap (most + 1)) (beC 4 c)).code.length ≤ 1000000000 := by rw [beC_code]; exact h1
  have hD : rowsD most c = rowsF (pkV [1, 2, 4, 10] c) (beC (IntKind.i64.wrap (most + 1)) (beC 4 c)) k := by rw [rowsD, hk]; rfl
  rw [hD, hk]
  generalize hQ : pkV [1, 2, 4, 10] c = q
  generalize hE : beC (IntKind.i64.wrap (most + 1)) (beC 4 c) = d at hq
  refine aw_loop (α := { j : Nat // j ≤ k }) (fun j => ⟨[.ptr 0 0, .any, .any, .any, .any, .sl 1 0 (rowsF q d j.1).1.length, I q, I ((k : Int) - j.1), .any, .any, .any, .any, .any, .any, .any, .any, .any, .any, .any, .any, .any, .any, .any, .any, .any, .any, .any], [curR (rowsF q d j.1).2, rwR (rowsF q d j.1).1], 1⟩) (fun j => k - j.1) ⟨0, Nat.zero_le _⟩ ?_ ?_
  · refine subm 1 [0, 1] rfl rfl fix1 (by decide) (.cons rfl rfl rfl rfl (les_refl (curR_noH _)) (.cons rfl rfl rfl rfl (les_refl' rfl) .nil)) (by
      repeat' first | exact les_nil | refine les_cons ?_ ?_ | exact le_any | exact le_refl rfl | exact le_ptr rfl | exact le_sl rfl rfl | exact le_k (congrArg _ (by simp)))
  · rintro ⟨j, hj⟩
    have hcl : (rowsF q d j).2.code.length ≤ 1000000000 := by rw [rowsF_code]; exact hq
    have hol := rowsF_len q d j
    repeat' first | refine aw_seq ?_ | refine aw_region ?_ | refine aw_lex [] ?_ | (refine isA ?_; refine do_F rfl ?_) | (refine isL ?_; refine lex_F rfl (by kernel_rfl) rfl rfl ?_) | (refine isLg rfl ?_; refine lex_S rfl (by kernel_rfl) rfl rfl ?_) | refine aops_nil ?_ | refine lex_done _ rfl (by kernel_rfl) ?_ | refine aw_ct rfl ?_ | refine aw_cf rfl ?_ | refine aw_block ?_ | with_reducible refine then_n ?_ | refine aw_skip ?_ | refine aw_exit ?_ | (with_reducible first | refine then_x ?_ | refine then_r ?_ | refine block_x ?_ | refine block_n ?_ | refine block_r ?_) | refine aw_ret ?_
    refine aw_cond rfl (fun h => ?_) (fun h => ?_)
    · have hlt : j < k := by have := of_decide_eq_true h; simp only at this; omega
      repeat' first | (refine isA ?_; refine do_R rfl (lit_of rfl rfl rfl rfl rfl) rfl ?_) | refine aw_seq ?_ | refine aw_region ?_ | refine aw_lex [] ?_ | (refine isA ?_; refine do_F rfl ?_) | (refine isL ?_; refine lex_F rfl (by kernel_rfl) rfl rfl ?_) | (refine isLg rfl ?_; refine lex_S rfl (by kernel_rfl) rfl rfl ?_) | (refine isAc 159 ?_; refine do_R rfl (step_callMs (K := []) (Rs' := [_]) [0] (by decide) rfl (c_row q (rowsF q d j).2 hcl) (.cons rfl rfl rfl (curR_noH _) (curR_noH _) .nil) (.cons (.ptr rfl) (.cons (.same rfl) .nil)) (fun q hq => by cases hq) rfl) rfl ?_) | (refine isLc 159 rfl ?_; refine lex_R rfl (by kernel_rfl) rfl (step_callMs (K := []) (Rs' := [_]) [0] (by decide) rfl (c_row q (rowsF q d j).2 hcl) (.cons rfl rfl rfl (curR_noH _) (curR_noH _) .nil) (.cons (.ptr rfl) (.cons (.same rfl) .nil)) (fun q hq => by cases hq) rfl) rfl ?_) | (refine isAp ?_; refine do_R rfl (ap_l (t := rwT) (xs := (rowsF q d j).1) (ys := [(rowD q (rowsF q d j).2).1]) rfl rfl rfl rfl (.lst _ _) (by rw [hol]; simp; omega) rfl) rfl ?_) | (refine isLp rfl ?_; refine lex_R rfl (by kernel_rfl) rfl (ap_l (t := rwT) (xs := (rowsF q d j).1) (ys := [(rowD q (rowsF q d j).2).1]) rfl rfl rfl rfl (.lst _ _) (by rw [hol]; simp; omega) rfl) rfl ?_) | refine aops_nil ?_ | refine lex_done _ rfl (by kernel_rfl) ?_ | refine aw_ct rfl ?_ | refine aw_cf rfl ?_ | refine aw_block ?_ | with_reducible refine then_n ?_ | refine aw_skip ?_ | refine aw_exit ?_ | (with_reducible first | refine then_x ?_ | refine then_r ?_ | refine block_x ?_ | refine block_n ?_ | refine block_r ?_) | refine aw_ret ?_
      refine ⟨⟨j + 1, hlt⟩, by simp only; omega, ?_⟩
      exact subm 1 [0, 2] rfl rfl fix1 (by decide) (.cons rfl rfl rfl rfl (les_refl (curR_noH _)) (.cons rfl rfl rfl rfl (les_refl (flat_noH _ _)) .nil)) (by
        repeat' first | exact les_nil | refine les_cons ?_ ?_ | exact le_any | exact le_refl rfl | exact le_ptr rfl | exact le_sl rfl rfl | exact le_k (congrArg _ (show (k : Int) - ((j + 1 : Nat) : Int) = IntKind.i64.wrap ((k : Int) - (j : Int) - 1) by rw [IntKind.wrap_i64]; omega)))
    · have hge : j = k := by have := of_decide_eq_false h; simp only at this; omega
      subst hge
      repeat' first | refine aw_seq ?_ | refine aw_region ?_ | refine aw_lex [] ?_ | (refine isA ?_; refine do_F rfl ?_) | (refine isL ?_; refine lex_F rfl (by kernel_rfl) rfl rfl ?_) | (refine isLg rfl ?_; refine lex_S rfl (by kernel_rfl) rfl rfl ?_) | exact finM 1 [0, 1] fix1 (by decide) rfl (le_sl rfl rfl) (.cons rfl rfl rfl rfl (les_refl (curR_noH _)) (.cons rfl rfl rfl rfl (les_refl (flat_noH _ _)) .nil)) | refine aops_nil ?_ | refine lex_done _ rfl (by kernel_rfl) ?_ | refine aw_ct rfl ?_ | refine aw_cf rfl ?_ | refine aw_block ?_ | with_reducible refine then_n ?_ | refine aw_skip ?_ | refine aw_exit ?_ | (with_reducible first | refine then_x ?_ | refine then_r ?_ | refine block_x ?_ | refine block_n ?_ | refine block_r ?_) | refine aw_ret ?_

/-! ### A row that may be spoilt, and rows with one -/
def anyD (c : Cur) : Rw × Cur :=
  cond (decide (beV 8 (rowD 10 c).2 = 0)) (⟨pkV [-1, 10] (beC 8 (rowD 10 c).2), (rowD 10 c).1.b, (rowD 10 c).1.c⟩, beC 2 (beC 8 (rowD 10 c).2))
    (cond (decide (beV 8 (rowD 10 c).2 = 1)) (⟨(rowD 10 c).1.a, pkV [-1, 100, 99] (beC 8 (rowD 10 c).2), (rowD 10 c).1.c⟩, beC 3 (beC 8 (rowD 10 c).2))
      (cond (decide (beV 8 (rowD 10 c).2 = 2)) (⟨(rowD 10 c).1.a, (rowD 10 c).1.b, pkV [-1, 4] (beC 8 (rowD 10 c).2)⟩, beC 2 (beC 8 (rowD 10 c).2)) ((rowD 10 c).1, beC 8 (rowD 10 c).2)))
theorem anyD_code (c : Cur) : (anyD c).2.code = c.code := by
  unfold anyD
  cases decide (beV 8 (rowD 10 c).2 = 0) <;> cases decide (beV 8 (rowD 10 c).2 = 1) <;> cases decide (beV 8 (rowD 10 c).2 = 2) <;> simp [beC_code, rowD_code]
theorem c_any (c : Cur) (hl : c.code.length ≤ 1000000000) : Meets Go.Proofs.Try.prog 155 [.ptr 0 0] [curR c] (.agg (rwE (anyD c).1)) [curR (anyD c).2] true := by
  have h1 : (rowD 10 c).2.code.length ≤ 1000000000 := by rw [rowD_code]; exact hl
  have h2 : (beC 8 (rowD 10 c).2).code.length ≤ 1000000000 := by rw [beC_code]; exact h1
  refine meets_ofC 2 71 Go.Proofs.Try.func155 rfl rfl ?_
  simp only [Go.Proofs.Try.ntmps155, List.length_cons, List.length_nil, Nat.reduceAdd, Nat.reduceSub, List.replicate_succ, List.replicate_zero, List.cons_append, List.nil_append]
  repeat' first | refine aw_seq ?_ | refine aw_region ?_ | refine aw_lex [] ?_ | (refine isA ?_; refine do_F rfl ?_) | (refine isL ?_; refine lex_F rfl (by kernel_rfl) rfl rfl ?_) | (refine isLg rfl ?_; refine lex_S rfl (by kernel_rfl) rfl rfl ?_) | (refine isAc 159 ?_; refine do_R rfl (step_callMs (K := []) (Rs' := [_]) [0] (by decide) rfl (c_row 10 c hl) (.cons rfl rfl rfl (curR_noH _) (curR_noH _) .nil) (.cons (.ptr rfl) (.cons (.same rfl) .nil)) (fun q hq => by cases hq) rfl) rfl ?_) | (refine isLc 159 rfl ?_; refine lex_R rfl (by kernel_rfl) rfl (step_callMs (K := []) (Rs' := [_]) [0] (by decide) rfl (c_row 10 c hl) (.cons rfl rfl rfl (curR_noH _) (curR_noH _) .nil) (.cons (.ptr rfl) (.cons (.same rfl) .nil)) (fun q hq => by cases hq) rfl) rfl ?_) | (refine isAc 143 ?_; refine do_R rfl (step_callMs (K := []) (Rs' := [_]) [0] (by decide) rfl (c_lbel 8 (rowD 10 c).2 h1) (.cons rfl rfl rfl (curR_noH _) (curR_noH _) .nil) (.cons (.ptr rfl) (.cons (.same rfl) .nil)) (fun q hq => by cases hq) rfl) rfl ?_) | (refine isLc 143 rfl ?_; refine lex_R rfl (by kernel_rfl) rfl (step_callMs (K := []) (Rs' := [_]) [0] (by decide) rfl (c_lbel 8 (rowD 10 c).2 h1) (.cons rfl rfl rfl (curR_noH _) (curR_noH _) .nil) (.cons (.ptr rfl) (.cons (.same rfl) .nil)) (fun q hq => by cases hq) rfl) rfl ?_) | refine aops_nil ?_ | refine lex_done _ rfl (by kernel_rfl) ?_ | refine aw_ct rfl ?_ | refine aw_cf rfl ?_ | refine aw_block ?_ | with_reducible refine then_n ?_ | refine aw_skip ?_ | refine aw_exit ?_ | (with_reducible first | refine then_x ?_ | refine then_r ?_ | refine block_x ?_ | refine block_n ?_ | refine block_r ?_) | refine aw_ret ?_
  refine aw_cond rfl (fun b0 => ?_) (fun b0 => ?_)
  · skip
    have D : anyD c = (⟨pkV [-1, 10] (beC 8 (rowD 10 c).2), (rowD 10 c).1.b, (rowD 10 c).1.c⟩, beC 2 (beC 8 (rowD 10 c).2)) := by rw [anyD, b0]; rfl
    repeat' first | (refine isA ?_; refine do_R rfl (lit_of rfl rfl rfl rfl rfl) rfl ?_) | refine aw_seq ?_ | refine aw_region ?_ | refine aw_lex [] ?_ | (refine isA ?_; refine do_F rfl ?_) | (refine isL ?_; refine lex_F rfl (by kernel_rfl) rfl rfl ?_) | (refine isLg rfl ?_; refine lex_S rfl (by kernel_rfl) rfl rfl ?_) | (refine isAc 131 ?_; refine do_R rfl (step_callMs (K := []) (Rs' := [_]) [0] (by decide) rfl (c_pickL [-1, 10] (beC 8 (rowD 10 c).2) h2 (Nat.zero_lt_succ _)) (.cons rfl rfl rfl (curR_noH _) (curR_noH _) .nil) (.cons (.ptr rfl) (.cons (.same rfl) .nil)) (fun q hq => by cases hq) rfl) rfl ?_) | (refine isLc 131 rfl ?_; refine lex_R rfl (by kernel_rfl) rfl (step_callMs (K := []) (Rs' := [_]) [0] (by decide) rfl (c_pickL [-1, 10] (beC 8 (rowD 10 c).2) h2 (Nat.zero_lt_succ _)) (.cons rfl rfl rfl (curR_noH _) (curR_noH _) .nil) (.cons (.ptr rfl) (.cons (.same rfl) .nil)) (fun q hq => by cases hq) rfl) rfl ?_) | exact (by rw [D]; exact finMC1 (cell_is rfl rfl rfl rfl rfl) (le_refl rfl) (.cons rfl rfl rfl rfl (les_refl (curR_noH _)) .nil)) | refine aops_nil ?_ | refine lex_done _ rfl (by kernel_rfl) ?_ | refine aw_ct rfl ?_ | refine aw_cf rfl ?_ | refine aw_block ?_ | with_reducible refine then_n ?_ | refine aw_skip ?_ | refine aw_exit ?_ | (with_reducible first | refine then_x ?_ | refine then_r ?_ | refine block_x ?_ | refine block_n ?_ | refine block_r ?_) | refine aw_ret ?_
  · repeat' first | refine aw_seq ?_ | refine aw_region ?_ | refine aw_lex [] ?_ | (refine isA ?_; refine do_F rfl ?_) | (refine isL ?_; refine lex_F rfl (by kernel_rfl) rfl rfl ?_) | (refine isLg rfl ?_; refine lex_S rfl (by kernel_rfl) rfl rfl ?_) | refine aops_nil ?_ | refine lex_done _ rfl (by kernel_rfl) ?_ | refine aw_ct rfl ?_ | refine aw_cf rfl ?_ | refine aw_block ?_ | with_reducible refine then_n ?_ | refine aw_skip ?_ | refine aw_exit ?_ | (with_reducible first | refine then_x ?_ | refine then_r ?_ | refine block_x ?_ | refine block_n ?_ | refine block_r ?_) | refine aw_ret ?_
    refine aw_cond rfl (fun b1 => ?_) (fun b1 => ?_)
    · skip
      have D : anyD c = (⟨(rowD 10 c).1.a, pkV [-1, 100, 99] (beC 8 (rowD 10 c).2), (rowD 10 c).1.c⟩, beC 3 (beC 8 (rowD 10 c).2)) := by rw [anyD, b0, b1]; rfl
      repeat' first | (refine isA ?_; refine do_R rfl (lit_of rfl rfl rfl rfl rfl) rfl ?_) | refine aw_seq ?_ | refine aw_region ?_ | refine aw_lex [] ?_ | (refine isA ?_; refine do_F rfl ?_) | (refine isL ?_; refine lex_F rfl (by kernel_rfl) rfl rfl ?_) | (refine isLg rfl ?_; refine lex_S rfl (by kernel_rfl) rfl rfl ?_) | (refine isAc 131 ?_; refine do_R rfl (step_callMs (K := []) (Rs' := [_]) [0] (by decide) rfl (c_pickL [-1, 100, 99] (beC 8 (rowD 10 c).2) h2 (Nat.zero_lt_succ _)) (.cons rfl rfl rfl (curR_noH _) (curR_noH _) .nil) (.cons (.ptr rfl) (.cons (.same rfl) .nil)) (fun q hq => by cases hq) rfl) rfl ?_) | (refine isLc 131 rfl ?_; refine lex_R rfl (by kernel_rfl) rfl (step_callMs (K := []) (Rs' := [_]) [0] (by decide) rfl (c_pickL [-1, 100, 99] (beC 8 (rowD 10 c).2) h2 (Nat.zero_lt_succ _)) (.cons rfl rfl rfl (curR_noH _) (curR_noH _) .nil) (.cons (.ptr rfl) (.cons (.same rfl) .nil)) (fun q hq => by cases hq) rfl) rfl ?_) | exact (by rw [D]; exact finMC1 (cell_is rfl rfl rfl rfl rfl) (le_refl rfl) (.cons rfl rfl rfl rfl (les_refl (curR_noH _)) .nil)) | refine aops_nil ?_ | refine lex_done _ rfl (by kernel_rfl) ?_ | refine aw_ct rfl ?_ | refine aw_cf rfl ?_ | refine aw_block ?_ | with_reducible refine then_n ?_ | refine aw_skip ?_ | refine aw_exit ?_ | (with_reducible first | refine then_x ?_ | refine then_r ?_ | refine block_x ?_ | refine block_n ?_ | refine block_r ?_) | refine aw_ret ?_
    · repeat' first | refine aw_seq ?_ | refine aw_region ?_ | refine aw_lex [] ?_ | (refine isA ?_; refine do_F rfl ?_) | (refine isL ?_; refine lex_F rfl (by kernel_rfl) rfl rfl ?_) | (refine isLg rfl ?_; refine lex_S rfl (by kernel_rfl) rfl rfl ?_) | refine aops_nil ?_ | refine lex_done _ rfl (by kernel_rfl) ?_ | refine aw_ct rfl ?_ | refine aw_cf rfl ?_ | refine aw_block ?_ | with_reducible refine then_n ?_ | refine aw_skip ?_ | refine aw_exit ?_ | (with_reducible first | refine then_x ?_ | refine then_r ?_ | refine block_x ?_ | refine block_n ?_ | refine block_r ?_) | refine aw_ret ?_
      refine aw_cond rfl (fun b2 => ?_) (fun b2 => ?_)
      · skip
        have D : anyD c = (⟨(rowD 10 c).1.a, (rowD 10 c).1.b, pkV [-1, 4] (beC 8 (rowD 10 c).2)⟩, beC 2 (beC 8 (rowD 10 c).2)) := by rw [anyD, b0, b1, b2]; rfl
        repeat' first | (refine isA ?_; refine do_R rfl (lit_of rfl rfl rfl rfl rfl) rfl ?_) | refine aw_seq ?_ | refine aw_region ?_ | refine aw_lex [] ?_ | (refine isA ?_; refine do_F rfl ?_) | (refine isL ?_; refine lex_F rfl (by kernel_rfl) rfl rfl ?_) | (refine isLg rfl ?_; refine lex_S rfl (by kernel_rfl) rfl rfl ?_) | (refine isAc 131 ?_; refine do_R rfl (step_callMs (K := []) (Rs' := [_]) [0] (by decide) rfl (c_pickL [-1, 4] (beC 8 (rowD 10 c).2) h2 (Nat.zero_lt_succ _)) (.cons rfl rfl rfl (curR_noH _) (curR_noH _) .nil) (.cons (.ptr rfl) (.cons (.same rfl) .nil)) (fun q hq => by cases hq) rfl) rfl ?_) | (refine isLc 131 rfl ?_; refine lex_R rfl (by kernel_rfl) rfl (step_callMs (K := []) (Rs' := [_]) [0] (by decide) rfl (c_pickL [-1, 4] (beC 8 (rowD 10 c).2) h2 (Nat.zero_lt_succ _)) (.cons rfl rfl rfl (curR_noH _) (curR_noH _) .nil) (.cons (.ptr rfl) (.cons (.same rfl) .nil)) (fun q hq => by cases hq) rfl) rfl ?_) | exact (by rw [D]; exact finMC1 (cell_is rfl rfl rfl rfl rfl) (le_refl rfl) (.cons rfl rfl rfl rfl (les_refl (curR_noH _)) .nil)) | refine aops_nil ?_ | refine lex_done _ rfl (by kernel_rfl) ?_ | refine aw_ct rfl ?_ | refine aw_cf rfl ?_ | refine aw_block ?_ | with_reducible refine then_n ?_ | refine aw_skip ?_ | refine aw_exit ?_ | (with_reducible first | refine then_x ?_ | refine then_r ?_ | refine block_x ?_ | refine block_n ?_ | refine block_r ?_) | refine aw_ret ?_
      · skip
        have D : anyD c = ((rowD 10 c).1, beC 8 (rowD 10 c).2) := by rw [anyD, b0, b1, b2]; rfl
        repeat' first | refine aw_seq ?_ | refine aw_region ?_ | refine aw_lex [] ?_ | (refine isA ?_; refine do_F rfl ?_) | (refine isL ?_; refine lex_F rfl (by kernel_rfl) rfl rfl ?_) | (refine isLg rfl ?_; refine lex_S rfl (by kernel_rfl) rfl rfl ?_) | exact (by rw [D]; exact finMC1 (cell_is rfl rfl rfl rfl rfl) (le_refl rfl) (.cons rfl rfl rfl rfl (les_refl (curR_noH _)) .nil)) | refine aops_nil ?_ | refine lex_done _ rfl (by kernel_rfl) ?_ | refine aw_ct rfl ?_ | refine aw_cf rfl ?_ | refine aw_block ?_ | with_reducible refine then_n ?_ | refine aw_skip ?_ | refine aw_exit ?_ | (with_reducible first | refine then_x ?_ | refine then_r ?_ | refine block_x ?_ | refine block_n ?_ | refine block_r ?_) | refine aw_ret ?_

def bentD (most : Int) (c : Cur) : List Rw × Cur :=
  cond (decide (beV 14 (rowsD most c).2 = 0)) ((rowsD most c).1 ++ [(anyD (beC 14 (rowsD most c).2)).1], (anyD (beC 14 (rowsD most c).2)).2) ((rowsD most c).1, beC 14 (rowsD most c).2)
theorem bentD_code (most : Int) (c : Cur) : (bentD most c).2.code = c.code := by
  unfold bentD
  cases decide (beV 14 (rowsD most c).2 = 0) <;> simp [beC_code, rowsD_code, anyD_code]
theorem bentD_len {most : Int} (h0 : 0 ≤ most) (h1 : most ≤ 1000) (c : Cur) : ((bentD most c).1.length : Int) ≤ most + 1 := by
  have := rowsD_len h0 h1 c
  unfold bentD
  cases decide (beV 14 (rowsD most c).2 = 0) <;> simp <;> omega
theorem c_bent (most : Int) (m0 : 0 ≤ most) (m1 : most ≤ 1000) (c : Cur) (hl : c.code.length ≤ 1000000000) : Meets Go.Proofs.Try.prog 105 [.ptr 0 0, I most] [curR c] (.sl 1 0 (bentD most c).1.length) [curR (bentD most c).2, rwR (bentD most c).1] true := by
  have h1 : (rowsD most c).2.code.length ≤ 1000000000 := by rw [rowsD_code]; exact hl
  have h2 : (beC 14 (rowsD most c).2).code.length ≤ 1000000000 := by rw [beC_code]; exact h1
  have hrl := rowsD_len m0 m1 c
  refine meets_of [4] Go.Proofs.Try.func105 rfl rfl ?_
  simp only [Go.Proofs.Try.ntmps105, List.length_cons, List.length_nil, Nat.reduceAdd, Nat.reduceSub, List.replicate_succ, List.replicate_zero, List.cons_append, List.nil_append]
  repeat' first | refine aw_seq ?_ | refine aw_region ?_ | refine aw_lex [] ?_ | (refine isA ?_; refine do_F rfl ?_) | (refine isL ?_; refine lex_F rfl (by kernel_rfl) rfl rfl ?_) | (refine isLg rfl ?_; refine lex_S rfl (by kernel_rfl) rfl rfl ?_) | (refine isAc 129 ?_; refine do_R rfl (st_drawL (args := [_]) 1 0 (c_rows most m0 m1 c hl) rfl rfl rfl rfl (flat_noH _ _) rfl rfl rfl) rfl ?_) | (refine isLc 129 rfl ?_; refine lex_R rfl (by kernel_rfl) rfl (st_drawL (args := [_]) 1 0 (c_rows most m0 m1 c hl) rfl rfl rfl rfl (flat_noH _ _) rfl rfl rfl) rfl ?_) | (refine isAc 128 ?_; refine do_R rfl (step_callMs (K := []) (Rs' := [_]) [0] (by decide) rfl (c_once 14 (rowsD most c).2 h1) (.cons rfl rfl rfl (curR_noH _) (curR_noH _) .nil) (.cons (.ptr rfl) (.cons (.same rfl) .nil)) (fun q hq => by cases hq) rfl) rfl ?_) | (refine isLc 128 rfl ?_; refine lex_R rfl (by kernel_rfl) rfl (step_callMs (K := []) (Rs' := [_]) [0] (by decide) rfl (c_once 14 (rowsD most c).2 h1) (.cons rfl rfl rfl (curR_noH _) (curR_noH _) .nil) (.cons (.ptr rfl) (.cons (.same rfl) .nil)) (fun q hq => by cases hq) rfl) rfl ?_) | refine aops_nil ?_ | refine lex_done _ rfl (by kernel_rfl) ?_ | refine aw_ct rfl ?_ | refine aw_cf rfl ?_ | refine aw_block ?_ | with_reducible refine then_n ?_ | refine aw_skip ?_ | refine aw_exit ?_ | (with_reducible first | refine then_x ?_ | refine then_r ?_ | refine block_x ?_ | refine block_n ?_ | refine block_r ?_) | refine aw_ret ?_
  refine aw_cond rfl (fun b0 => ?_) (fun b0 => ?_)
  · skip
    have D : bentD most c = ((rowsD most c).1 ++ [(anyD (beC 14 (rowsD most c).2)).1], (anyD (beC 14 (rowsD most c).2)).2) := by rw [bentD, b0]; rfl
    repeat' first | (refine isA ?_; refine do_R rfl (lit_of rfl rfl rfl rfl rfl) rfl ?_) | refine aw_seq ?_ | refine aw_region ?_ | refine aw_lex [] ?_ | (refine isA ?_; refine do_F rfl ?_) | (refine isL ?_; refine lex_F rfl (by kernel_rfl) rfl rfl ?_) | (refine isLg rfl ?_; refine lex_S rfl (by kernel_rfl) rfl rfl ?_) | (refine isAc 155 ?_; refine do_R rfl (step_callMs (K := []) (Rs' := [_]) [0] (by decide) rfl (c_any (beC 14 (rowsD most c).2) h2) (.cons rfl rfl rfl (curR_noH _) (curR_noH _) .nil) (.cons (.ptr rfl) .nil) (fun q hq => by cases hq) rfl) rfl ?_) | (refine isLc 155 rfl ?_; refine lex_R rfl (by kernel_rfl) rfl (step_callMs (K := []) (Rs' := [_]) [0] (by decide) rfl (c_any (beC 14 (rowsD most c).2) h2) (.cons rfl rfl rfl (curR_noH _) (curR_noH _) .nil) (.cons (.ptr rfl) .nil) (fun q hq => by cases hq) rfl) rfl ?_) | (refine isAp ?_; refine do_R rfl (ap_l (t := rwT) (xs := (rowsD most c).1) (ys := [(anyD (beC 14 (rowsD most c).2)).1]) rfl rfl rfl rfl (.lst _ _) (by simp; omega) rfl) rfl ?_) | (refine isLp rfl ?_; refine lex_R rfl (by kernel_rfl) rfl (ap_l (t := rwT) (xs := (rowsD most c).1) (ys := [(anyD (beC 14 (rowsD most c).2)).1]) rfl rfl rfl rfl (.lst _ _) (by simp; omega) rfl) rfl ?_) | exact (by rw [D]; exact finM 1 [0, 2] fix1 (by decide) rfl (le_sl rfl rfl) (.cons rfl rfl rfl rfl (les_refl (curR_noH _)) (.cons rfl rfl rfl rfl (les_refl (flat_noH _ _)) .nil))) | refine aops_nil ?_ | refine lex_done _ rfl (by kernel_rfl) ?_ | refine aw_ct rfl ?_ | refine aw_cf rfl ?_ | refine aw_block ?_ | with_reducible refine then_n ?_ | refine aw_skip ?_ | refine aw_exit ?_ | (with_reducible first | refine then_x ?_ | refine then_r ?_ | refine block_x ?_ | refine block_n ?_ | refine block_r ?_) | refine aw_ret ?_
  · skip
    have D : bentD most c = ((rowsD most c).1, beC 14 (rowsD most c).2) := by rw [bentD, b0]; rfl
    repeat' first | refine aw_seq ?_ | refine aw_region ?_ | refine aw_lex [] ?_ | (refine isA ?_; refine do_F rfl ?_) | (refine isL ?_; refine lex_F rfl (by kernel_rfl) rfl rfl ?_) | (refine isLg rfl ?_; refine lex_S rfl (by kernel_rfl) rfl rfl ?_) | exact (by rw [D]; exact finM 1 [0, 1] fix1 (by decide) rfl (le_sl rfl rfl) (.cons rfl rfl rfl rfl (les_refl (curR_noH _)) (.cons rfl rfl rfl rfl (les_refl (flat_noH _ _)) .nil))) | refine aops_nil ?_ | refine lex_done _ rfl (by kernel_rfl) ?_ | refine aw_ct rfl ?_ | refine aw_cf rfl ?_ | refine aw_block ?_ | with_reducible refine then_n ?_ | refine aw_skip ?_ | refine aw_exit ?_ | (with_reducible first | refine then_x ?_ | refine then_r ?_ | refine block_x ?_ | refine block_n ?_ | refine block_r ?_) | refine aw_ret ?_
end Go.Proofs.Ytkcicbigpbdjpaa.Ab

/- StA -/
namespace Go.Proofs.Ytkcicbigpbdjpaa.Ab
open Go.RowKit

theorem cmp_le {x y : Rw} : cmpV x y ≤ 0 ↔ x.a < y.a ∨ (x.a = y.a ∧ (x.b < y.b ∨ (x.b = y.b ∧ x.c ≤ y.c))) := by
  unfold cmpV rwN
  simp only [cmpL]
  rcases Int.lt_trichotomy x.a y.a with h | h | h
  · rw [decide_eq_true h]; simp only [cond_true]; constructor
    · intro _; exact Or.inl h
    · intro _; omega
  · rw [decide_eq_false (show ¬ x.a < y.a by omega), decide_eq_false (show ¬ y.a < x.a by omega)]
    simp only [cond_false]
    rcases Int.lt_trichotomy x.b y.b with k | k | k
    · rw [decide_eq_true k]; simp only [cond_true]; omega
    · rw [decide_eq_false (show ¬ x.b < y.b by omega), decide_eq_false (show ¬ y.b < x.b by omega)]
      simp only [cond_false]
      rcases Int.lt_trichotomy x.c y.c with m | m | m
      · rw [decide_eq_true m]; simp only [cond_true]; omega
      · rw [decide_eq_false (show ¬ x.c < y.c by omega), decide_eq_false (show ¬ y.c < x.c by omega)]
        simp only [cond_false]; omega
      · rw [decide_eq_false (show ¬ x.c < y.c by omega), decide_eq_true m]
        simp only [cond_false, cond_true]; omega
    · rw [decide_eq_false (show ¬ x.b < y.b by omega), decide_eq_true k]
      simp only [cond_false, cond_true]; omega
  · rw [decide_eq_false (show ¬ x.a < y.a by omega), decide_eq_true h]
    simp only [cond_false, cond_true]; omega
/-- x stands not behind y. -/
def leW (x y : Rw) : Prop := cmpV x y ≤ 0
theorem leW_refl (x : Rw) : leW x x := cmp_le.2 (by omega)
theorem leW_trans {x y z : Rw} (h : leW x y) (k : leW y z) : leW x z := cmp_le.2 (by have := cmp_le.1 h; have := cmp_le.1 k; omega)
theorem leW_total (x y : Rw) : leW x y ∨ leW y x := by
  rcases Int.lt_or_le 0 (cmpV x y) with h | h
  · right
    have : ¬ cmpV x y ≤ 0 := by omega
    rw [cmp_le] at this
    exact cmp_le.2 (by omega)
  · exact Or.inl h
theorem leW_anti {x y : Rw} (h : leW x y) (k : leW y x) : x = y := by
  have h1 := cmp_le.1 h
  have h2 := cmp_le.1 k
  cases x; cases y
  simp only at h1 h2
  congr <;> omega
theorem leW_not {x y : Rw} (h : ¬ leW x y) : leW y x := (leW_total x y).resolve_left h
theorem leW_gt {x y : Rw} (h : 0 < cmpV x y) : leW y x := leW_not (fun k => by have : cmpV x y ≤ 0 := k; omega)
theorem cmp_neg {x y : Rw} : cmpV x y < 0 ↔ ¬ leW y x := by
  have a1 := @cmp_le x y
  have a2 := @cmp_le y x
  constructor
  · intro h k
    have e := leW_anti (show leW x y from by show cmpV x y ≤ 0; omega) k
    subst e
    have : cmpV x x = 0 := by unfold cmpV rwN; simp [cmpL]
    omega
  · intro h
    have h1 : ¬ cmpV y x ≤ 0 := h
    rcases Int.lt_or_le (cmpV x y) 0 with q | q
    · exact q
    · exfalso
      have hx : leW x y := leW_not h
      have e : cmpV x y = 0 := by have : cmpV x y ≤ 0 := hx; omega
      unfold cmpV rwN at e
      simp only [cmpL] at e
      have h2 := mt a2.2 h1
      have h3 := a1.1 hx
      rcases Int.lt_trichotomy x.a y.a with m | m | m
      · rw [decide_eq_true m] at e; cases e
      · rw [decide_eq_false (show ¬ x.a < y.a by omega), decide_eq_false (show ¬ y.a < x.a by omega)] at e
        simp only [cond_false] at e
        rcases Int.lt_trichotomy x.b y.b with m2 | m2 | m2
        · rw [decide_eq_true m2] at e; cases e
        · rw [decide_eq_false (show ¬ x.b < y.b by omega), decide_eq_false (show ¬ y.b < x.b by omega)] at e
          simp only [cond_false] at e
          have m3 : x.c < y.c := by omega
          rw [decide_eq_true m3] at e; cases e
        · omega
      · omega

/-- Lists in order. -/
def Srt (xs : List Rw) : Prop := xs.Pairwise leW
/-- What lies in order and bears the same is the same. -/
theorem srt_unique : ∀ {xs ys : List Rw}, Srt xs → Srt ys → xs.Perm ys → xs = ys
  | [], ys, _, _, hp => by rw [List.Perm.nil_eq hp]
  | x :: xs, [], _, _, hp => by cases hp.length_eq
  | x :: xs, y :: ys, hx, hy, hp => by
    have hx' := List.pairwise_cons.1 hx
    have hy' := List.pairwise_cons.1 hy
    have e : x = y := by
      have m1 : y ∈ x :: xs := hp.symm.mem_iff.1 (List.mem_cons_self ..)
      have m2 : x ∈ y :: ys := hp.mem_iff.1 (List.mem_cons_self ..)
      rcases List.mem_cons.1 m1 with h | h
      · exact h.symm
      · rcases List.mem_cons.1 m2 with k | k
        · exact k
        · exact leW_anti (hx'.1 y h) (hy'.1 x k)
    subst e
    rw [srt_unique hx'.2 hy'.2 (List.Perm.cons_inv hp)]

/-! ### Sorted by insertion -/
def insV (x : Rw) : List Rw → List Rw
  | [] => [x]
  | y :: ys => cond (decide (cmpV y x ≤ 0)) (y :: insV x ys) (x :: y :: ys)
def srtV (xs : List Rw) : List Rw := xs.foldl (fun o x => insV x o) []
theorem ins_perm (x : Rw) : ∀ ys : List Rw, (insV x ys).Perm (x :: ys)
  | [] => .refl _
  | y :: ys => by
    rw [insV]
    cases decide (cmpV y x ≤ 0) with
    | true => exact ((ins_perm x ys).cons y).trans (.swap _ _ _)
    | false => exact .refl _
theorem ins_srt (x : Rw) : ∀ {ys : List Rw}, Srt ys → Srt (insV x ys)
  | [], _ => List.pairwise_singleton _ _
  | y :: ys, h => by
    have h' := List.pairwise_cons.1 h
    rw [insV]
    cases hd : decide (cmpV y x ≤ 0) with
    | true =>
      refine List.pairwise_cons.2 ⟨fun z hz => ?_, ins_srt x h'.2⟩
      rcases List.mem_cons.1 ((ins_perm x ys).mem_iff.1 hz) with rfl | hz
      · exact (show cmpV y _ ≤ 0 from of_decide_eq_true hd)
      · exact h'.1 z hz
    | false =>
      have hle : leW x y := leW_not (show ¬ cmpV y x ≤ 0 from of_decide_eq_false hd)
      refine List.pairwise_cons.2 ⟨fun z hz => ?_, h⟩
      rcases List.mem_cons.1 hz with rfl | hz
      · exact hle
      · exact leW_trans hle (h'.1 z hz)
theorem srtV_snoc (xs : List Rw) (x : Rw) : srtV (xs ++ [x]) = insV x (srtV xs) := by simp [srtV]
theorem fold_ok : ∀ (xs o : List Rw), Srt o → Srt (xs.foldl (fun o x => insV x o) o) ∧ (xs.foldl (fun o x => insV x o) o).Perm (o ++ xs)
  | [], o, h => ⟨h, by simp⟩
  | x :: xs, o, h => by
    obtain ⟨q1, q2⟩ := fold_ok xs (insV x o) (ins_srt x h)
    refine ⟨q1, q2.trans ?_⟩
    refine ((ins_perm x o).append_right xs).trans ?_
    exact List.perm_middle.symm
theorem srtV_srt (xs : List Rw) : Srt (srtV xs) := (fold_ok xs [] List.Pairwise.nil).1
theorem srtV_perm (xs : List Rw) : (srtV xs).Perm xs := by
  have h := (fold_ok xs [] List.Pairwise.nil).2
  rw [List.nil_append] at h
  exact h
theorem srtV_of {xs ys : List Rw} (h : Srt ys) (hp : ys.Perm xs) : ys = srtV xs := srt_unique h (srtV_srt xs) (hp.trans (srtV_perm xs).symm)
theorem srtV_len (xs : List Rw) : (srtV xs).length = xs.length := (srtV_perm xs).length_eq
end Go.Proofs.Ytkcicbigpbdjpaa.Ab

/- StB -/
namespace Go.Proofs.Ytkcicbigpbdjpaa.Ab
open Go.RowKit

theorem srt_le {xs : List Rw} (h : Srt xs) {i j : Nat} {x y : Rw} (hij : i ≤ j) (hx : xs[i]? = some x) (hy : xs[j]? = some y) : leW x y := by
  rcases Nat.lt_or_eq_of_le hij with hlt | rfl
  · obtain ⟨h1, rfl⟩ := List.getElem?_eq_some_iff.1 hx
    obtain ⟨h2, rfl⟩ := List.getElem?_eq_some_iff.1 hy
    exact List.pairwise_iff_getElem.1 h i j h1 h2 hlt
  · rw [hx] at hy
    cases hy
    exact leW_refl _
theorem ins_at {out : List Rw} {x : Rw} {k : Nat} (hs : Srt out) (hk : k ≤ out.length) (hB : ∀ j z, k ≤ j → out[j]? = some z → ¬ leW z x) (hA : ∀ z, 0 < k → out[k - 1]? = some z → leW z x) : out.take k ++ x :: out.drop k = insV x out := by
  have hA' : ∀ z ∈ out.take k, leW z x := fun z hz => by
    obtain ⟨j, hj⟩ := List.getElem?_of_mem hz
    have hlt : j < k := by
      have := (List.getElem?_eq_some_iff.1 hj).1
      simp at this
      omega
    rw [List.getElem?_take_of_lt hlt] at hj
    obtain ⟨y, hy⟩ : ∃ y, out[k - 1]? = some y := ⟨_, List.getElem?_eq_getElem (by omega)⟩
    exact leW_trans (srt_le hs (show j ≤ k - 1 by omega) hj hy) (hA y (by omega) hy)
  have hB' : ∀ z ∈ out.drop k, leW x z := fun z hz => by
    obtain ⟨j, hj⟩ := List.getElem?_of_mem hz
    rw [List.getElem?_drop] at hj
    exact leW_not (hB (k + j) z (by omega) hj)
  refine srt_unique ?_ (ins_srt x hs) ?_
  · have hs' : Srt (out.take k ++ out.drop k) := by rw [List.take_append_drop]; exact hs
    obtain ⟨q1, q2, q3⟩ := List.pairwise_append.1 hs'
    refine List.pairwise_append.2 ⟨q1, List.pairwise_cons.2 ⟨hB', q2⟩, fun a ha c hc => ?_⟩
    rcases List.mem_cons.1 hc with rfl | hc
    · exact hA' a ha
    · exact q3 a ha c hc
  · refine List.perm_middle.trans ?_
    rw [List.take_append_drop]
    exact (ins_perm x out).symm

theorem src_sub {H : List Reg} {h k off m : Nat} {xs : List Rw} (hH : H[h]? = some (rwR xs)) (hk : k ≤ xs.length) (ho : off = k) (hm : m = xs.length - k) : Src H (.sl h off m) (xs.drop k).length (rwT.flat (xs.drop k)) := by
  subst ho hm
  have q := Src.sl (H := H) (h := h) (off := off) (m := xs.length - off) hH (Nat.zero_le _) (by show (off + (xs.length - off)) * 3 ≤ (rwT.flat xs).length; rw [flat_length]; show _ ≤ xs.length * 3; omega)
  have e : ((rwR xs).cells.drop (off * (rwR xs).esz)).take ((xs.length - off) * (rwR xs).esz) = rwT.flat (xs.drop off) := drop_l xs off
  rw [e] at q
  rw [List.length_drop]
  exact q
theorem src_pre {H : List Reg} {h k off m : Nat} {xs : List Rw} (hH : H[h]? = some (rwR xs)) (hk : k ≤ xs.length) (ho : off = 0) (hm : m = k) : Src H (.sl h off m) (xs.take k).length (rwT.flat (xs.take k)) := by
  subst ho hm
  have q := Src.sl (H := H) (h := h) (off := 0) (m := m) hH (Nat.zero_le _) (by show (0 + m) * 3 ≤ (rwT.flat xs).length; rw [flat_length]; show _ ≤ xs.length * 3; omega)
  have e : ((rwR xs).cells.drop (0 * (rwR xs).esz)).take (m * (rwR xs).esz) = rwT.flat (xs.take m) := take_l xs m
  rw [e] at q
  rw [List.length_take, Nat.min_eq_left hk]
  exact q

theorem src_all {H : List Reg} {h : Nat} {xs : List Rw} (hH : H[h]? = some (rwR xs)) : Src H (.sl h 0 xs.length) xs.length (rwT.flat xs) := by
  have q := src_pre (k := xs.length) hH (Nat.le_refl _) rfl rfl
  rw [List.take_length] at q
  exact q

theorem c_ssort (xs : List Rw) (hl : xs.length ≤ 100000000) : Meets Go.Proofs.Try.prog 60 [rwL xs] [] (.sl 0 0 (srtV xs).length) [rwR (srtV xs)] false := by
  refine meets_of [2] Go.Proofs.Try.func60 rfl rfl ?_
  simp only [Go.Proofs.Try.ntmps60, List.length_cons, List.length_nil, Nat.reduceAdd, Nat.reduceSub, List.replicate_succ, List.replicate_zero, List.cons_append, List.nil_append]
  repeat' first | refine aw_seq ?_ | refine aw_region ?_ | refine aw_lex [] ?_ | (refine isA ?_; refine do_F rfl ?_) | (refine isL ?_; refine lex_F rfl (by kernel_rfl) rfl rfl ?_) | (refine isLg rfl ?_; refine lex_S rfl (by kernel_rfl) rfl rfl ?_) | refine aops_nil ?_ | refine lex_done _ rfl (by kernel_rfl) ?_ | refine aw_ct rfl ?_ | refine aw_cf rfl ?_ | refine aw_block ?_ | with_reducible refine then_n ?_ | refine aw_skip ?_ | refine aw_exit ?_ | (with_reducible first | refine then_x ?_ | refine then_r ?_ | refine block_x ?_ | refine block_n ?_ | refine block_r ?_) | refine aw_ret ?_
  refine aw_loop (α := { i : Nat // i ≤ xs.length }) (fun i => ⟨[rwL xs, .any, .any, .sl 0 0 (srtV (xs.take i.1)).length, I i.1, .any, .any, .any, .any, .any, .any, .any, .any, .any, .any, .any, .any, .any, .any, .any, .any, .any, .any, .any, .any, .any, .any, .any, .any, .any, .any, .any, .any, .any, .any, .any, .any, .any, .any, .any, .any, .any, .any, .any, .any, .any, .any, .any, .any, .any], [rwR (srtV (xs.take i.1))], 0⟩) (fun i => xs.length - i.1) ⟨0, Nat.zero_le _⟩ ?_ ?_
  · exact sub0 [0] rfl rfl (by decide) (.cons rfl rfl rfl rfl (les_refl (flat_noH _ _)) .nil) (by repeat' first | exact les_nil | refine les_cons ?_ ?_ | exact le_any | exact le_refl rfl | exact le_sl rfl rfl | exact le_ptr rfl)
  · rintro ⟨i, hi⟩
    repeat' first | refine aw_seq ?_ | refine aw_region ?_ | refine aw_lex [] ?_ | (refine isA ?_; refine do_F rfl ?_) | (refine isL ?_; refine lex_F rfl (by kernel_rfl) rfl rfl ?_) | (refine isLg rfl ?_; refine lex_S rfl (by kernel_rfl) rfl rfl ?_) | refine aops_nil ?_ | refine lex_done _ rfl (by kernel_rfl) ?_ | refine aw_ct rfl ?_ | refine aw_cf rfl ?_ | refine aw_block ?_ | with_reducible refine then_n ?_ | refine aw_skip ?_ | refine aw_exit ?_ | (with_reducible first | refine then_x ?_ | refine then_r ?_ | refine block_x ?_ | refine block_n ?_ | refine block_r ?_) | refine aw_ret ?_
    refine aw_cond rfl (fun h => ?_) (fun h => ?_)
    · have hlt : i < xs.length := by simpa using h
      obtain ⟨x, hx⟩ : ∃ z, xs[i]? = some z := ⟨_, List.getElem?_eq_getElem hlt⟩
      have e1 : srtV (xs.take (i + 1)) = insV x (srtV (xs.take i)) := by rw [List.take_add_one, hx]; exact srtV_snoc _ _
      have hso := srtV_srt (xs.take i)
      have hol : (srtV (xs.take i)).length = i := by rw [srtV_len]; simp; omega
      generalize srtV (xs.take i) = out at e1 hso hol
      repeat' first | refine aw_seq ?_ | refine aw_region ?_ | refine aw_lex [] ?_ | (refine isA ?_; refine do_F rfl ?_) | (refine isL ?_; refine lex_F rfl (by kernel_rfl) rfl rfl ?_) | (refine isLg rfl ?_; refine lex_S rfl (by kernel_rfl) rfl rfl ?_) | refine aops_nil ?_ | refine lex_done _ rfl (by kernel_rfl) ?_ | refine aw_ct rfl ?_ | refine aw_cf rfl ?_ | refine aw_block ?_ | with_reducible refine then_n ?_ | refine aw_skip ?_ | refine aw_exit ?_ | (with_reducible first | refine then_x ?_ | refine then_r ?_ | refine block_x ?_ | refine block_n ?_ | refine block_r ?_) | refine aw_ret ?_
      refine aw_loop (α := { k : Nat // k ≤ out.length ∧ ∀ j z, k ≤ j → out[j]? = some z → ¬ leW z x }) (fun k => ⟨[rwL xs, .any, .any, .sl 0 0 out.length, I i, I k.1, .any, .any, .any, .any, .any, .any, .any, .any, .any, .any, .any, .any, .any, .any, .any, .any, .any, .any, .any, .any, .any, .any, .any, .any, .any, .any, .any, .any, .any, .any, .any, .any, .any, .any, .any, .any, .any, .any, .any, .any, .any, .any, .any, .any], [rwR out], 0⟩) (fun k => k.1) ⟨out.length, Nat.le_refl _, fun j z hj hz => absurd (List.getElem?_eq_some_iff.1 hz).1 (by omega)⟩ ?_ ?_
      · exact sub0 [0] rfl rfl (by decide) (.cons rfl rfl rfl rfl (les_refl (flat_noH _ _)) .nil) (by repeat' first | exact les_nil | refine les_cons ?_ ?_ | exact le_any | exact le_refl rfl | exact le_sl rfl rfl | exact le_ptr rfl)
      · rintro ⟨k, hk, hB⟩
        repeat' first | refine aw_seq ?_ | refine aw_region ?_ | refine aw_lex [] ?_ | (refine isA ?_; refine do_F rfl ?_) | (refine isL ?_; refine lex_F rfl (by kernel_rfl) rfl rfl ?_) | (refine isLg rfl ?_; refine lex_S rfl (by kernel_rfl) rfl rfl ?_) | refine aops_nil ?_ | refine lex_done _ rfl (by kernel_rfl) ?_ | refine aw_ct rfl ?_ | refine aw_cf rfl ?_ | refine aw_block ?_ | with_reducible refine then_n ?_ | refine aw_skip ?_ | refine aw_exit ?_ | (with_reducible first | refine then_x ?_ | refine then_r ?_ | refine block_x ?_ | refine block_n ?_ | refine block_r ?_) | refine aw_ret ?_
        refine lex_br rfl rfl rfl rfl (fun p1 => ?_) (fun p1 => ?_)
        · have q1 : 0 < k := by have := of_decide_eq_true p1; simp only at this; omega
          obtain ⟨y, hy⟩ : ∃ z, out[k - 1]? = some z := ⟨_, List.getElem?_eq_getElem (by omega)⟩
          have ew : IntKind.i64.wrap ((k : Int) - 1) = ((k - 1 : Nat) : Int) := by rw [IntKind.wrap_i64]; omega
          repeat' first | refine aw_seq ?_ | refine aw_region ?_ | refine aw_lex [] ?_ | (refine isA ?_; refine do_F rfl ?_) | (refine isL ?_; refine lex_F rfl (by kernel_rfl) rfl rfl ?_) | (refine isLg rfl ?_; refine lex_S rfl (by kernel_rfl) rfl rfl ?_) | (refine isAi (x := .tmp 24) ?_; refine do_R rfl (ia_l (t := rwT) (z := x) rfl rfl rfl rfl (Int.natCast_nonneg i) hx) rfl ?_) | (refine isLi (x := .tmp 24) rfl ?_; refine lex_R rfl (by kernel_rfl) rfl (ia_l (t := rwT) (z := x) rfl rfl rfl rfl (Int.natCast_nonneg i) hx) rfl ?_) | (refine isAi (x := .tmp 19) ?_; refine do_R rfl (ia_s (t := rwT) (xs := out) rfl rfl rfl rfl rfl (by rw [ew]; exact Int.natCast_nonneg _) (by rw [ew]; omega)) rfl ?_) | (refine isLi (x := .tmp 19) rfl ?_; refine lex_R rfl (by kernel_rfl) rfl (ia_s (t := rwT) (xs := out) rfl rfl rfl rfl rfl (by rw [ew]; exact Int.natCast_nonneg _) (by rw [ew]; omega)) rfl ?_) | (refine isAl (x := .tmp 22) ?_; refine do_R rfl (ld_a (T := rwT) (i := k - 1) (xs := out) (z := y) rfl (by simp only [ew]; rfl) rfl hy) rfl ?_) | (refine isLl (x := .tmp 22) rfl ?_; refine lex_R rfl (by kernel_rfl) rfl (ld_a (T := rwT) (i := k - 1) (xs := out) (z := y) rfl (by simp only [ew]; rfl) rfl hy) rfl ?_) | (refine isAc 116 ?_; refine do_R rfl (st_call rfl (c_scmp y x) (.cons (.same rfl) (.cons (.same rfl) .nil)) rfl) rfl ?_) | (refine isLc 116 rfl ?_; refine lex_R rfl (by kernel_rfl) rfl (st_call rfl (c_scmp y x) (.cons (.same rfl) (.cons (.same rfl) .nil)) rfl) rfl ?_) | refine aops_nil ?_ | refine lex_done _ rfl (by kernel_rfl) ?_ | refine aw_ct rfl ?_ | refine aw_cf rfl ?_ | refine aw_block ?_ | with_reducible refine then_n ?_ | refine aw_skip ?_ | refine aw_exit ?_ | (with_reducible first | refine then_x ?_ | refine then_r ?_ | refine block_x ?_ | refine block_n ?_ | refine block_r ?_) | refine aw_ret ?_
          refine aw_cond rfl (fun p2 => ?_) (fun p2 => ?_)
          · have q2 := of_decide_eq_true p2
            repeat' first | refine aw_seq ?_ | refine aw_region ?_ | refine aw_lex [] ?_ | (refine isA ?_; refine do_F rfl ?_) | (refine isL ?_; refine lex_F rfl (by kernel_rfl) rfl rfl ?_) | (refine isLg rfl ?_; refine lex_S rfl (by kernel_rfl) rfl rfl ?_) | refine aops_nil ?_ | refine lex_done _ rfl (by kernel_rfl) ?_ | refine aw_ct rfl ?_ | refine aw_cf rfl ?_ | refine aw_block ?_ | with_reducible refine then_n ?_ | refine aw_skip ?_ | refine aw_exit ?_ | (with_reducible first | refine then_x ?_ | refine then_r ?_ | refine block_x ?_ | refine block_n ?_ | refine block_r ?_) | refine aw_ret ?_
            refine ⟨⟨k - 1, by omega, fun j z hj hz => ?_⟩, by simp only; omega, ?_⟩
            · rcases Nat.lt_or_ge j k with hjk | hjk
              · obtain rfl : j = k - 1 := by omega
                rw [hy] at hz
                cases hz
                intro hle
                have : cmpV y x ≤ 0 := hle
                omega
              · exact hB j z hjk hz
            · exact sub0 [0] rfl rfl (by decide) (.cons rfl rfl rfl rfl (les_refl (flat_noH _ _)) .nil) (by
                repeat' first | exact les_nil | refine les_cons ?_ ?_ | exact le_any | exact le_refl rfl | exact le_sl rfl rfl | exact le_k (congrArg _ ew.symm))
          · have q2 := of_decide_eq_false p2
            have hfin := ins_at hso hk hB (fun z _ hz => by rw [hy] at hz; cases hz; show cmpV y x ≤ 0; omega)
            have hkl : k ≤ i := by omega
            repeat' first | refine aw_seq ?_ | refine aw_region ?_ | (refine isA ?_; refine do_F rfl ?_) | (refine isL ?_; refine lex_F rfl (by kernel_rfl) rfl rfl ?_) | (refine isLg rfl ?_; refine lex_S rfl (by kernel_rfl) rfl rfl ?_) | refine aops_nil ?_ | refine lex_done _ rfl (by kernel_rfl) ?_ | refine aw_ct rfl ?_ | refine aw_cf rfl ?_ | refine aw_block ?_ | with_reducible refine then_n ?_ | refine aw_skip ?_ | refine aw_exit ?_ | (with_reducible first | refine then_x ?_ | refine then_r ?_ | refine block_x ?_ | refine block_n ?_ | refine block_r ?_) | refine aw_ret ?_
            refine aw_perG (fun H => H[0]? = some (rwR out)) 10 rfl ?_
            refine perG_P 5 rfl rfl (by kernel_rfl) rfl (fun _ => rfl) rfl ?_
            refine perG_P 6 rfl rfl (by kernel_rfl) rfl (fun _ => rfl) rfl ?_
            refine perG_R 7 rfl rfl (by kernel_rfl) rfl (fun H hG => step_slice_sl (l := (k : Int)) (h := (out.length : Int)) rfl rfl hG (Nat.zero_le _) rfl (.yes _ rfl) (.no _) (by omega) (by omega) (by omega)) rfl ?_
            refine perG_P 0 rfl rfl (by kernel_rfl) rfl (fun _ => rfl) rfl ?_
            refine perG_P 1 rfl rfl (by kernel_rfl) rfl (fun _ => rfl) rfl ?_
            refine perG_R 2 rfl rfl (by kernel_rfl) rfl (fun _ _ => ia_l (t := rwT) (z := x) rfl rfl rfl rfl (Int.natCast_nonneg i) hx) rfl ?_
            refine perG_P 3 rfl rfl (by kernel_rfl) rfl (fun _ => rfl) rfl ?_
            refine perG_1 4 (by kernel_rfl) ?_
            refine br_WF rfl rfl rfl rfl rfl ?_
            refine perG_1 8 (by kernel_rfl) ?_
            refine br_W rfl rfl (ap_l (t := rwT) (xs := [x]) (ys := out.drop k) rfl rfl rfl rfl (src_sub rfl hk (by simp) (by simp)) (by simp; omega) rfl) rfl rfl ?_
            refine perG_P 9 rfl rfl (by kernel_rfl) rfl (fun _ => rfl) rfl ?_
            refine perG_done (by kernel_rfl) ?_
            repeat' first | refine aw_seq ?_ | refine aw_region ?_ | refine aw_lex [] ?_ | (refine isA ?_; refine do_F rfl ?_) | (refine isL ?_; refine lex_F rfl (by kernel_rfl) rfl rfl ?_) | (refine isLg rfl ?_; refine lex_S rfl (by kernel_rfl) rfl rfl ?_) | (refine isAx ?_; refine do_R rfl (step_slice_sl (l := (0 : Int)) (h := (k : Int)) rfl rfl rfl (Nat.zero_le _) rfl (.no 0) (.yes _ rfl) (Int.le_refl 0) (Int.natCast_nonneg k) (by omega)) rfl ?_) | (refine isLx rfl ?_; refine lex_R rfl (by kernel_rfl) rfl (step_slice_sl (l := (0 : Int)) (h := (k : Int)) rfl rfl rfl (Nat.zero_le _) rfl (.no 0) (.yes _ rfl) (Int.le_refl 0) (Int.natCast_nonneg k) (by omega)) rfl ?_) | (refine isAp ?_; refine do_R rfl (ap_l (t := rwT) (xs := []) (ys := out.take k) rfl rfl rfl rfl (src_pre rfl hk (by simp) (by simp)) (by simp; omega) rfl) rfl ?_) | (refine isLp rfl ?_; refine lex_R rfl (by kernel_rfl) rfl (ap_l (t := rwT) (xs := []) (ys := out.take k) rfl rfl rfl rfl (src_pre rfl hk (by simp) (by simp)) (by simp; omega) rfl) rfl ?_) | (refine isAp ?_; refine do_R rfl (ap_l (t := rwT) (xs := [] ++ out.take k) (ys := [x] ++ out.drop k) rfl rfl rfl rfl (src_all rfl) (by simp; omega) rfl) rfl ?_) | (refine isLp rfl ?_; refine lex_R rfl (by kernel_rfl) rfl (ap_l (t := rwT) (xs := [] ++ out.take k) (ys := [x] ++ out.drop k) rfl rfl rfl rfl (src_all rfl) (by simp; omega) rfl) rfl ?_) | refine aops_nil ?_ | refine lex_done _ rfl (by kernel_rfl) ?_ | refine aw_ct rfl ?_ | refine aw_cf rfl ?_ | refine aw_block ?_ | with_reducible refine then_n ?_ | refine aw_skip ?_ | refine aw_exit ?_ | (with_reducible first | refine then_x ?_ | refine then_r ?_ | refine block_x ?_ | refine block_n ?_ | refine block_r ?_) | refine aw_ret ?_
            refine ⟨⟨i + 1, hlt⟩, by simp only; omega, ?_⟩
            exact sub0 [5] rfl rfl (by decide) (.cons rfl rfl rfl rfl (les_eq (show rwT.flat ([] ++ out.take k ++ ([x] ++ out.drop k)) = rwT.flat (srtV (xs.take (i + 1))) by rw [e1, ← hfin]; rfl) (flat_noH _ _)) .nil) (by
              repeat' first | exact les_nil | refine les_cons ?_ ?_ | exact le_any | exact le_refl rfl | exact le_sl rfl (show ([] ++ out.take k ++ ([x] ++ out.drop k)).length = (srtV (xs.take (i + 1))).length by rw [e1, ← hfin]; rfl) | exact le_sl rfl (show (srtV (xs.take (i + 1))).length = ([] ++ out.take k ++ ([x] ++ out.drop k)).length by rw [e1, ← hfin]; rfl) | exact le_i hlt (by omega))
        · have q1 : k = 0 := by have := of_decide_eq_false p1; simp only at this; omega
          have hfin := ins_at hso hk hB (fun z h0 hz => by omega)
          have hkl : k ≤ i := by omega
          repeat' first | refine aw_seq ?_ | refine aw_region ?_ | (refine isA ?_; refine do_F rfl ?_) | (refine isL ?_; refine lex_F rfl (by kernel_rfl) rfl rfl ?_) | (refine isLg rfl ?_; refine lex_S rfl (by kernel_rfl) rfl rfl ?_) | refine aops_nil ?_ | refine lex_done _ rfl (by kernel_rfl) ?_ | refine aw_ct rfl ?_ | refine aw_cf rfl ?_ | refine aw_block ?_ | with_reducible refine then_n ?_ | refine aw_skip ?_ | refine aw_exit ?_ | (with_reducible first | refine then_x ?_ | refine then_r ?_ | refine block_x ?_ | refine block_n ?_ | refine block_r ?_) | refine aw_ret ?_
          refine aw_perG (fun H => H[0]? = some (rwR out)) 10 rfl ?_
          refine perG_P 5 rfl rfl (by kernel_rfl) rfl (fun _ => rfl) rfl ?_
          refine perG_P 6 rfl rfl (by kernel_rfl) rfl (fun _ => rfl) rfl ?_
          refine perG_R 7 rfl rfl (by kernel_rfl) rfl (fun H hG => step_slice_sl (l := (k : Int)) (h := (out.length : Int)) rfl rfl hG (Nat.zero_le _) rfl (.yes _ rfl) (.no _) (by omega) (by omega) (by omega)) rfl ?_
          refine perG_P 0 rfl rfl (by kernel_rfl) rfl (fun _ => rfl) rfl ?_
          refine perG_P 1 rfl rfl (by kernel_rfl) rfl (fun _ => rfl) rfl ?_
          refine perG_R 2 rfl rfl (by kernel_rfl) rfl (fun _ _ => ia_l (t := rwT) (z := x) rfl rfl rfl rfl (Int.natCast_nonneg i) hx) rfl ?_
          refine perG_P 3 rfl rfl (by kernel_rfl) rfl (fun _ => rfl) rfl ?_
          refine perG_1 4 (by kernel_rfl) ?_
          refine br_WF rfl rfl rfl rfl rfl ?_
          refine perG_1 8 (by kernel_rfl) ?_
          refine br_W rfl rfl (ap_l (t := rwT) (xs := [x]) (ys := out.drop k) rfl rfl rfl rfl (src_sub rfl hk (by simp) (by simp)) (by simp; omega) rfl) rfl rfl ?_
          refine perG_P 9 rfl rfl (by kernel_rfl) rfl (fun _ => rfl) rfl ?_
          refine perG_done (by kernel_rfl) ?_
          repeat' first | refine aw_seq ?_ | refine aw_region ?_ | refine aw_lex [] ?_ | (refine isA ?_; refine do_F rfl ?_) | (refine isL ?_; refine lex_F rfl (by kernel_rfl) rfl rfl ?_) | (refine isLg rfl ?_; refine lex_S rfl (by kernel_rfl) rfl rfl ?_) | (refine isAx ?_; refine do_R rfl (step_slice_sl (l := (0 : Int)) (h := (k : Int)) rfl rfl rfl (Nat.zero_le _) rfl (.no 0) (.yes _ rfl) (Int.le_refl 0) (Int.natCast_nonneg k) (by omega)) rfl ?_) | (refine isLx rfl ?_; refine lex_R rfl (by kernel_rfl) rfl (step_slice_sl (l := (0 : Int)) (h := (k : Int)) rfl rfl rfl (Nat.zero_le _) rfl (.no 0) (.yes _ rfl) (Int.le_refl 0) (Int.natCast_nonneg k) (by omega)) rfl ?_) | (refine isAp ?_; refine do_R rfl (ap_l (t := rwT) (xs := []) (ys := out.take k) rfl rfl rfl rfl (src_pre rfl hk (by simp) (by simp)) (by simp; omega) rfl) rfl ?_) | (refine isLp rfl ?_; refine lex_R rfl (by kernel_rfl) rfl (ap_l (t := rwT) (xs := []) (ys := out.take k) rfl rfl rfl rfl (src_pre rfl hk (by simp) (by simp)) (by simp; omega) rfl) rfl ?_) | (refine isAp ?_; refine do_R rfl (ap_l (t := rwT) (xs := [] ++ out.take k) (ys := [x] ++ out.drop k) rfl rfl rfl rfl (src_all rfl) (by simp; omega) rfl) rfl ?_) | (refine isLp rfl ?_; refine lex_R rfl (by kernel_rfl) rfl (ap_l (t := rwT) (xs := [] ++ out.take k) (ys := [x] ++ out.drop k) rfl rfl rfl rfl (src_all rfl) (by simp; omega) rfl) rfl ?_) | refine aops_nil ?_ | refine lex_done _ rfl (by kernel_rfl) ?_ | refine aw_ct rfl ?_ | refine aw_cf rfl ?_ | refine aw_block ?_ | with_reducible refine then_n ?_ | refine aw_skip ?_ | refine aw_exit ?_ | (with_reducible first | refine then_x ?_ | refine then_r ?_ | refine block_x ?_ | refine block_n ?_ | refine block_r ?_) | refine aw_ret ?_
          refine ⟨⟨i + 1, hlt⟩, by simp only; omega, ?_⟩
          exact sub0 [5] rfl rfl (by decide) (.cons rfl rfl rfl rfl (les_eq (show rwT.flat ([] ++ out.take k ++ ([x] ++ out.drop k)) = rwT.flat (srtV (xs.take (i + 1))) by rw [e1, ← hfin]; rfl) (flat_noH _ _)) .nil) (by
            repeat' first | exact les_nil | refine les_cons ?_ ?_ | exact le_any | exact le_refl rfl | exact le_sl rfl (show ([] ++ out.take k ++ ([x] ++ out.drop k)).length = (srtV (xs.take (i + 1))).length by rw [e1, ← hfin]; rfl) | exact le_sl rfl (show (srtV (xs.take (i + 1))).length = ([] ++ out.take k ++ ([x] ++ out.drop k)).length by rw [e1, ← hfin]; rfl) | exact le_i hlt (by omega))
    · have hge : i = xs.length := by
        have : ¬ ((i : Int) < xs.length) := by simpa using h
        omega
      subst hge
      have e2 : srtV (xs.take xs.length) = srtV xs := by rw [List.take_length]
      repeat' first | refine aw_seq ?_ | refine aw_region ?_ | refine aw_lex [] ?_ | (refine isA ?_; refine do_F rfl ?_) | (refine isL ?_; refine lex_F rfl (by kernel_rfl) rfl rfl ?_) | (refine isLg rfl ?_; refine lex_S rfl (by kernel_rfl) rfl rfl ?_) | exact finL (ty := rwT) rfl rfl rfl rfl (by simp only [e2]) e2 (flat_rw _) | refine aops_nil ?_ | refine lex_done _ rfl (by kernel_rfl) ?_ | refine aw_ct rfl ?_ | refine aw_cf rfl ?_ | refine aw_block ?_ | with_reducible refine then_n ?_ | refine aw_skip ?_ | refine aw_exit ?_ | (with_reducible first | refine then_x ?_ | refine then_r ?_ | refine block_x ?_ | refine block_n ?_ | refine block_r ?_) | refine aw_ret ?_
end Go.Proofs.Ytkcicbigpbdjpaa.Ab

/- DrwQ -/
namespace Go.Proofs.Ytkcicbigpbdjpaa.Ab
open Go.RowKit

theorem frz1 {P : Program} {f : FuncId} {cargs : List V} {c c' : Cur} {R : Reg} {r r' : V} {al : Bool} (h : Meets P f cargs [curR c] r [curR c', R] al) (hp : Pur true [deadR (curR c'), R] r r') : Meets P f cargs [curR c] r' [curR c'] true :=
  Meets.frozenK (Rs := [curR c]) (Rs' := [curR c']) (K := [R]) h rfl (fun q hq => by simp at hq; subst hq; exact curR_noH _) (fun i q q' h1 h2 h3 => by
    cases i with
    | zero => simp at h2; subst h2; rfl
    | succ i => simp at h2) hp
theorem c_rowsZ (most : Int) (m0 : 0 ≤ most) (m1 : most ≤ 1000) (c : Cur) (hl : c.code.length ≤ 1000000000) : Meets Go.Proofs.Try.prog 129 [.ptr 0 0, I most] [curR c] (rwL (rowsD most c).1) [curR (rowsD most c).2] true :=
  frz1 (c_rows most m0 m1 c hl) (pur_row rfl)
theorem c_bentZ (most : Int) (m0 : 0 ≤ most) (m1 : most ≤ 1000) (c : Cur) (hl : c.code.length ≤ 1000000000) : Meets Go.Proofs.Try.prog 105 [.ptr 0 0, I most] [curR c] (rwL (bentD most c).1) [curR (bentD most c).2] true :=
  frz1 (c_bent most m0 m1 c hl) (pur_row rfl)

/-! ### Runs -/
abbrev rnR (rs : List Rn) : Reg := regOf rnT 39 rs
def turnR (p : List Rn × Cur) : List Rn × Cur :=
  cond (decide (0 < ((srtV (rowsD 4 p.2).1).length : Int))) (p.1 ++ [srtV (rowsD 4 p.2).1], (rowsD 4 p.2).2)
    (cond (decide (beV 20 (rowsD 4 p.2).2 = 0)) (p.1 ++ [srtV (rowsD 4 p.2).1], beC 20 (rowsD 4 p.2).2) (p.1, beC 20 (rowsD 4 p.2).2))
def turnsR (p : List Rn × Cur) : Nat → List Rn × Cur
  | 0 => p
  | i + 1 => turnR (turnsR p i)
def lastR (p : List Rn × Cur) : List Rn × Cur :=
  cond (decide (0 < (p.1.length : Int))) (cond (decide (beV 12 p.2 = 0)) (p.1.set 0 (rowsD 4 (beC 12 p.2)).1, (rowsD 4 (beC 12 p.2)).2) (p.1, beC 12 p.2)) p
def runsD (c : Cur) : List Rn × Cur := lastR (turnsR ([], beC 5 c) (beV 5 c).toNat)
theorem turnR_code (p : List Rn × Cur) : (turnR p).2.code = p.2.code := by
  unfold turnR
  cases decide (0 < ((srtV (rowsD 4 p.2).1).length : Int)) <;> cases decide (beV 20 (rowsD 4 p.2).2 = 0) <;> simp [beC_code, rowsD_code]
theorem turnsR_code (p : List Rn × Cur) : ∀ i, (turnsR p i).2.code = p.2.code
  | 0 => rfl
  | i + 1 => by rw [turnsR, turnR_code, turnsR_code p i]
structure Small (k : Nat) (rs : List Rn) : Prop where
  len : rs.length ≤ k
  row : ∀ x ∈ rs, x.length ≤ 4
theorem rows4 (c : Cur) : (rowsD 4 c).1.length ≤ 4 := by
  have := rowsD_len (most := 4) (by decide) (by decide) c
  omega
theorem Small.push {k : Nat} {rs : List Rn} {x : Rn} (h : Small k rs) (hx : x.length ≤ 4) : Small (k + 1) (rs ++ [x]) := ⟨by have := h.len; simp; omega, fun y hy => by
  rcases List.mem_append.1 hy with hy | hy
  · exact h.row y hy
  · simp at hy; subst hy; exact hx⟩
theorem Small.more {k : Nat} {rs : List Rn} (h : Small k rs) : Small (k + 1) rs := ⟨by have := h.len; omega, h.row⟩
theorem turnR_small {k : Nat} {p : List Rn × Cur} (h : Small k p.1) : Small (k + 1) (turnR p).1 := by
  have hs : (srtV (rowsD 4 p.2).1).length ≤ 4 := by rw [srtV_len]; exact rows4 _
  unfold turnR
  cases decide (0 < ((srtV (rowsD 4 p.2).1).length : Int)) <;> cases decide (beV 20 (rowsD 4 p.2).2 = 0)
  · exact h.more
  · exact h.push hs
  · exact h.push hs
  · exact h.push hs
theorem turnsR_small (c : Cur) : ∀ i, Small i (turnsR ([], c) i).1
  | 0 => ⟨Nat.le_refl _, fun x hx => by cases hx⟩
  | i + 1 => turnR_small (turnsR_small c i)
theorem lastR_small {k : Nat} {p : List Rn × Cur} (h : Small k p.1) : Small k (lastR p).1 := by
  unfold lastR
  cases decide (0 < (p.1.length : Int))
  · exact h
  · cases decide (beV 12 p.2 = 0)
    · exact h
    · refine ⟨by simp only [cond_true, List.length_set]; exact h.len, fun x hx => ?_⟩
      rcases List.mem_or_eq_of_mem_set hx with hx | rfl
      · exact h.row x hx
      · exact rows4 _
theorem runsD_small (c : Cur) : Small 4 (runsD c).1 := by
  have := beV_range (n := 5) (by omega) c
  have h := turnsR_small (beC 5 c) (beV 5 c).toNat
  exact lastR_small ⟨by have := h.len; omega, h.row⟩
theorem Small.tot {k : Nat} : ∀ {rs : List Rn}, Small k rs → Ab.tot rs ≤ 4 * rs.length
  | [], _ => Nat.le_refl _
  | x :: xs, h => by
    have h1 := h.row x (List.mem_cons_self ..)
    have h2 := Small.tot (k := k) (rs := xs) ⟨by have := h.len; simp at this; omega, fun y hy => h.row y (List.mem_cons_of_mem _ hy)⟩
    simp only [Ab.tot, List.map_cons, List.sum_cons, List.length_cons] at h2 ⊢
    omega

theorem c_runs11 (c : Cur) (hl : c.code.length ≤ 1000000000) : Meets Go.Proofs.Try.prog 118 [.ptr 0 0] [curR c] (.sl 1 0 (runsD c).1.length) [curR (runsD c).2, rnR (runsD c).1] true := by
  have h1 : (beC 5 c).code.length ≤ 1000000000 := by rw [beC_code]; exact hl
  obtain ⟨r0, r1⟩ := beV_range (n := 5) (by omega) c
  obtain ⟨k, hk⟩ : ∃ k : Nat, beV 5 c = k := ⟨(beV 5 c).toNat, by omega⟩
  refine meets_of [2] Go.Proofs.Try.func118 rfl rfl ?_
  simp only [Go.Proofs.Try.ntmps118, List.length_cons, List.length_nil, Nat.reduceAdd, Nat.reduceSub, List.replicate_succ, List.replicate_zero, List.cons_append, List.nil_append]
  repeat' first | refine aw_seq ?_ | refine aw_region ?_ | refine aw_lex [] ?_ | (refine isA ?_; refine do_F rfl ?_) | (refine isL ?_; refine lex_F rfl (by kernel_rfl) rfl rfl ?_) | (refine isLg rfl ?_; refine lex_S rfl (by kernel_rfl) rfl rfl ?_) | (refine isAc 143 ?_; refine do_R rfl (step_callMs (K := []) (Rs' := [_]) [0] (by decide) rfl (c_lbel 5 c hl) (.cons rfl rfl rfl (curR_noH _) (curR_noH _) .nil) (.cons (.ptr rfl) (.cons (.same rfl) .nil)) (fun q hq => by cases hq) rfl) rfl ?_) | (refine isLc 143 rfl ?_; refine lex_R rfl (by kernel_rfl) rfl (step_callMs (K := []) (Rs' := [_]) [0] (by decide) rfl (c_lbel 5 c hl) (.cons rfl rfl rfl (curR_noH _) (curR_noH _) .nil) (.cons (.ptr rfl) (.cons (.same rfl) .nil)) (fun q hq => by cases hq) rfl) rfl ?_) | refine aops_nil ?_ | refine lex_done _ rfl (by kernel_rfl) ?_ | refine aw_ct rfl ?_ | refine aw_cf rfl ?_ | refine aw_block ?_ | with_reducible refine then_n ?_ | refine aw_skip ?_ | refine aw_exit ?_ | (with_reducible first | refine then_x ?_ | refine then_r ?_ | refine block_x ?_ | refine block_n ?_ | refine block_r ?_) | refine aw_ret ?_
  have hD : runsD c = lastR (turnsR ([], beC 5 c) k) := by rw [runsD, hk]; rfl
  rw [hD, hk]
  have hS := turnsR_small (beC 5 c)
  generalize hp : (([], beC 5 c) : List Rn × Cur) = p at hS
  have hpc : p.2.code.length ≤ 1000000000 := by rw [← hp]; exact h1
  refine aw_loop (α := { j : Nat // j ≤ k }) (fun j => ⟨[.ptr 0 0, .any, .any, .sl 1 0 (turnsR p j.1).1.length, I ((k : Int) - j.1), .any, .any, .any, .any, .any, .any, .any, .any, .any, .any, .any, .any, .any, .any, .any, .any, .any, .any, .any, .any, .any, .any, .any, .any, .any, .any, .any, .any, .any, .any, .any, .any, .any, .any, .any, .any], [curR (turnsR p j.1).2, rnR (turnsR p j.1).1], 1⟩) (fun j => k - j.1) ⟨0, Nat.zero_le _⟩ ?_ ?_
  · subst hp
    refine subm 1 [0, 1] rfl rfl fix1 (by decide) (.cons rfl rfl rfl rfl (les_refl (curR_noH _)) (.cons rfl rfl rfl rfl (les_refl' rfl) .nil)) (by
      repeat' first | exact les_nil | refine les_cons ?_ ?_ | exact le_any | exact le_refl rfl | exact le_ptr rfl | exact le_sl rfl rfl | exact le_k (congrArg _ (by simp)))
  · rintro ⟨j, hj⟩
    have hcl : (turnsR p j).2.code.length ≤ 1000000000 := by rw [turnsR_code]; exact hpc
    have hjs := hS j
    have hjl := hjs.len
    repeat' first | refine aw_seq ?_ | refine aw_region ?_ | refine aw_lex [] ?_ | (refine isA ?_; refine do_F rfl ?_) | (refine isL ?_; refine lex_F rfl (by kernel_rfl) rfl rfl ?_) | (refine isLg rfl ?_; refine lex_S rfl (by kernel_rfl) rfl rfl ?_) | refine aops_nil ?_ | refine lex_done _ rfl (by kernel_rfl) ?_ | refine aw_ct rfl ?_ | refine aw_cf rfl ?_ | refine aw_block ?_ | with_reducible refine then_n ?_ | refine aw_skip ?_ | refine aw_exit ?_ | (with_reducible first | refine then_x ?_ | refine then_r ?_ | refine block_x ?_ | refine block_n ?_ | refine block_r ?_) | refine aw_ret ?_
    refine aw_cond rfl (fun h => ?_) (fun h => ?_)
    · have hlt : j < k := by have := of_decide_eq_true h; simp only at this; omega
      have hE : turnsR p (j + 1) = turnR (turnsR p j) := rfl
      generalize turnsR p j = q at hcl hjs hjl hE
      have hq4 := rows4 q.2
      have s1 := (c_ssort (rowsD 4 q.2).1 (by omega)).frozen (pur_row rfl)
      have hsl : (srtV (rowsD 4 q.2).1).length ≤ 4 := by rw [srtV_len]; exact hq4
      have hc2 : (rowsD 4 q.2).2.code.length ≤ 1000000000 := by rw [rowsD_code]; exact hcl
      have hT : turnR q = cond (decide (0 < ((srtV (rowsD 4 q.2).1).length : Int))) (q.1 ++ [srtV (rowsD 4 q.2).1], (rowsD 4 q.2).2) (cond (decide (beV 20 (rowsD 4 q.2).2 = 0)) (q.1 ++ [srtV (rowsD 4 q.2).1], beC 20 (rowsD 4 q.2).2) (q.1, beC 20 (rowsD 4 q.2).2)) := rfl
      generalize srtV (rowsD 4 q.2).1 = sr at s1 hsl hT
      repeat' first | refine aw_seq ?_ | refine aw_region ?_ | refine aw_lex [] ?_ | (refine isA ?_; refine do_F rfl ?_) | (refine isL ?_; refine lex_F rfl (by kernel_rfl) rfl rfl ?_) | (refine isLg rfl ?_; refine lex_S rfl (by kernel_rfl) rfl rfl ?_) | (refine isAc 129 ?_; refine do_R rfl (step_callMs (K := []) (Rs' := [_]) [0] (by decide) rfl (c_rowsZ 4 (by decide) (by decide) q.2 hcl) (.cons rfl rfl rfl (curR_noH _) (curR_noH _) .nil) (.cons (.ptr rfl) (.cons (.same rfl) .nil)) (fun q hq => by cases hq) rfl) rfl ?_) | (refine isLc 129 rfl ?_; refine lex_R rfl (by kernel_rfl) rfl (step_callMs (K := []) (Rs' := [_]) [0] (by decide) rfl (c_rowsZ 4 (by decide) (by decide) q.2 hcl) (.cons rfl rfl rfl (curR_noH _) (curR_noH _) .nil) (.cons (.ptr rfl) (.cons (.same rfl) .nil)) (fun q hq => by cases hq) rfl) rfl ?_) | (refine isAc 60 ?_; refine do_R rfl (st_call rfl s1 (.cons (.same rfl) .nil) rfl) rfl ?_) | (refine isLc 60 rfl ?_; refine lex_R rfl (by kernel_rfl) rfl (st_call rfl s1 (.cons (.same rfl) .nil) rfl) rfl ?_) | refine aops_nil ?_ | refine lex_done _ rfl (by kernel_rfl) ?_ | refine aw_ct rfl ?_ | refine aw_cf rfl ?_ | refine aw_block ?_ | with_reducible refine then_n ?_ | refine aw_skip ?_ | refine aw_exit ?_ | (with_reducible first | refine then_x ?_ | refine then_r ?_ | refine block_x ?_ | refine block_n ?_ | refine block_r ?_) | refine aw_ret ?_
      refine do_br rfl rfl (fun p1 => ?_) (fun p1 => ?_)
      · have E : turnsR p (j + 1) = (q.1 ++ [sr], (rowsD 4 q.2).2) := by rw [hE, hT, p1]; rfl
        repeat' first | (refine isA ?_; refine do_R rfl (lit_of rfl rfl rfl rfl rfl) rfl ?_) | refine aw_seq ?_ | refine aw_region ?_ | refine aw_lex [] ?_ | (refine isA ?_; refine do_F rfl ?_) | (refine isL ?_; refine lex_F rfl (by kernel_rfl) rfl rfl ?_) | (refine isLg rfl ?_; refine lex_S rfl (by kernel_rfl) rfl rfl ?_) | (refine isAp ?_; refine do_R rfl (ap_l (t := rnT) (xs := q.1) (ys := [sr]) rfl rfl rfl rfl (.lst _ _) (by simp; omega) rfl) rfl ?_) | (refine isLp rfl ?_; refine lex_R rfl (by kernel_rfl) rfl (ap_l (t := rnT) (xs := q.1) (ys := [sr]) rfl rfl rfl rfl (.lst _ _) (by simp; omega) rfl) rfl ?_) | refine aops_nil ?_ | refine lex_done _ rfl (by kernel_rfl) ?_ | refine aw_ct rfl ?_ | refine aw_cf rfl ?_ | refine aw_block ?_ | with_reducible refine then_n ?_ | refine aw_skip ?_ | refine aw_exit ?_ | (with_reducible first | refine then_x ?_ | refine then_r ?_ | refine block_x ?_ | refine block_n ?_ | refine block_r ?_) | refine aw_ret ?_
        refine ⟨⟨j + 1, hlt⟩, by simp only; omega, ?_⟩
        simp only [E]
        exact subm 1 [0, 2] rfl rfl fix1 (by decide) (.cons rfl rfl rfl rfl (les_refl (curR_noH _)) (.cons rfl rfl rfl rfl (les_refl (flat_noH _ _)) .nil)) (by
          repeat' first | exact les_nil | refine les_cons ?_ ?_ | exact le_any | exact le_refl rfl | exact le_ptr rfl | exact le_sl rfl rfl | exact le_k (congrArg _ (show (k : Int) - ((j + 1 : Nat) : Int) = IntKind.i64.wrap ((k : Int) - (j : Int) - 1) by rw [IntKind.wrap_i64]; omega)))
      · repeat' first | refine aw_seq ?_ | refine aw_region ?_ | refine aw_lex [] ?_ | (refine isA ?_; refine do_F rfl ?_) | (refine isL ?_; refine lex_F rfl (by kernel_rfl) rfl rfl ?_) | (refine isLg rfl ?_; refine lex_S rfl (by kernel_rfl) rfl rfl ?_) | (refine isAc 128 ?_; refine do_R rfl (step_callMs (K := []) (Rs' := [_]) [0] (by decide) rfl (c_once 20 (rowsD 4 q.2).2 hc2) (.cons rfl rfl rfl (curR_noH _) (curR_noH _) .nil) (.cons (.ptr rfl) (.cons (.same rfl) .nil)) (fun q hq => by cases hq) rfl) rfl ?_) | (refine isLc 128 rfl ?_; refine lex_R rfl (by kernel_rfl) rfl (step_callMs (K := []) (Rs' := [_]) [0] (by decide) rfl (c_once 20 (rowsD 4 q.2).2 hc2) (.cons rfl rfl rfl (curR_noH _) (curR_noH _) .nil) (.cons (.ptr rfl) (.cons (.same rfl) .nil)) (fun q hq => by cases hq) rfl) rfl ?_) | refine aops_nil ?_ | refine lex_done _ rfl (by kernel_rfl) ?_ | refine aw_ct rfl ?_ | refine aw_cf rfl ?_ | refine aw_block ?_ | with_reducible refine then_n ?_ | refine aw_skip ?_ | refine aw_exit ?_ | (with_reducible first | refine then_x ?_ | refine then_r ?_ | refine block_x ?_ | refine block_n ?_ | refine block_r ?_) | refine aw_ret ?_
        refine aw_cond rfl (fun p2 => ?_) (fun p2 => ?_)
        · have E : turnsR p (j + 1) = (q.1 ++ [sr], beC 20 (rowsD 4 q.2).2) := by rw [hE, hT, p1, p2]; rfl
          repeat' first | (refine isA ?_; refine do_R rfl (lit_of rfl rfl rfl rfl rfl) rfl ?_) | refine aw_seq ?_ | refine aw_region ?_ | refine aw_lex [] ?_ | (refine isA ?_; refine do_F rfl ?_) | (refine isL ?_; refine lex_F rfl (by kernel_rfl) rfl rfl ?_) | (refine isLg rfl ?_; refine lex_S rfl (by kernel_rfl) rfl rfl ?_) | (refine isAp ?_; refine do_R rfl (ap_l (t := rnT) (xs := q.1) (ys := [sr]) rfl rfl rfl rfl (.lst _ _) (by simp; omega) rfl) rfl ?_) | (refine isLp rfl ?_; refine lex_R rfl (by kernel_rfl) rfl (ap_l (t := rnT) (xs := q.1) (ys := [sr]) rfl rfl rfl rfl (.lst _ _) (by simp; omega) rfl) rfl ?_) | refine aops_nil ?_ | refine lex_done _ rfl (by kernel_rfl) ?_ | refine aw_ct rfl ?_ | refine aw_cf rfl ?_ | refine aw_block ?_ | with_reducible refine then_n ?_ | refine aw_skip ?_ | refine aw_exit ?_ | (with_reducible first | refine then_x ?_ | refine then_r ?_ | refine block_x ?_ | refine block_n ?_ | refine block_r ?_) | refine aw_ret ?_
          refine ⟨⟨j + 1, hlt⟩, by simp only; omega, ?_⟩
          simp only [E]
          exact subm 1 [0, 2] rfl rfl fix1 (by decide) (.cons rfl rfl rfl rfl (les_refl (curR_noH _)) (.cons rfl rfl rfl rfl (les_refl (flat_noH _ _)) .nil)) (by
            repeat' first | exact les_nil | refine les_cons ?_ ?_ | exact le_any | exact le_refl rfl | exact le_ptr rfl | exact le_sl rfl rfl | exact le_k (congrArg _ (show (k : Int) - ((j + 1 : Nat) : Int) = IntKind.i64.wrap ((k : Int) - (j : Int) - 1) by rw [IntKind.wrap_i64]; omega)))
        · have E : turnsR p (j + 1) = (q.1, beC 20 (rowsD 4 q.2).2) := by rw [hE, hT, p1, p2]; rfl
          repeat' first | refine aw_seq ?_ | refine aw_region ?_ | refine aw_lex [] ?_ | (refine isA ?_; refine do_F rfl ?_) | (refine isL ?_; refine lex_F rfl (by kernel_rfl) rfl rfl ?_) | (refine isLg rfl ?_; refine lex_S rfl (by kernel_rfl) rfl rfl ?_) | refine aops_nil ?_ | refine lex_done _ rfl (by kernel_rfl) ?_ | refine aw_ct rfl ?_ | refine aw_cf rfl ?_ | refine aw_block ?_ | with_reducible refine then_n ?_ | refine aw_skip ?_ | refine aw_exit ?_ | (with_reducible first | refine then_x ?_ | refine then_r ?_ | refine block_x ?_ | refine block_n ?_ | refine block_r ?_) | refine aw_ret ?_
          refine ⟨⟨j + 1, hlt⟩, by simp only; omega, ?_⟩
          simp only [E]
          exact subm 1 [0, 1] rfl rfl fix1 (by decide) (.cons rfl rfl rfl rfl (les_refl (curR_noH _)) (.cons rfl rfl rfl rfl (les_refl (flat_noH _ _)) .nil)) (by
            repeat' first | exact les_nil | refine les_cons ?_ ?_ | exact le_any | exact le_refl rfl | exact le_ptr rfl | exact le_sl rfl rfl | exact le_k (congrArg _ (show (k : Int) - ((j + 1 : Nat) : Int) = IntKind.i64.wrap ((k : Int) - (j : Int) - 1) by rw [IntKind.wrap_i64]; omega)))
    · have hge : j = k := by have := of_decide_eq_false h; simp only at this; omega
      subst hge
      generalize turnsR p j = q at hcl hjs hjl
      repeat' first | refine aw_seq ?_ | refine aw_region ?_ | refine aw_lex [] ?_ | (refine isA ?_; refine do_F rfl ?_) | (refine isL ?_; refine lex_F rfl (by kernel_rfl) rfl rfl ?_) | (refine isLg rfl ?_; refine lex_S rfl (by kernel_rfl) rfl rfl ?_) | refine aops_nil ?_ | refine lex_done _ rfl (by kernel_rfl) ?_ | refine aw_ct rfl ?_ | refine aw_cf rfl ?_ | refine aw_block ?_ | with_reducible refine then_n ?_ | refine aw_skip ?_ | refine aw_exit ?_ | (with_reducible first | refine then_x ?_ | refine then_r ?_ | refine block_x ?_ | refine block_n ?_ | refine block_r ?_) | refine aw_ret ?_
      refine do_br rfl rfl (fun p1 => ?_) (fun p1 => ?_)
      · have hc2 : (beC 12 q.2).code.length ≤ 1000000000 := by rw [beC_code]; exact hcl
        repeat' first | refine aw_seq ?_ | refine aw_region ?_ | refine aw_lex [] ?_ | (refine isA ?_; refine do_F rfl ?_) | (refine isL ?_; refine lex_F rfl (by kernel_rfl) rfl rfl ?_) | (refine isLg rfl ?_; refine lex_S rfl (by kernel_rfl) rfl rfl ?_) | (refine isAc 128 ?_; refine do_R rfl (step_callMs (K := []) (Rs' := [_]) [0] (by decide) rfl (c_once 12 q.2 hcl) (.cons rfl rfl rfl (curR_noH _) (curR_noH _) .nil) (.cons (.ptr rfl) (.cons (.same rfl) .nil)) (fun q hq => by cases hq) rfl) rfl ?_) | (refine isLc 128 rfl ?_; refine lex_R rfl (by kernel_rfl) rfl (step_callMs (K := []) (Rs' := [_]) [0] (by decide) rfl (c_once 12 q.2 hcl) (.cons rfl rfl rfl (curR_noH _) (curR_noH _) .nil) (.cons (.ptr rfl) (.cons (.same rfl) .nil)) (fun q hq => by cases hq) rfl) rfl ?_) | refine aops_nil ?_ | refine lex_done _ rfl (by kernel_rfl) ?_ | refine aw_ct rfl ?_ | refine aw_cf rfl ?_ | refine aw_block ?_ | with_reducible refine then_n ?_ | refine aw_skip ?_ | refine aw_exit ?_ | (with_reducible first | refine then_x ?_ | refine then_r ?_ | refine block_x ?_ | refine block_n ?_ | refine block_r ?_) | refine aw_ret ?_
        refine aw_cond rfl (fun p2 => ?_) (fun p2 => ?_)
        · have D : lastR q = (q.1.set 0 (rowsD 4 (beC 12 q.2)).1, (rowsD 4 (beC 12 q.2)).2) := by rw [lastR, p1, p2]; rfl
          have h0 : 0 < q.1.length := by have := of_decide_eq_true p1; omega
          repeat' first | refine aw_seq ?_ | refine aw_region ?_ | refine aw_lex [] ?_ | (refine isA ?_; refine do_F rfl ?_) | (refine isL ?_; refine lex_F rfl (by kernel_rfl) rfl rfl ?_) | (refine isLg rfl ?_; refine lex_S rfl (by kernel_rfl) rfl rfl ?_) | (refine isAc 129 ?_; refine do_R rfl (step_callMs (K := []) (Rs' := [_]) [0] (by decide) rfl (c_rowsZ 4 (by decide) (by decide) (beC 12 q.2) hc2) (.cons rfl rfl rfl (curR_noH _) (curR_noH _) .nil) (.cons (.ptr rfl) (.cons (.same rfl) .nil)) (fun q hq => by cases hq) rfl) rfl ?_) | (refine isLc 129 rfl ?_; refine lex_R rfl (by kernel_rfl) rfl (step_callMs (K := []) (Rs' := [_]) [0] (by decide) rfl (c_rowsZ 4 (by decide) (by decide) (beC 12 q.2) hc2) (.cons rfl rfl rfl (curR_noH _) (curR_noH _) .nil) (.cons (.ptr rfl) (.cons (.same rfl) .nil)) (fun q hq => by cases hq) rfl) rfl ?_) | (refine isAi ?_; refine do_R rfl (ia_s (t := rnT) (xs := q.1) rfl rfl rfl rfl rfl (Int.le_refl 0) (by omega)) rfl ?_) | (refine isLi rfl ?_; refine lex_R rfl (by kernel_rfl) rfl (ia_s (t := rnT) (xs := q.1) rfl rfl rfl rfl rfl (Int.le_refl 0) (by omega)) rfl ?_) | (refine isAs ?_; refine do_R rfl (set_l1 (T := rnT) (i := 0) (xs := q.1) (z := (rowsD 4 (beC 12 q.2)).1) rfl rfl rfl rfl rfl rfl h0) rfl ?_) | (refine isLs rfl ?_; refine lex_R rfl (by kernel_rfl) rfl (set_l1 (T := rnT) (i := 0) (xs := q.1) (z := (rowsD 4 (beC 12 q.2)).1) rfl rfl rfl rfl rfl rfl h0) rfl ?_) | exact (by rw [D]; exact finM 1 [0, 1] fix1 (by decide) rfl (le_sl rfl (by simp)) (.cons rfl rfl rfl rfl (les_refl (curR_noH _)) (.cons rfl rfl rfl rfl (les_refl (flat_noH _ _)) .nil))) | refine aops_nil ?_ | refine lex_done _ rfl (by kernel_rfl) ?_ | refine aw_ct rfl ?_ | refine aw_cf rfl ?_ | refine aw_block ?_ | with_reducible refine then_n ?_ | refine aw_skip ?_ | refine aw_exit ?_ | (with_reducible first | refine then_x ?_ | refine then_r ?_ | refine block_x ?_ | refine block_n ?_ | refine block_r ?_) | refine aw_ret ?_
        · have D : lastR q = (q.1, beC 12 q.2) := by rw [lastR, p1, p2]; rfl
          repeat' first | refine aw_seq ?_ | refine aw_region ?_ | refine aw_lex [] ?_ | (refine isA ?_; refine do_F rfl ?_) | (refine isL ?_; refine lex_F rfl (by kernel_rfl) rfl rfl ?_) | (refine isLg rfl ?_; refine lex_S rfl (by kernel_rfl) rfl rfl ?_) | exact (by rw [D]; exact finM 1 [0, 1] fix1 (by decide) rfl (le_sl rfl rfl) (.cons rfl rfl rfl rfl (les_refl (curR_noH _)) (.cons rfl rfl rfl rfl (les_refl (flat_noH _ _)) .nil))) | refine aops_nil ?_ | refine lex_done _ rfl (by kernel_rfl) ?_ | refine aw_ct rfl ?_ | refine aw_cf rfl ?_ | refine aw_block ?_ | with_reducible refine then_n ?_ | refine aw_skip ?_ | refine aw_exit ?_ | (with_reducible first | refine then_x ?_ | refine then_r ?_ | refine block_x ?_ | refine block_n ?_ | refine block_r ?_) | refine aw_ret ?_
      · have D : lastR q = q := by rw [lastR, p1]; rfl
        repeat' first | refine aw_seq ?_ | refine aw_region ?_ | refine aw_lex [] ?_ | (refine isA ?_; refine do_F rfl ?_) | (refine isL ?_; refine lex_F rfl (by kernel_rfl) rfl rfl ?_) | (refine isLg rfl ?_; refine lex_S rfl (by kernel_rfl) rfl rfl ?_) | exact (by rw [D]; exact finM 1 [0, 1] fix1 (by decide) rfl (le_sl rfl rfl) (.cons rfl rfl rfl rfl (les_refl (curR_noH _)) (.cons rfl rfl rfl rfl (les_refl (flat_noH _ _)) .nil))) | refine aops_nil ?_ | refine lex_done _ rfl (by kernel_rfl) ?_ | refine aw_ct rfl ?_ | refine aw_cf rfl ?_ | refine aw_block ?_ | with_reducible refine then_n ?_ | refine aw_skip ?_ | refine aw_exit ?_ | (with_reducible first | refine then_x ?_ | refine then_r ?_ | refine block_x ?_ | refine block_n ?_ | refine block_r ?_) | refine aw_ret ?_
theorem c_runs11Z (c : Cur) (hl : c.code.length ≤ 1000000000) : Meets Go.Proofs.Try.prog 118 [.ptr 0 0] [curR c] (rnL (runsD c).1) [curR (runsD c).2] true :=
  frz1 (c_runs11 c hl) (pur_row (T := rnT) rfl)
end Go.Proofs.Ytkcicbigpbdjpaa.Ab

/- JoC -/
namespace Go.Proofs.Ytkcicbigpbdjpaa.Ab
open Go.RowKit

def kdD (c : Cur) : Int × Cur := cond (decide (beV 14 c = 0)) (pkV [0, 5] (beC 14 c), beC 2 (beC 14 c)) (IntKind.i64.wrap (1 + beV 4 (beC 14 c)), beC 4 (beC 14 c))
theorem kdD_code (c : Cur) : (kdD c).2.code = c.code := by
  unfold kdD
  cases decide (beV 14 c = 0) <;> simp [beC_code]
theorem kdD_val (c : Cur) : 0 ≤ (kdD c).1 ∧ (kdD c).1 ≤ 5 := by
  unfold kdD
  cases decide (beV 14 c = 0)
  · obtain ⟨r0, r1⟩ := beV_range (n := 4) (by decide) (beC 14 c)
    simp only [cond_false]
    rw [IntKind.wrap_i64]
    omega
  · obtain ⟨r0, r1⟩ := beV_range (n := ([0, 5] : List Int).length) (by decide) (beC 14 c)
    simp only [cond_true]
    have hlt : (beV ([0, 5] : List Int).length (beC 14 c)).toNat < 2 := by simp only [List.length_cons, List.length_nil] at r0 r1 ⊢; omega
    rw [pkV]
    match (beV ([0, 5] : List Int).length (beC 14 c)).toNat, hlt with
    | 0, _ => decide
    | 1, _ => decide
theorem c_kind (c : Cur) (hl : c.code.length ≤ 1000000000) : Meets Go.Proofs.Try.prog 137 [.ptr 0 0] [curR c] (I (kdD c).1) [curR (kdD c).2] true := by
  have h1 : (beC 14 c).code.length ≤ 1000000000 := by rw [beC_code]; exact hl
  refine meets_of [2] Go.Proofs.Try.func137 rfl rfl ?_
  simp only [Go.Proofs.Try.ntmps137, List.length_cons, List.length_nil, Nat.reduceAdd, Nat.reduceSub, List.replicate_succ, List.replicate_zero, List.cons_append, List.nil_append]
  repeat' first | refine aw_seq ?_ | refine aw_region ?_ | refine aw_lex [] ?_ | (refine isA ?_; refine do_F rfl ?_) | (refine isL ?_; refine lex_F rfl (by kernel_rfl) rfl rfl ?_) | (refine isLg rfl ?_; refine lex_S rfl (by kernel_rfl) rfl rfl ?_) | (refine isAc 128 ?_; refine do_R rfl (step_callMs (K := []) (Rs' := [_]) [0] (by decide) rfl (c_once 14 c hl) (.cons rfl rfl rfl (curR_noH _) (curR_noH _) .nil) (.cons (.ptr rfl) (.cons (.same rfl) .nil)) (fun q hq => by cases hq) rfl) rfl ?_) | (refine isLc 128 rfl ?_; refine lex_R rfl (by kernel_rfl) rfl (step_callMs (K := []) (Rs' := [_]) [0] (by decide) rfl (c_once 14 c hl) (.cons rfl rfl rfl (curR_noH _) (curR_noH _) .nil) (.cons (.ptr rfl) (.cons (.same rfl) .nil)) (fun q hq => by cases hq) rfl) rfl ?_) | refine aops_nil ?_ | refine lex_done _ rfl (by kernel_rfl) ?_ | refine aw_ct rfl ?_ | refine aw_cf rfl ?_ | refine aw_block ?_ | with_reducible refine then_n ?_ | refine aw_skip ?_ | refine aw_exit ?_ | (with_reducible first | refine then_x ?_ | refine then_r ?_ | refine block_x ?_ | refine block_n ?_ | refine block_r ?_) | refine aw_ret ?_
  refine aw_cond rfl (fun b0 => ?_) (fun b0 => ?_)
  · skip
    have D : kdD c = (pkV [0, 5] (beC 14 c), beC 2 (beC 14 c)) := by rw [kdD, b0]; rfl
    repeat' first | (refine isA ?_; refine do_R rfl (lit_of (cs := [0, 5].map I) rfl rfl rfl rfl rfl) rfl ?_) | refine aw_seq ?_ | refine aw_region ?_ | refine aw_lex [] ?_ | (refine isA ?_; refine do_F rfl ?_) | (refine isL ?_; refine lex_F rfl (by kernel_rfl) rfl rfl ?_) | (refine isLg rfl ?_; refine lex_S rfl (by kernel_rfl) rfl rfl ?_) | (refine isAc 131 ?_; refine do_R rfl (step_callMs (K := []) (Rs' := [_]) [0] (by decide) rfl (c_pickL [0, 5] (beC 14 c) h1 (by decide)) (.cons rfl rfl rfl (curR_noH _) (curR_noH _) .nil) (.cons (.ptr rfl) (.cons (.same rfl) .nil)) (fun q hq => by cases hq) rfl) rfl ?_) | (refine isLc 131 rfl ?_; refine lex_R rfl (by kernel_rfl) rfl (step_callMs (K := []) (Rs' := [_]) [0] (by decide) rfl (c_pickL [0, 5] (beC 14 c) h1 (by decide)) (.cons rfl rfl rfl (curR_noH _) (curR_noH _) .nil) (.cons (.ptr rfl) (.cons (.same rfl) .nil)) (fun q hq => by cases hq) rfl) rfl ?_) | exact (by rw [D]; exact finM 1 [0] fix1 (by decide) rfl (le_refl rfl) (.cons rfl rfl rfl rfl (les_refl (curR_noH _)) .nil)) | refine aops_nil ?_ | refine lex_done _ rfl (by kernel_rfl) ?_ | refine aw_ct rfl ?_ | refine aw_cf rfl ?_ | refine aw_block ?_ | with_reducible refine then_n ?_ | refine aw_skip ?_ | refine aw_exit ?_ | (with_reducible first | refine then_x ?_ | refine then_r ?_ | refine block_x ?_ | refine block_n ?_ | refine block_r ?_) | refine aw_ret ?_
  · skip
    have D : kdD c = (IntKind.i64.wrap (1 + beV 4 (beC 14 c)), beC 4 (beC 14 c)) := by rw [kdD, b0]; rfl
    repeat' first | refine aw_seq ?_ | refine aw_region ?_ | refine aw_lex [] ?_ | (refine isA ?_; refine do_F rfl ?_) | (refine isL ?_; refine lex_F rfl (by kernel_rfl) rfl rfl ?_) | (refine isLg rfl ?_; refine lex_S rfl (by kernel_rfl) rfl rfl ?_) | (refine isAc 143 ?_; refine do_R rfl (step_callMs (K := []) (Rs' := [_]) [0] (by decide) rfl (c_lbel 4 (beC 14 c) h1) (.cons rfl rfl rfl (curR_noH _) (curR_noH _) .nil) (.cons (.ptr rfl) (.cons (.same rfl) .nil)) (fun q hq => by cases hq) rfl) rfl ?_) | (refine isLc 143 rfl ?_; refine lex_R rfl (by kernel_rfl) rfl (step_callMs (K := []) (Rs' := [_]) [0] (by decide) rfl (c_lbel 4 (beC 14 c) h1) (.cons rfl rfl rfl (curR_noH _) (curR_noH _) .nil) (.cons (.ptr rfl) (.cons (.same rfl) .nil)) (fun q hq => by cases hq) rfl) rfl ?_) | exact (by rw [D]; exact finM 1 [0] fix1 (by decide) rfl (le_refl rfl) (.cons rfl rfl rfl rfl (les_refl (curR_noH _)) .nil)) | refine aops_nil ?_ | refine lex_done _ rfl (by kernel_rfl) ?_ | refine aw_ct rfl ?_ | refine aw_cf rfl ?_ | refine aw_block ?_ | with_reducible refine then_n ?_ | refine aw_skip ?_ | refine aw_exit ?_ | (with_reducible first | refine then_x ?_ | refine then_r ?_ | refine block_x ?_ | refine block_n ?_ | refine block_r ?_) | refine aw_ret ?_
structure RJ where
  k : Int
  a : List Rw
  b : List Rw
def drjV (xs : List Int) : RJ := ⟨(kdD (newC xs)).1, (bentD 7 (kdD (newC xs)).2).1, (bentD 7 (bentD 7 (kdD (newC xs)).2).2).1⟩
theorem drj_ok (xs : List Int) : 0 ≤ (drjV xs).k ∧ (drjV xs).k ≤ 5 ∧ (drjV xs).a.length ≤ 8 ∧ (drjV xs).b.length ≤ 8 := by
  have h0 := kdD_val (newC xs)
  have h1 := bentD_len (most := 7) (by decide) (by decide) (kdD (newC xs)).2
  have h2 := bentD_len (most := 7) (by decide) (by decide) (bentD 7 (kdD (newC xs)).2).2
  refine ⟨h0.1, h0.2, ?_, ?_⟩
  · show (bentD 7 (kdD (newC xs)).2).1.length ≤ 8
    omega
  · show (bentD 7 (bentD 7 (kdD (newC xs)).2).2).1.length ≤ 8
    omega
theorem c_drawRJ (xs : List Int) (hl : xs.length ≤ 1000000000) : Meets Go.Proofs.Try.prog 67 [lstOf u8T xs] [] (.tup [I (drjV xs).k, rwL (drjV xs).a, rwL (drjV xs).b]) [] true := by
  have k0 : (newC xs).code.length ≤ 1000000000 := hl
  have hD : drjV xs = ⟨(kdD (newC xs)).1, (bentD 7 (kdD (newC xs)).2).1, (bentD 7 (bentD 7 (kdD (newC xs)).2).2).1⟩ := rfl
  have b0 := c_kind (newC xs) k0
  have k1 : (kdD (newC xs)).2.code.length ≤ 1000000000 := by rw [kdD_code]; exact k0
  generalize kdD (newC xs) = p0 at b0 k1 hD
  have b1 := c_bentZ 7 (by decide) (by decide) p0.2 k1
  have k2 : (bentD 7 p0.2).2.code.length ≤ 1000000000 := by rw [bentD_code]; exact k1
  generalize bentD 7 p0.2 = p1 at b1 k2 hD
  have b2 := c_bentZ 7 (by decide) (by decide) p1.2 k2
  generalize bentD 7 p1.2 = p2 at b2 hD
  rw [hD]
  refine meets_of [2, 3, 4] Go.Proofs.Try.func67 rfl rfl ?_
  simp only [Go.Proofs.Try.ntmps67, List.length_cons, List.length_nil, Nat.reduceAdd, Nat.reduceSub, List.replicate_succ, List.replicate_zero, List.cons_append, List.nil_append]
  repeat' first | refine aw_seq ?_ | refine aw_region ?_ | refine aw_lex [call] ?_ | (refine isA ?_; refine do_F rfl ?_) | (refine isL ?_; refine lex_F rfl (by kernel_rfl) rfl rfl ?_) | (refine isLg rfl ?_; refine lex_S rfl (by kernel_rfl) rfl rfl ?_) | (refine isAc 104 ?_; refine do_R rfl (st_callK rfl (c_new xs hl) (.cons (.same rfl) .nil) (fun q hq => by simp at hq; subst hq; exact curR_noH _) rfl rfl) rfl ?_) | (refine isLc 104 rfl ?_; refine lex_R rfl (by kernel_rfl) rfl (st_callK rfl (c_new xs hl) (.cons (.same rfl) .nil) (fun q hq => by simp at hq; subst hq; exact curR_noH _) rfl rfl) rfl ?_) | (refine isAc 137 ?_; refine do_R rfl (step_callMs (K := []) (Rs' := [_]) [0] (by decide) rfl b0 (.cons rfl rfl rfl (curR_noH _) (curR_noH _) .nil) (.cons (.ptr rfl) .nil) (fun q hq => by cases hq) rfl) rfl ?_) | (refine isLc 137 rfl ?_; refine lex_R rfl (by kernel_rfl) rfl (step_callMs (K := []) (Rs' := [_]) [0] (by decide) rfl b0 (.cons rfl rfl rfl (curR_noH _) (curR_noH _) .nil) (.cons (.ptr rfl) .nil) (fun q hq => by cases hq) rfl) rfl ?_) | (refine isAc 105 ?_; refine do_R rfl (step_callMs (K := []) (Rs' := [_]) [0] (by decide) rfl b1 (.cons rfl rfl rfl (curR_noH _) (curR_noH _) .nil) (.cons (.ptr rfl) (.cons (.same rfl) .nil)) (fun q hq => by cases hq) rfl) rfl ?_) | (refine isLc 105 rfl ?_; refine lex_R rfl (by kernel_rfl) rfl (step_callMs (K := []) (Rs' := [_]) [0] (by decide) rfl b1 (.cons rfl rfl rfl (curR_noH _) (curR_noH _) .nil) (.cons (.ptr rfl) (.cons (.same rfl) .nil)) (fun q hq => by cases hq) rfl) rfl ?_) | (refine isAc 105 ?_; refine do_R rfl (step_callMs (K := []) (Rs' := [_]) [0] (by decide) rfl b2 (.cons rfl rfl rfl (curR_noH _) (curR_noH _) .nil) (.cons (.ptr rfl) (.cons (.same rfl) .nil)) (fun q hq => by cases hq) rfl) rfl ?_) | (refine isLc 105 rfl ?_; refine lex_R rfl (by kernel_rfl) rfl (step_callMs (K := []) (Rs' := [_]) [0] (by decide) rfl b2 (.cons rfl rfl rfl (curR_noH _) (curR_noH _) .nil) (.cons (.ptr rfl) (.cons (.same rfl) .nil)) (fun q hq => by cases hq) rfl) rfl ?_) | exact finPT rfl (.tup (.cons (.same rfl) (.cons (.same rfl) (.cons (.same rfl) .nil)))) | refine aops_nil ?_ | refine lex_done _ rfl (by kernel_rfl) ?_ | refine aw_ct rfl ?_ | refine aw_cf rfl ?_ | refine aw_block ?_ | with_reducible refine then_n ?_ | refine aw_skip ?_ | refine aw_exit ?_ | (with_reducible first | refine then_x ?_ | refine then_r ?_ | refine block_x ?_ | refine block_n ?_ | refine block_r ?_) | refine aw_ret ?_
theorem c_bigJ (xs : List Int) : Meets Go.Proofs.Try.prog 15 [lstOf u8T xs] [] (B (decide ((1048576 : Int) < xs.length))) [] false := by
  refine meets_of [2] Go.Proofs.Try.func15 rfl rfl ?_
  simp only [Go.Proofs.Try.ntmps15, List.length_cons, List.length_nil, Nat.reduceAdd, Nat.reduceSub, List.replicate_succ, List.replicate_zero, List.cons_append, List.nil_append]
  repeat' first | refine aw_seq ?_ | refine aw_region ?_ | refine aw_lex [] ?_ | (refine isA ?_; refine do_F rfl ?_) | (refine isL ?_; refine lex_F rfl (by kernel_rfl) rfl rfl ?_) | (refine isLg rfl ?_; refine lex_S rfl (by kernel_rfl) rfl rfl ?_) | exact fin1 rfl rfl rfl | refine aops_nil ?_ | refine lex_done _ rfl (by kernel_rfl) ?_ | refine aw_ct rfl ?_ | refine aw_cf rfl ?_ | refine aw_block ?_ | with_reducible refine then_n ?_ | refine aw_skip ?_ | refine aw_exit ?_ | (with_reducible first | refine then_x ?_ | refine then_r ?_ | refine block_x ?_ | refine block_n ?_ | refine block_r ?_) | refine aw_ret ?_
end Go.Proofs.Ytkcicbigpbdjpaa.Ab

/- PaS -/
-- BY gen_pair.py
/-
  SortRows of the specification.
-/
namespace Go.Proofs.Ytkcicbigpbdjpaa.Ab.Pr
open Go.RowKit

theorem srt_le {xs : List Rw} (h : Srt xs) {i j : Nat} {x y : Rw} (hij : i ≤ j) (hx : xs[i]? = some x) (hy : xs[j]? = some y) : leW x y := by
  rcases Nat.lt_or_eq_of_le hij with hlt | rfl
  · obtain ⟨h1, rfl⟩ := List.getElem?_eq_some_iff.1 hx
    obtain ⟨h2, rfl⟩ := List.getElem?_eq_some_iff.1 hy
    exact List.pairwise_iff_getElem.1 h i j h1 h2 hlt
  · rw [hx] at hy
    cases hy
    exact leW_refl _
theorem ins_at {out : List Rw} {x : Rw} {k : Nat} (hs : Srt out) (hk : k ≤ out.length) (hB : ∀ j z, k ≤ j → out[j]? = some z → ¬ leW z x) (hA : ∀ z, 0 < k → out[k - 1]? = some z → leW z x) : out.take k ++ x :: out.drop k = insV x out := by
  have hA' : ∀ z ∈ out.take k, leW z x := fun z hz => by
    obtain ⟨j, hj⟩ := List.getElem?_of_mem hz
    have hlt : j < k := by
      have := (List.getElem?_eq_some_iff.1 hj).1
      simp at this
      omega
    rw [List.getElem?_take_of_lt hlt] at hj
    obtain ⟨y, hy⟩ : ∃ y, out[k - 1]? = some y := ⟨_, List.getElem?_eq_getElem (by omega)⟩
    exact leW_trans (srt_le hs (show j ≤ k - 1 by omega) hj hy) (hA y (by omega) hy)
  have hB' : ∀ z ∈ out.drop k, leW x z := fun z hz => by
    obtain ⟨j, hj⟩ := List.getElem?_of_mem hz
    rw [List.getElem?_drop] at hj
    exact leW_not (hB (k + j) z (by omega) hj)
  refine srt_unique ?_ (ins_srt x hs) ?_
  · have hs' : Srt (out.take k ++ out.drop k) := by rw [List.take_append_drop]; exact hs
    obtain ⟨q1, q2, q3⟩ := List.pairwise_append.1 hs'
    refine List.pairwise_append.2 ⟨q1, List.pairwise_cons.2 ⟨hB', q2⟩, fun a ha c hc => ?_⟩
    rcases List.mem_cons.1 hc with rfl | hc
    · exact hA' a ha
    · exact q3 a ha c hc
  · refine List.perm_middle.trans ?_
    rw [List.take_append_drop]
    exact (ins_perm x out).symm

theorem src_sub {H : List Reg} {h k off m : Nat} {xs : List Rw} (hH : H[h]? = some (rwR xs)) (hk : k ≤ xs.length) (ho : off = k) (hm : m = xs.length - k) : Src H (.sl h off m) (xs.drop k).length (rwT.flat (xs.drop k)) := by
  subst ho hm
  have q := Src.sl (H := H) (h := h) (off := off) (m := xs.length - off) hH (Nat.zero_le _) (by show (off + (xs.length - off)) * 7 ≤ (rwT.flat xs).length; rw [flat_length]; show _ ≤ xs.length * 7; omega)
  have e : ((rwR xs).cells.drop (off * (rwR xs).esz)).take ((xs.length - off) * (rwR xs).esz) = rwT.flat (xs.drop off) := drop_l xs off
  rw [e] at q
  rw [List.length_drop]
  exact q
theorem src_pre {H : List Reg} {h k off m : Nat} {xs : List Rw} (hH : H[h]? = some (rwR xs)) (hk : k ≤ xs.length) (ho : off = 0) (hm : m = k) : Src H (.sl h off m) (xs.take k).length (rwT.flat (xs.take k)) := by
  subst ho hm
  have q := Src.sl (H := H) (h := h) (off := 0) (m := m) hH (Nat.zero_le _) (by show (0 + m) * 7 ≤ (rwT.flat xs).length; rw [flat_length]; show _ ≤ xs.length * 7; omega)
  have e : ((rwR xs).cells.drop (0 * (rwR xs).esz)).take (m * (rwR xs).esz) = rwT.flat (xs.take m) := take_l xs m
  rw [e] at q
  rw [List.length_take, Nat.min_eq_left hk]
  exact q

theorem src_all {H : List Reg} {h : Nat} {xs : List Rw} (hH : H[h]? = some (rwR xs)) : Src H (.sl h 0 xs.length) xs.length (rwT.flat xs) := by
  have q := src_pre (k := xs.length) hH (Nat.le_refl _) rfl rfl
  rw [List.take_length] at q
  exact q

theorem c_ssort (xs : List Rw) (hl : xs.length ≤ 100000000) : Meets Go.Proofs.Try.prog 132 [rwL xs] [] (.sl 0 0 (srtV xs).length) [rwR (srtV xs)] false := by
  refine meets_of [2] Go.Proofs.Try.func132 rfl rfl ?_
  simp only [Go.Proofs.Try.ntmps132, List.length_cons, List.length_nil, Nat.reduceAdd, Nat.reduceSub, List.replicate_succ, List.replicate_zero, List.cons_append, List.nil_append]
  repeat' first | refine aw_seq ?_ | refine aw_region ?_ | refine aw_lex [] ?_ | (refine isA ?_; refine do_F rfl ?_) | (refine isL ?_; refine lex_F rfl (by kernel_rfl) rfl rfl ?_) | (refine isLg rfl ?_; refine lex_S rfl (by kernel_rfl) rfl rfl ?_) | refine aops_nil ?_ | refine lex_done _ rfl (by kernel_rfl) ?_ | refine aw_ct rfl ?_ | refine aw_cf rfl ?_ | refine aw_block ?_ | with_reducible refine then_n ?_ | refine aw_skip ?_ | refine aw_exit ?_ | (with_reducible first | refine then_x ?_ | refine then_r ?_ | refine block_x ?_ | refine block_n ?_ | refine block_r ?_) | refine aw_ret ?_
  refine aw_loop (α := { i : Nat // i ≤ xs.length }) (fun i => ⟨[rwL xs, .any, .any, .sl 0 0 (srtV (xs.take i.1)).length, I i.1, .any, .any, .any, .any, .any, .any, .any, .any, .any, .any, .any, .any, .any, .any, .any, .any, .any, .any, .any, .any, .any, .any, .any, .any, .any, .any, .any, .any, .any, .any, .any, .any, .any, .any, .any, .any, .any, .any, .any, .any, .any, .any, .any, .any, .any], [rwR (srtV (xs.take i.1))], 0⟩) (fun i => xs.length - i.1) ⟨0, Nat.zero_le _⟩ ?_ ?_
  · exact sub0 [0] rfl rfl (by decide) (.cons rfl rfl rfl rfl (les_refl (flat_noH _ _)) .nil) (by repeat' first | exact les_nil | refine les_cons ?_ ?_ | exact le_any | exact le_refl rfl | exact le_sl rfl rfl | exact le_ptr rfl)
  · rintro ⟨i, hi⟩
    repeat' first | refine aw_seq ?_ | refine aw_region ?_ | refine aw_lex [] ?_ | (refine isA ?_; refine do_F rfl ?_) | (refine isL ?_; refine lex_F rfl (by kernel_rfl) rfl rfl ?_) | (refine isLg rfl ?_; refine lex_S rfl (by kernel_rfl) rfl rfl ?_) | refine aops_nil ?_ | refine lex_done _ rfl (by kernel_rfl) ?_ | refine aw_ct rfl ?_ | refine aw_cf rfl ?_ | refine aw_block ?_ | with_reducible refine then_n ?_ | refine aw_skip ?_ | refine aw_exit ?_ | (with_reducible first | refine then_x ?_ | refine then_r ?_ | refine block_x ?_ | refine block_n ?_ | refine block_r ?_) | refine aw_ret ?_
    refine aw_cond rfl (fun h => ?_) (fun h => ?_)
    · have hlt : i < xs.length := by simpa using h
      obtain ⟨x, hx⟩ : ∃ z, xs[i]? = some z := ⟨_, List.getElem?_eq_getElem hlt⟩
      have e1 : srtV (xs.take (i + 1)) = insV x (srtV (xs.take i)) := by rw [List.take_add_one, hx]; exact srtV_snoc _ _
      have hso := srtV_srt (xs.take i)
      have hol : (srtV (xs.take i)).length = i := by rw [srtV_len]; simp; omega
      generalize srtV (xs.take i) = out at e1 hso hol
      repeat' first | refine aw_seq ?_ | refine aw_region ?_ | refine aw_lex [] ?_ | (refine isA ?_; refine do_F rfl ?_) | (refine isL ?_; refine lex_F rfl (by kernel_rfl) rfl rfl ?_) | (refine isLg rfl ?_; refine lex_S rfl (by kernel_rfl) rfl rfl ?_) | refine aops_nil ?_ | refine lex_done _ rfl (by kernel_rfl) ?_ | refine aw_ct rfl ?_ | refine aw_cf rfl ?_ | refine aw_block ?_ | with_reducible refine then_n ?_ | refine aw_skip ?_ | refine aw_exit ?_ | (with_reducible first | refine then_x ?_ | refine then_r ?_ | refine block_x ?_ | refine block_n ?_ | refine block_r ?_) | refine aw_ret ?_
      refine aw_loop (α := { k : Nat // k ≤ out.length ∧ ∀ j z, k ≤ j → out[j]? = some z → ¬ leW z x }) (fun k => ⟨[rwL xs, .any, .any, .sl 0 0 out.length, I i, I k.1, .any, .any, .any, .any, .any, .any, .any, .any, .any, .any, .any, .any, .any, .any, .any, .any, .any, .any, .any, .any, .any, .any, .any, .any, .any, .any, .any, .any, .any, .any, .any, .any, .any, .any, .any, .any, .any, .any, .any, .any, .any, .any, .any, .any], [rwR out], 0⟩) (fun k => k.1) ⟨out.length, Nat.le_refl _, fun j z hj hz => absurd (List.getElem?_eq_some_iff.1 hz).1 (by omega)⟩ ?_ ?_
      · exact sub0 [0] rfl rfl (by decide) (.cons rfl rfl rfl rfl (les_refl (flat_noH _ _)) .nil) (by repeat' first | exact les_nil | refine les_cons ?_ ?_ | exact le_any | exact le_refl rfl | exact le_sl rfl rfl | exact le_ptr rfl)
      · rintro ⟨k, hk, hB⟩
        repeat' first | refine aw_seq ?_ | refine aw_region ?_ | refine aw_lex [] ?_ | (refine isA ?_; refine do_F rfl ?_) | (refine isL ?_; refine lex_F rfl (by kernel_rfl) rfl rfl ?_) | (refine isLg rfl ?_; refine lex_S rfl (by kernel_rfl) rfl rfl ?_) | refine aops_nil ?_ | refine lex_done _ rfl (by kernel_rfl) ?_ | refine aw_ct rfl ?_ | refine aw_cf rfl ?_ | refine aw_block ?_ | with_reducible refine then_n ?_ | refine aw_skip ?_ | refine aw_exit ?_ | (with_reducible first | refine then_x ?_ | refine then_r ?_ | refine block_x ?_ | refine block_n ?_ | refine block_r ?_) | refine aw_ret ?_
        refine lex_br rfl rfl rfl rfl (fun p1 => ?_) (fun p1 => ?_)
        · have q1 : 0 < k := by have := of_decide_eq_true p1; simp only at this; omega
          obtain ⟨y, hy⟩ : ∃ z, out[k - 1]? = some z := ⟨_, List.getElem?_eq_getElem (by omega)⟩
          have ew : IntKind.i64.wrap ((k : Int) - 1) = ((k - 1 : Nat) : Int) := by rw [IntKind.wrap_i64]; omega
          repeat' first | refine aw_seq ?_ | refine aw_region ?_ | refine aw_lex [] ?_ | (refine isA ?_; refine do_F rfl ?_) | (refine isL ?_; refine lex_F rfl (by kernel_rfl) rfl rfl ?_) | (refine isLg rfl ?_; refine lex_S rfl (by kernel_rfl) rfl rfl ?_) | (refine isAi (x := .tmp 24) ?_; refine do_R rfl (ia_l (t := rwT) (z := x) rfl rfl rfl rfl (Int.natCast_nonneg i) hx) rfl ?_) | (refine isLi (x := .tmp 24) rfl ?_; refine lex_R rfl (by kernel_rfl) rfl (ia_l (t := rwT) (z := x) rfl rfl rfl rfl (Int.natCast_nonneg i) hx) rfl ?_) | (refine isAi (x := .tmp 19) ?_; refine do_R rfl (ia_s (t := rwT) (xs := out) rfl rfl rfl rfl rfl (by rw [ew]; exact Int.natCast_nonneg _) (by rw [ew]; omega)) rfl ?_) | (refine isLi (x := .tmp 19) rfl ?_; refine lex_R rfl (by kernel_rfl) rfl (ia_s (t := rwT) (xs := out) rfl rfl rfl rfl rfl (by rw [ew]; exact Int.natCast_nonneg _) (by rw [ew]; omega)) rfl ?_) | (refine isAl (x := .tmp 22) ?_; refine do_R rfl (ld_a (T := rwT) (i := k - 1) (xs := out) (z := y) rfl (by simp only [ew]; rfl) rfl hy) rfl ?_) | (refine isLl (x := .tmp 22) rfl ?_; refine lex_R rfl (by kernel_rfl) rfl (ld_a (T := rwT) (i := k - 1) (xs := out) (z := y) rfl (by simp only [ew]; rfl) rfl hy) rfl ?_) | (refine isAc 78 ?_; refine do_R rfl (st_call rfl (c_scmp y x) (.cons (.same rfl) (.cons (.same rfl) .nil)) rfl) rfl ?_) | (refine isLc 78 rfl ?_; refine lex_R rfl (by kernel_rfl) rfl (st_call rfl (c_scmp y x) (.cons (.same rfl) (.cons (.same rfl) .nil)) rfl) rfl ?_) | refine aops_nil ?_ | refine lex_done _ rfl (by kernel_rfl) ?_ | refine aw_ct rfl ?_ | refine aw_cf rfl ?_ | refine aw_block ?_ | with_reducible refine then_n ?_ | refine aw_skip ?_ | refine aw_exit ?_ | (with_reducible first | refine then_x ?_ | refine then_r ?_ | refine block_x ?_ | refine block_n ?_ | refine block_r ?_) | refine aw_ret ?_
          refine aw_cond rfl (fun p2 => ?_) (fun p2 => ?_)
          · have q2 := of_decide_eq_true p2
            repeat' first | refine aw_seq ?_ | refine aw_region ?_ | refine aw_lex [] ?_ | (refine isA ?_; refine do_F rfl ?_) | (refine isL ?_; refine lex_F rfl (by kernel_rfl) rfl rfl ?_) | (refine isLg rfl ?_; refine lex_S rfl (by kernel_rfl) rfl rfl ?_) | refine aops_nil ?_ | refine lex_done _ rfl (by kernel_rfl) ?_ | refine aw_ct rfl ?_ | refine aw_cf rfl ?_ | refine aw_block ?_ | with_reducible refine then_n ?_ | refine aw_skip ?_ | refine aw_exit ?_ | (with_reducible first | refine then_x ?_ | refine then_r ?_ | refine block_x ?_ | refine block_n ?_ | refine block_r ?_) | refine aw_ret ?_
            refine ⟨⟨k - 1, by omega, fun j z hj hz => ?_⟩, by simp only; omega, ?_⟩
            · rcases Nat.lt_or_ge j k with hjk | hjk
              · obtain rfl : j = k - 1 := by omega
                rw [hy] at hz
                cases hz
                intro hle
                have : cmpV y x ≤ 0 := hle
                omega
              · exact hB j z hjk hz
            · exact sub0 [0] rfl rfl (by decide) (.cons rfl rfl rfl rfl (les_refl (flat_noH _ _)) .nil) (by
                repeat' first | exact les_nil | refine les_cons ?_ ?_ | exact le_any | exact le_refl rfl | exact le_sl rfl rfl | exact le_k (congrArg _ ew.symm))
          · have q2 := of_decide_eq_false p2
            have hfin := ins_at hso hk hB (fun z _ hz => by rw [hy] at hz; cases hz; show cmpV y x ≤ 0; omega)
            have hkl : k ≤ i := by omega
            repeat' first | refine aw_seq ?_ | refine aw_region ?_ | (refine isA ?_; refine do_F rfl ?_) | (refine isL ?_; refine lex_F rfl (by kernel_rfl) rfl rfl ?_) | (refine isLg rfl ?_; refine lex_S rfl (by kernel_rfl) rfl rfl ?_) | refine aops_nil ?_ | refine lex_done _ rfl (by kernel_rfl) ?_ | refine aw_ct rfl ?_ | refine aw_cf rfl ?_ | refine aw_block ?_ | with_reducible refine then_n ?_ | refine aw_skip ?_ | refine aw_exit ?_ | (with_reducible first | refine then_x ?_ | refine then_r ?_ | refine block_x ?_ | refine block_n ?_ | refine block_r ?_) | refine aw_ret ?_
            refine aw_perG (fun H => H[0]? = some (rwR out)) 10 rfl ?_
            refine perG_P 5 rfl rfl (by kernel_rfl) rfl (fun _ => rfl) rfl ?_
            refine perG_P 6 rfl rfl (by kernel_rfl) rfl (fun _ => rfl) rfl ?_
            refine perG_R 7 rfl rfl (by kernel_rfl) rfl (fun H hG => step_slice_sl (l := (k : Int)) (h := (out.length : Int)) rfl rfl hG (Nat.zero_le _) rfl (.yes _ rfl) (.no _) (by omega) (by omega) (by omega)) rfl ?_
            refine perG_P 0 rfl rfl (by kernel_rfl) rfl (fun _ => rfl) rfl ?_
            refine perG_P 1 rfl rfl (by kernel_rfl) rfl (fun _ => rfl) rfl ?_
            refine perG_R 2 rfl rfl (by kernel_rfl) rfl (fun _ _ => ia_l (t := rwT) (z := x) rfl rfl rfl rfl (Int.natCast_nonneg i) hx) rfl ?_
            refine perG_P 3 rfl rfl (by kernel_rfl) rfl (fun _ => rfl) rfl ?_
            refine perG_1 4 (by kernel_rfl) ?_
            refine br_WF rfl rfl rfl rfl rfl ?_
            refine perG_1 8 (by kernel_rfl) ?_
            refine br_W rfl rfl (ap_l (t := rwT) (xs := [x]) (ys := out.drop k) rfl rfl rfl rfl (src_sub rfl hk (by simp) (by simp)) (by simp; omega) rfl) rfl rfl ?_
            refine perG_P 9 rfl rfl (by kernel_rfl) rfl (fun _ => rfl) rfl ?_
            refine perG_done (by kernel_rfl) ?_
            repeat' first | refine aw_seq ?_ | refine aw_region ?_ | refine aw_lex [] ?_ | (refine isA ?_; refine do_F rfl ?_) | (refine isL ?_; refine lex_F rfl (by kernel_rfl) rfl rfl ?_) | (refine isLg rfl ?_; refine lex_S rfl (by kernel_rfl) rfl rfl ?_) | (refine isAx ?_; refine do_R rfl (step_slice_sl (l := (0 : Int)) (h := (k : Int)) rfl rfl rfl (Nat.zero_le _) rfl (.no 0) (.yes _ rfl) (Int.le_refl 0) (Int.natCast_nonneg k) (by omega)) rfl ?_) | (refine isLx rfl ?_; refine lex_R rfl (by kernel_rfl) rfl (step_slice_sl (l := (0 : Int)) (h := (k : Int)) rfl rfl rfl (Nat.zero_le _) rfl (.no 0) (.yes _ rfl) (Int.le_refl 0) (Int.natCast_nonneg k) (by omega)) rfl ?_) | (refine isAp ?_; refine do_R rfl (ap_l (t := rwT) (xs := []) (ys := out.take k) rfl rfl rfl rfl (src_pre rfl hk (by simp) (by simp)) (by simp; omega) rfl) rfl ?_) | (refine isLp rfl ?_; refine lex_R rfl (by kernel_rfl) rfl (ap_l (t := rwT) (xs := []) (ys := out.take k) rfl rfl rfl rfl (src_pre rfl hk (by simp) (by simp)) (by simp; omega) rfl) rfl ?_) | (refine isAp ?_; refine do_R rfl (ap_l (t := rwT) (xs := [] ++ out.take k) (ys := [x] ++ out.drop k) rfl rfl rfl rfl (src_all rfl) (by simp; omega) rfl) rfl ?_) | (refine isLp rfl ?_; refine lex_R rfl (by kernel_rfl) rfl (ap_l (t := rwT) (xs := [] ++ out.take k) (ys := [x] ++ out.drop k) rfl rfl rfl rfl (src_all rfl) (by simp; omega) rfl) rfl ?_) | refine aops_nil ?_ | refine lex_done _ rfl (by kernel_rfl) ?_ | refine aw_ct rfl ?_ | refine aw_cf rfl ?_ | refine aw_block ?_ | with_reducible refine then_n ?_ | refine aw_skip ?_ | refine aw_exit ?_ | (with_reducible first | refine then_x ?_ | refine then_r ?_ | refine block_x ?_ | refine block_n ?_ | refine block_r ?_) | refine aw_ret ?_
            refine ⟨⟨i + 1, hlt⟩, by simp only; omega, ?_⟩
            exact sub0 [5] rfl rfl (by decide) (.cons rfl rfl rfl rfl (les_eq (show rwT.flat ([] ++ out.take k ++ ([x] ++ out.drop k)) = rwT.flat (srtV (xs.take (i + 1))) by rw [e1, ← hfin]; rfl) (flat_noH _ _)) .nil) (by
              repeat' first | exact les_nil | refine les_cons ?_ ?_ | exact le_any | exact le_refl rfl | exact le_sl rfl (show ([] ++ out.take k ++ ([x] ++ out.drop k)).length = (srtV (xs.take (i + 1))).length by rw [e1, ← hfin]; rfl) | exact le_sl rfl (show (srtV (xs.take (i + 1))).length = ([] ++ out.take k ++ ([x] ++ out.drop k)).length by rw [e1, ← hfin]; rfl) | exact le_i hlt (by omega))
        · have q1 : k = 0 := by have := of_decide_eq_false p1; simp only at this; omega
          have hfin := ins_at hso hk hB (fun z h0 hz => by omega)
          have hkl : k ≤ i := by omega
          repeat' first | refine aw_seq ?_ | refine aw_region ?_ | (refine isA ?_; refine do_F rfl ?_) | (refine isL ?_; refine lex_F rfl (by kernel_rfl) rfl rfl ?_) | (refine isLg rfl ?_; refine lex_S rfl (by kernel_rfl) rfl rfl ?_) | refine aops_nil ?_ | refine lex_done _ rfl (by kernel_rfl) ?_ | refine aw_ct rfl ?_ | refine aw_cf rfl ?_ | refine aw_block ?_ | with_reducible refine then_n ?_ | refine aw_skip ?_ | refine aw_exit ?_ | (with_reducible first | refine then_x ?_ | refine then_r ?_ | refine block_x ?_ | refine block_n ?_ | refine block_r ?_) | refine aw_ret ?_
          refine aw_perG (fun H => H[0]? = some (rwR out)) 10 rfl ?_
          refine perG_P 5 rfl rfl (by kernel_rfl) rfl (fun _ => rfl) rfl ?_
          refine perG_P 6 rfl rfl (by kernel_rfl) rfl (fun _ => rfl) rfl ?_
          refine perG_R 7 rfl rfl (by kernel_rfl) rfl (fun H hG => step_slice_sl (l := (k : Int)) (h := (out.length : Int)) rfl rfl hG (Nat.zero_le _) rfl (.yes _ rfl) (.no _) (by omega) (by omega) (by omega)) rfl ?_
          refine perG_P 0 rfl rfl (by kernel_rfl) rfl (fun _ => rfl) rfl ?_
          refine perG_P 1 rfl rfl (by kernel_rfl) rfl (fun _ => rfl) rfl ?_
          refine perG_R 2 rfl rfl (by kernel_rfl) rfl (fun _ _ => ia_l (t := rwT) (z := x) rfl rfl rfl rfl (Int.natCast_nonneg i) hx) rfl ?_
          refine perG_P 3 rfl rfl (by kernel_rfl) rfl (fun _ => rfl) rfl ?_
          refine perG_1 4 (by kernel_rfl) ?_
          refine br_WF rfl rfl rfl rfl rfl ?_
          refine perG_1 8 (by kernel_rfl) ?_
          refine br_W rfl rfl (ap_l (t := rwT) (xs := [x]) (ys := out.drop k) rfl rfl rfl rfl (src_sub rfl hk (by simp) (by simp)) (by simp; omega) rfl) rfl rfl ?_
          refine perG_P 9 rfl rfl (by kernel_rfl) rfl (fun _ => rfl) rfl ?_
          refine perG_done (by kernel_rfl) ?_
          repeat' first | refine aw_seq ?_ | refine aw_region ?_ | refine aw_lex [] ?_ | (refine isA ?_; refine do_F rfl ?_) | (refine isL ?_; refine lex_F rfl (by kernel_rfl) rfl rfl ?_) | (refine isLg rfl ?_; refine lex_S rfl (by kernel_rfl) rfl rfl ?_) | (refine isAx ?_; refine do_R rfl (step_slice_sl (l := (0 : Int)) (h := (k : Int)) rfl rfl rfl (Nat.zero_le _) rfl (.no 0) (.yes _ rfl) (Int.le_refl 0) (Int.natCast_nonneg k) (by omega)) rfl ?_) | (refine isLx rfl ?_; refine lex_R rfl (by kernel_rfl) rfl (step_slice_sl (l := (0 : Int)) (h := (k : Int)) rfl rfl rfl (Nat.zero_le _) rfl (.no 0) (.yes _ rfl) (Int.le_refl 0) (Int.natCast_nonneg k) (by omega)) rfl ?_) | (refine isAp ?_; refine do_R rfl (ap_l (t := rwT) (xs := []) (ys := out.take k) rfl rfl rfl rfl (src_pre rfl hk (by simp) (by simp)) (by simp; omega) rfl) rfl ?_) | (refine isLp rfl ?_; refine lex_R rfl (by kernel_rfl) rfl (ap_l (t := rwT) (xs := []) (ys := out.take k) rfl rfl rfl rfl (src_pre rfl hk (by simp) (by simp)) (by simp; omega) rfl) rfl ?_) | (refine isAp ?_; refine do_R rfl (ap_l (t := rwT) (xs := [] ++ out.take k) (ys := [x] ++ out.drop k) rfl rfl rfl rfl (src_all rfl) (by simp; omega) rfl) rfl ?_) | (refine isLp rfl ?_; refine lex_R rfl (by kernel_rfl) rfl (ap_l (t := rwT) (xs := [] ++ out.take k) (ys := [x] ++ out.drop k) rfl rfl rfl rfl (src_all rfl) (by simp; omega) rfl) rfl ?_) | refine aops_nil ?_ | refine lex_done _ rfl (by kernel_rfl) ?_ | refine aw_ct rfl ?_ | refine aw_cf rfl ?_ | refine aw_block ?_ | with_reducible refine then_n ?_ | refine aw_skip ?_ | refine aw_exit ?_ | (with_reducible first | refine then_x ?_ | refine then_r ?_ | refine block_x ?_ | refine block_n ?_ | refine block_r ?_) | refine aw_ret ?_
          refine ⟨⟨i + 1, hlt⟩, by simp only; omega, ?_⟩
          exact sub0 [5] rfl rfl (by decide) (.cons rfl rfl rfl rfl (les_eq (show rwT.flat ([] ++ out.take k ++ ([x] ++ out.drop k)) = rwT.flat (srtV (xs.take (i + 1))) by rw [e1, ← hfin]; rfl) (flat_noH _ _)) .nil) (by
            repeat' first | exact les_nil | refine les_cons ?_ ?_ | exact le_any | exact le_refl rfl | exact le_sl rfl (show ([] ++ out.take k ++ ([x] ++ out.drop k)).length = (srtV (xs.take (i + 1))).length by rw [e1, ← hfin]; rfl) | exact le_sl rfl (show (srtV (xs.take (i + 1))).length = ([] ++ out.take k ++ ([x] ++ out.drop k)).length by rw [e1, ← hfin]; rfl) | exact le_i hlt (by omega))
    · have hge : i = xs.length := by
        have : ¬ ((i : Int) < xs.length) := by simpa using h
        omega
      subst hge
      have e2 : srtV (xs.take xs.length) = srtV xs := by rw [List.take_length]
      repeat' first | refine aw_seq ?_ | refine aw_region ?_ | refine aw_lex [] ?_ | (refine isA ?_; refine do_F rfl ?_) | (refine isL ?_; refine lex_F rfl (by kernel_rfl) rfl rfl ?_) | (refine isLg rfl ?_; refine lex_S rfl (by kernel_rfl) rfl rfl ?_) | exact finL (ty := rwT) rfl rfl rfl rfl (by simp only [e2]) e2 (flat_rw _) | refine aops_nil ?_ | refine lex_done _ rfl (by kernel_rfl) ?_ | refine aw_ct rfl ?_ | refine aw_cf rfl ?_ | refine aw_block ?_ | with_reducible refine then_n ?_ | refine aw_skip ?_ | refine aw_exit ?_ | (with_reducible first | refine then_x ?_ | refine then_r ?_ | refine block_x ?_ | refine block_n ?_ | refine block_r ?_) | refine aw_ret ?_
end Go.Proofs.Ytkcicbigpbdjpaa.Ab.Pr

/- PaC -/
-- BY gen_pair.py
/-
  Insertion in place: slices.insertionSortCmpFunc@Pair over rows. 
-/
namespace Go.Proofs.Ytkcicbigpbdjpaa.Ab.Pr
open Go.RowKit

/-- The rows from a to b in order, the others as they were. -/
def srtR (xs : List Rw) (a b : Nat) : List Rw := xs.take a ++ (srtV ((xs.drop a).take (b - a)) ++ xs.drop b)
theorem srtR_one {xs : List Rw} {a : Nat} (h : a < xs.length) : srtR xs a (a + 1) = xs := by
  obtain ⟨x, hx⟩ : ∃ z, xs[a]? = some z := ⟨_, List.getElem?_eq_getElem h⟩
  have e : xs.drop a = x :: xs.drop (a + 1) := take_drop1 hx
  rw [srtR, e, show a + 1 - a = 1 by omega]
  show xs.take a ++ ([x] ++ xs.drop (a + 1)) = xs
  rw [List.singleton_append, ← e, List.take_append_drop]
theorem srtR_self {xs : List Rw} {a : Nat} : srtR xs a a = xs := by
  rw [srtR, Nat.sub_self, List.take_zero]
  show xs.take a ++ ([] ++ xs.drop a) = xs
  rw [List.nil_append, List.take_append_drop]
theorem srtR_len {xs : List Rw} {a b : Nat} (h1 : a ≤ b) (h2 : b ≤ xs.length) : (srtR xs a b).length = xs.length := by
  simp only [srtR, List.length_append, srtV_len, List.length_take, List.length_drop]; omega
theorem srtR_step {xs : List Rw} {a i : Nat} {x : Rw} (h : a ≤ i) (hx : xs[i]? = some x) : srtV ((xs.drop a).take (i + 1 - a)) = insV x (srtV ((xs.drop a).take (i - a))) := by
  have : (xs.drop a)[i - a]? = some x := by rw [List.getElem?_drop, show a + (i - a) = i by omega]; exact hx
  rw [show i + 1 - a = (i - a) + 1 by omega, List.take_add_one, this]
  exact srtV_snoc _ _
theorem ins_split {A B : List Rw} {x : Rw} (hs : Srt (A ++ B)) (hB : ∀ z ∈ B, ¬ leW z x) (hA : ∀ y A', A = A' ++ [y] → leW y x) : A ++ x :: B = insV x (A ++ B) := by
  have h := ins_at (k := A.length) hs (by simp) (fun j z hj hz => by
    rw [List.getElem?_append_right hj] at hz
    exact hB z (List.mem_of_getElem? hz)) (fun z h0 hz => by
    rw [List.getElem?_append_left (by omega)] at hz
    refine hA z A.dropLast ?_
    have hne : A ≠ [] := by intro e; subst e; simp at h0
    have : A.getLast hne = z := by
      rw [List.getLast_eq_getElem]
      exact (List.getElem?_eq_some_iff.1 hz).2
    rw [← this]
    exact (List.dropLast_concat_getLast hne).symm)
  rw [List.take_left', List.drop_left'] at h
  · exact h
  · rfl
  · rfl
theorem swap_at {U W : List Rw} {x y : Rw} {u : Nat} (hu : U.length = u) : ((U ++ y :: x :: W).set (u + 1) y).set u x = U ++ x :: y :: W := by
  subst hu
  rw [List.set_append_right _ _ (by omega), show U.length + 1 - U.length = 1 by omega]
  show (U ++ y :: y :: W).set U.length x = _
  rw [List.set_append_right _ _ (Nat.le_refl _), Nat.sub_self]
  rfl
theorem finMv {l : List V} {H : List Reg} {K : List Reg} (k : Nat) (ψ : List Nat) (hfix : ∀ i, i < k → ψ[i]? = some i) (hnd : ψ.Nodup) (hH : HLes ψ H ψ K) : (Exit.normal = .ret ∨ Exit.normal = .normal) ∧ Out true (.tup []) K (resV ⟨l, H, k⟩ []) ⟨l, H, k⟩ :=
  ⟨Or.inr rfl, out_of (S := ⟨l, H, k⟩) ψ hfix (hle_of hnd hH) (le_tup les_nil) (Or.inl rfl)⟩

theorem c_insort (xs : List Rw) (a b : Nat) (h1 : a < b) (h2 : b ≤ xs.length) (hl : xs.length ≤ 100000000) : Meets Go.Proofs.Try.prog 166 [.sl 0 0 xs.length, I a, I b, .fn 77 []] [rwR xs] (.tup []) [rwR (srtR xs a b)] true := by
  refine meets_of [] Go.Proofs.Try.func166 rfl rfl ?_
  simp only [Go.Proofs.Try.ntmps166, List.length_cons, List.length_nil, Nat.reduceAdd, Nat.reduceSub, List.replicate_succ, List.replicate_zero, List.cons_append, List.nil_append]
  repeat' first | refine aw_seq ?_ | refine aw_region ?_ | refine aw_lex [] ?_ | (refine isA ?_; refine do_F rfl ?_) | (refine isL ?_; refine lex_F rfl (by kernel_rfl) rfl rfl ?_) | (refine isLg rfl ?_; refine lex_S rfl (by kernel_rfl) rfl rfl ?_) | refine aops_nil ?_ | refine lex_done _ rfl (by kernel_rfl) ?_ | refine aw_ct rfl ?_ | refine aw_cf rfl ?_ | refine aw_block ?_ | with_reducible refine then_n ?_ | refine aw_skip ?_ | refine aw_exit ?_ | (with_reducible first | refine then_x ?_ | refine then_r ?_ | refine block_x ?_ | refine block_n ?_ | refine block_r ?_) | refine aw_ret ?_
  refine aw_loop (α := { i : Nat // a + 1 ≤ i ∧ i ≤ b }) (fun i => ⟨[.sl 0 0 xs.length, I a, I b, .fn 77 [], .any, .any, .any, .any, I i.1, .any, .any, .any, .any, .any, .any, .any, .any, .any, .any, .any, .any, .any, .any, .any, .any, .any, .any, .any, .any, .any, .any, .any, .any, .any, .any, .any, .any, .any, .any, .any, .any, .any, .any, .any, .any, .any, .any, .any, .any, .any, .any, .any, .any], [rwR (srtR xs a i.1)], 1⟩) (fun i => b - i.1) ⟨a + 1, Nat.le_refl _, h1⟩ ?_ ?_
  · exact subm 1 [0] rfl rfl fix1 (by decide) (.cons rfl rfl rfl rfl (les_eq (by rw [srtR_one (by omega)]) (flat_noH _ _)) .nil) (by
      repeat' first | exact les_nil | refine les_cons ?_ ?_ | exact le_any | exact le_refl rfl | exact le_sl rfl rfl | exact le_k (congrArg _ (show ((a + 1 : Nat) : Int) = IntKind.i64.wrap ((a : Int) + 1) by rw [IntKind.wrap_i64]; omega)))
  · rintro ⟨i, hi0, hi1⟩
    repeat' first | refine aw_seq ?_ | refine aw_region ?_ | refine aw_lex [] ?_ | (refine isA ?_; refine do_F rfl ?_) | (refine isL ?_; refine lex_F rfl (by kernel_rfl) rfl rfl ?_) | (refine isLg rfl ?_; refine lex_S rfl (by kernel_rfl) rfl rfl ?_) | refine aops_nil ?_ | refine lex_done _ rfl (by kernel_rfl) ?_ | refine aw_ct rfl ?_ | refine aw_cf rfl ?_ | refine aw_block ?_ | with_reducible refine then_n ?_ | refine aw_skip ?_ | refine aw_exit ?_ | (with_reducible first | refine then_x ?_ | refine then_r ?_ | refine block_x ?_ | refine block_n ?_ | refine block_r ?_) | refine aw_ret ?_
    refine aw_cond rfl (fun h => ?_) (fun h => ?_)
    · have hlt : i < b := by have := of_decide_eq_true h; simp only at this; omega
      obtain ⟨x, hx⟩ : ∃ z, xs[i]? = some z := ⟨_, List.getElem?_eq_getElem (by omega)⟩
      have e1 := srtR_step (a := a) (by omega) hx
      have hso := srtV_srt ((xs.drop a).take (i - a))
      have hol : (srtV ((xs.drop a).take (i - a))).length = i - a := by rw [srtV_len]; simp; omega
      have eR : srtR xs a (i + 1) = xs.take a ++ (srtV ((xs.drop a).take (i + 1 - a)) ++ xs.drop (i + 1)) := rfl
      have e0 : srtR xs a i = xs.take a ++ (srtV ((xs.drop a).take (i - a)) ++ x :: xs.drop (i + 1)) := by rw [srtR, take_drop1 hx]
      rw [e1] at eR
      generalize srtV ((xs.drop a).take (i - a)) = S at e0 eR hso hol
      have hP : (xs.take a).length = a := by simp; omega
      have hR : (xs.drop (i + 1)).length = xs.length - (i + 1) := by simp
      generalize xs.take a = P at e0 eR hP
      generalize xs.drop (i + 1) = R at e0 eR hR
      repeat' first | refine aw_seq ?_ | refine aw_region ?_ | refine aw_lex [] ?_ | (refine isA ?_; refine do_F rfl ?_) | (refine isL ?_; refine lex_F rfl (by kernel_rfl) rfl rfl ?_) | (refine isLg rfl ?_; refine lex_S rfl (by kernel_rfl) rfl rfl ?_) | refine aops_nil ?_ | refine lex_done _ rfl (by kernel_rfl) ?_ | refine aw_ct rfl ?_ | refine aw_cf rfl ?_ | refine aw_block ?_ | with_reducible refine then_n ?_ | refine aw_skip ?_ | refine aw_exit ?_ | (with_reducible first | refine then_x ?_ | refine then_r ?_ | refine block_x ?_ | refine block_n ?_ | refine block_r ?_) | refine aw_ret ?_
      refine aw_loop (α := { p : List Rw × List Rw // p.1 ++ p.2 = S ∧ ∀ z ∈ p.2, ¬ leW z x }) (fun p => ⟨[.sl 0 0 xs.length, I a, I b, .fn 77 [], .any, .any, .any, .any, I i, I ((a + p.1.1.length : Nat) : Int), .any, .any, .any, .any, .any, .any, .any, .any, .any, .any, .any, .any, .any, .any, .any, .any, .any, .any, .any, .any, .any, .any, .any, .any, .any, .any, .any, .any, .any, .any, .any, .any, .any, .any, .any, .any, .any, .any, .any, .any, .any, .any, .any], [rwR (P ++ p.1.1 ++ x :: p.1.2 ++ R)], 1⟩) (fun p => p.1.1.length) ⟨(S, []), List.append_nil _, fun z hz => by cases hz⟩ ?_ ?_
      · exact subm 1 [0] rfl rfl fix1 (by decide) (.cons rfl rfl rfl rfl (les_eq (by rw [e0]; show rwT.flat _ = rwT.flat _; simp) (flat_noH _ _)) .nil) (by
          repeat' first | exact les_nil | refine les_cons ?_ ?_ | exact le_any | exact le_refl rfl | exact le_sl rfl rfl | exact le_k (congrArg _ (show ((a + S.length : Nat) : Int) = (i : Int) by omega)))
      · rintro ⟨⟨A, B⟩, hAB, hB⟩
        simp only at hAB hB
        have hlen : A.length + B.length = i - a := by rw [← hol, ← hAB, List.length_append]
        repeat' first | refine aw_seq ?_ | refine aw_region ?_ | refine aw_lex [] ?_ | (refine isA ?_; refine do_F rfl ?_) | (refine isL ?_; refine lex_F rfl (by kernel_rfl) rfl rfl ?_) | (refine isLg rfl ?_; refine lex_S rfl (by kernel_rfl) rfl rfl ?_) | refine aops_nil ?_ | refine lex_done _ rfl (by kernel_rfl) ?_ | refine aw_ct rfl ?_ | refine aw_cf rfl ?_ | refine aw_block ?_ | with_reducible refine then_n ?_ | refine aw_skip ?_ | refine aw_exit ?_ | (with_reducible first | refine then_x ?_ | refine then_r ?_ | refine block_x ?_ | refine block_n ?_ | refine block_r ?_) | refine aw_ret ?_
        refine lex_br rfl rfl rfl rfl (fun p1 => ?_) (fun p1 => ?_)
        · have q1 : 0 < A.length := by have := of_decide_eq_true p1; simp only at this; omega
          obtain ⟨A', y, rfl⟩ : ∃ A' y, A = A' ++ [y] := ⟨A.dropLast, A.getLast (by intro e; subst e; simp at q1), (List.dropLast_concat_getLast _).symm⟩
          have ej : ((a + (A' ++ [y]).length : Nat) : Int) = ((a + A'.length + 1 : Nat) : Int) := by simp; omega
          have ew : IntKind.i64.wrap (((a + (A' ++ [y]).length : Nat) : Int) - 1) = ((a + A'.length : Nat) : Int) := by rw [IntKind.wrap_i64]; simp; omega
          have hlA : (A' ++ [y]).length = A'.length + 1 := by simp
          have hds : P ++ (A' ++ [y]) ++ x :: B ++ R = (P ++ A') ++ y :: x :: (B ++ R) := by simp
          have hu : (P ++ A').length = a + A'.length := by simp [hP]
          have g1 : (P ++ (A' ++ [y]) ++ x :: B ++ R)[0 + (a + A'.length + 1)]? = some x := by
            rw [hds, List.getElem?_append_right (by omega), hu, show 0 + (a + A'.length + 1) - (a + A'.length) = 1 by omega]; rfl
          have g0 : (P ++ (A' ++ [y]) ++ x :: B ++ R)[0 + (a + A'.length)]? = some y := by
            rw [hds, List.getElem?_append_right (by omega), hu, show 0 + (a + A'.length) - (a + A'.length) = 0 by omega]; rfl
          repeat' first | refine aw_seq ?_ | refine aw_region ?_ | refine aw_lex [] ?_ | (refine isA ?_; refine do_F rfl ?_) | (refine isL ?_; refine lex_F rfl (by kernel_rfl) rfl rfl ?_) | (refine isLg rfl ?_; refine lex_S rfl (by kernel_rfl) rfl rfl ?_) | (refine isAi (x := .tmp 23) ?_; refine do_R rfl (step_ia_sl (j := ((a + A'.length + 1 : Nat) : Int)) rfl rfl rfl (Nat.zero_le _) rfl (congrArg I ej) (Int.natCast_nonneg _) (by omega)) rfl ?_) | (refine isLi (x := .tmp 23) rfl ?_; refine lex_R rfl (by kernel_rfl) rfl (step_ia_sl (j := ((a + A'.length + 1 : Nat) : Int)) rfl rfl rfl (Nat.zero_le _) rfl (congrArg I ej) (Int.natCast_nonneg _) (by omega)) rfl ?_) | (refine isAi (x := .tmp 27) ?_; refine do_R rfl (step_ia_sl (j := ((a + A'.length : Nat) : Int)) rfl rfl rfl (Nat.zero_le _) rfl (congrArg I ew) (Int.natCast_nonneg _) (by omega)) rfl ?_) | (refine isLi (x := .tmp 27) rfl ?_; refine lex_R rfl (by kernel_rfl) rfl (step_ia_sl (j := ((a + A'.length : Nat) : Int)) rfl rfl rfl (Nat.zero_le _) rfl (congrArg I ew) (Int.natCast_nonneg _) (by omega)) rfl ?_) | (refine isAl (x := .tmp 25) ?_; refine do_R rfl (ld_a (T := rwT) (i := 0 + (a + A'.length + 1)) (z := x) rfl rfl rfl g1) rfl ?_) | (refine isLl (x := .tmp 25) rfl ?_; refine lex_R rfl (by kernel_rfl) rfl (ld_a (T := rwT) (i := 0 + (a + A'.length + 1)) (z := x) rfl rfl rfl g1) rfl ?_) | (refine isAl (x := .tmp 30) ?_; refine do_R rfl (ld_a (T := rwT) (i := 0 + (a + A'.length)) (z := y) rfl rfl rfl g0) rfl ?_) | (refine isLl (x := .tmp 30) rfl ?_; refine lex_R rfl (by kernel_rfl) rfl (ld_a (T := rwT) (i := 0 + (a + A'.length)) (z := y) rfl rfl rfl g0) rfl ?_) | refine do_R rfl (st_callV rfl rfl (c_icmp x y) (.cons (.same rfl) (.cons (.same rfl) .nil)) rfl) rfl ?_ | refine lex_R rfl (by kernel_rfl) rfl (st_callV rfl rfl (c_icmp x y) (.cons (.same rfl) (.cons (.same rfl) .nil)) rfl) rfl ?_ | refine aops_nil ?_ | refine lex_done _ rfl (by kernel_rfl) ?_ | refine aw_ct rfl ?_ | refine aw_cf rfl ?_ | refine aw_block ?_ | with_reducible refine then_n ?_ | refine aw_skip ?_ | refine aw_exit ?_ | (with_reducible first | refine then_x ?_ | refine then_r ?_ | refine block_x ?_ | refine block_n ?_ | refine block_r ?_) | refine aw_ret ?_
          refine aw_cond rfl (fun p2 => ?_) (fun p2 => ?_)
          · have q2 := cmp_neg.1 (of_decide_eq_true p2)
            repeat' first | refine aw_seq ?_ | refine aw_region ?_ | (refine isA ?_; refine do_F rfl ?_) | (refine isL ?_; refine lex_F rfl (by kernel_rfl) rfl rfl ?_) | (refine isLg rfl ?_; refine lex_S rfl (by kernel_rfl) rfl rfl ?_) | refine aops_nil ?_ | refine lex_done _ rfl (by kernel_rfl) ?_ | refine aw_ct rfl ?_ | refine aw_cf rfl ?_ | refine aw_block ?_ | with_reducible refine then_n ?_ | refine aw_skip ?_ | refine aw_exit ?_ | (with_reducible first | refine then_x ?_ | refine then_r ?_ | refine block_x ?_ | refine block_n ?_ | refine block_r ?_) | refine aw_ret ?_
            refine aw_per [15, 17] 18 rfl ?_
            refine per_P 0 rfl (by kernel_rfl) rfl (fun _ => rfl) rfl ?_
            refine per_P 1 rfl (by kernel_rfl) rfl (fun _ => rfl) rfl ?_
            refine per_P 2 rfl (by kernel_rfl) rfl (fun _ => rfl) rfl ?_
            refine per_P 3 rfl (by kernel_rfl) rfl (fun _ => rfl) rfl ?_
            refine per_P 4 rfl (by kernel_rfl) rfl (fun _ => rfl) rfl ?_
            refine per_P 5 rfl (by kernel_rfl) rfl (fun _ => rfl) rfl ?_
            refine per_P 6 rfl (by kernel_rfl) rfl (fun _ => rfl) rfl ?_
            refine per_P 7 rfl (by kernel_rfl) rfl (fun _ => rfl) rfl ?_
            refine per_R 8 rfl (by kernel_rfl) rfl (step_ia_sl (j := ((a + A'.length : Nat) : Int)) rfl rfl rfl (Nat.zero_le _) rfl (congrArg I ew) (Int.natCast_nonneg _) (by omega)) rfl ?_
            refine per_R 9 rfl (by kernel_rfl) rfl (ld_a (T := rwT) (i := 0 + (a + A'.length)) (z := y) rfl rfl rfl g0) rfl ?_
            refine per_P 10 rfl (by kernel_rfl) rfl (fun _ => rfl) rfl ?_
            refine per_P 11 rfl (by kernel_rfl) rfl (fun _ => rfl) rfl ?_
            refine per_R 12 rfl (by kernel_rfl) rfl (step_ia_sl (j := ((a + A'.length + 1 : Nat) : Int)) rfl rfl rfl (Nat.zero_le _) rfl (congrArg I ej) (Int.natCast_nonneg _) (by omega)) rfl ?_
            refine per_R 13 rfl (by kernel_rfl) rfl (ld_a (T := rwT) (i := 0 + (a + A'.length + 1)) (z := x) rfl rfl rfl g1) rfl ?_
            refine per_R 14 rfl (by kernel_rfl) rfl (step_ia_sl (j := ((a + A'.length + 1 : Nat) : Int)) rfl rfl rfl (Nat.zero_le _) rfl (congrArg I ej) (Int.natCast_nonneg _) (by omega)) rfl ?_
            refine per_W 15 rfl (by kernel_rfl) rfl rfl (set_l (T := rwT) (i := 0 + (a + A'.length + 1)) (z := y) rfl rfl rfl rfl rfl (List.getElem?_eq_some_iff.1 g1).1) rfl ?_
            refine per_R 16 rfl (by kernel_rfl) rfl (step_ia_sl (j := ((a + A'.length : Nat) : Int)) rfl rfl rfl (Nat.zero_le _) rfl (congrArg I ew) (Int.natCast_nonneg _) (by omega)) rfl ?_
            refine per_W 17 rfl (by kernel_rfl) rfl rfl (set_l (T := rwT) (i := 0 + (a + A'.length)) (z := x) rfl rfl rfl rfl rfl (by rw [List.length_set]; exact (List.getElem?_eq_some_iff.1 g0).1)) rfl ?_
            refine per_done (by kernel_rfl) ?_
            repeat' first | refine aw_seq ?_ | refine aw_region ?_ | refine aw_lex [] ?_ | (refine isA ?_; refine do_F rfl ?_) | (refine isL ?_; refine lex_F rfl (by kernel_rfl) rfl rfl ?_) | (refine isLg rfl ?_; refine lex_S rfl (by kernel_rfl) rfl rfl ?_) | refine aops_nil ?_ | refine lex_done _ rfl (by kernel_rfl) ?_ | refine aw_ct rfl ?_ | refine aw_cf rfl ?_ | refine aw_block ?_ | with_reducible refine then_n ?_ | refine aw_skip ?_ | refine aw_exit ?_ | (with_reducible first | refine then_x ?_ | refine then_r ?_ | refine block_x ?_ | refine block_n ?_ | refine block_r ?_) | refine aw_ret ?_
            refine ⟨⟨(A', y :: B), by rw [← hAB]; simp, fun z hz => by
              rcases List.mem_cons.1 hz with rfl | hz
              · exact q2
              · exact hB z hz⟩, by simp only; omega, ?_⟩
            exact subm 1 [0] rfl rfl fix1 (by decide) (.cons rfl rfl rfl rfl (les_eq (show rwT.flat (((P ++ (A' ++ [y]) ++ x :: B ++ R).set (0 + (a + A'.length + 1)) y).set (0 + (a + A'.length)) x) = rwT.flat (P ++ A' ++ x :: (y :: B) ++ R) by rw [hds, Nat.zero_add, Nat.zero_add, swap_at hu]; simp) (flat_noH _ _)) .nil) (by
              repeat' first | exact les_nil | refine les_cons ?_ ?_ | exact le_any | exact le_refl rfl | exact le_sl rfl rfl | exact le_k (congrArg _ ew.symm))
          · have q2 : leW y x := Classical.byContradiction fun hn => by have := cmp_neg.2 hn; exact absurd this (of_decide_eq_false p2)
            have hfin := ins_split (x := x) (hAB ▸ hso) hB (fun z D hD => by have := List.append_inj' hD rfl; obtain ⟨_, hz⟩ := this; cases hz; exact q2)
            repeat' first | refine aw_seq ?_ | refine aw_region ?_ | refine aw_lex [] ?_ | (refine isA ?_; refine do_F rfl ?_) | (refine isL ?_; refine lex_F rfl (by kernel_rfl) rfl rfl ?_) | (refine isLg rfl ?_; refine lex_S rfl (by kernel_rfl) rfl rfl ?_) | refine aops_nil ?_ | refine lex_done _ rfl (by kernel_rfl) ?_ | refine aw_ct rfl ?_ | refine aw_cf rfl ?_ | refine aw_block ?_ | with_reducible refine then_n ?_ | refine aw_skip ?_ | refine aw_exit ?_ | (with_reducible first | refine then_x ?_ | refine then_r ?_ | refine block_x ?_ | refine block_n ?_ | refine block_r ?_) | refine aw_ret ?_
            refine ⟨⟨i + 1, by omega, by omega⟩, by simp only; omega, ?_⟩
            exact subm 1 [0] rfl rfl fix1 (by decide) (.cons rfl rfl rfl rfl (les_eq (show rwT.flat (P ++ (A' ++ [y]) ++ x :: B ++ R) = rwT.flat (srtR xs a (i + 1)) by rw [eR, ← hAB, ← hfin]; simp) (flat_noH _ _)) .nil) (by
              repeat' first | exact les_nil | refine les_cons ?_ ?_ | exact le_any | exact le_refl rfl | exact le_sl rfl rfl | exact le_i hlt (by omega))
        · have q1 : A.length = 0 := by have := of_decide_eq_false p1; simp only at this; omega
          obtain rfl : A = [] := List.eq_nil_of_length_eq_zero q1
          have hfin := ins_split (x := x) (hAB ▸ hso) hB (fun z D hD => by simp at hD)
          repeat' first | refine aw_seq ?_ | refine aw_region ?_ | refine aw_lex [] ?_ | (refine isA ?_; refine do_F rfl ?_) | (refine isL ?_; refine lex_F rfl (by kernel_rfl) rfl rfl ?_) | (refine isLg rfl ?_; refine lex_S rfl (by kernel_rfl) rfl rfl ?_) | refine aops_nil ?_ | refine lex_done _ rfl (by kernel_rfl) ?_ | refine aw_ct rfl ?_ | refine aw_cf rfl ?_ | refine aw_block ?_ | with_reducible refine then_n ?_ | refine aw_skip ?_ | refine aw_exit ?_ | (with_reducible first | refine then_x ?_ | refine then_r ?_ | refine block_x ?_ | refine block_n ?_ | refine block_r ?_) | refine aw_ret ?_
          refine ⟨⟨i + 1, by omega, by omega⟩, by simp only; omega, ?_⟩
          exact subm 1 [0] rfl rfl fix1 (by decide) (.cons rfl rfl rfl rfl (les_eq (show rwT.flat (P ++ [] ++ x :: B ++ R) = rwT.flat (srtR xs a (i + 1)) by rw [eR, ← hAB, ← hfin]; simp) (flat_noH _ _)) .nil) (by
            repeat' first | exact les_nil | refine les_cons ?_ ?_ | exact le_any | exact le_refl rfl | exact le_sl rfl rfl | exact le_i hlt (by omega))
    · have hge : i = b := by have := of_decide_eq_false h; simp only at this; omega
      subst hge
      repeat' first | refine aw_seq ?_ | refine aw_region ?_ | refine aw_lex [] ?_ | (refine isA ?_; refine do_F rfl ?_) | (refine isL ?_; refine lex_F rfl (by kernel_rfl) rfl rfl ?_) | (refine isLg rfl ?_; refine lex_S rfl (by kernel_rfl) rfl rfl ?_) | exact finMv 1 [0] fix1 (by decide) (.cons rfl rfl rfl rfl (les_refl (flat_noH _ _)) .nil) | refine aops_nil ?_ | refine lex_done _ rfl (by kernel_rfl) ?_ | refine aw_ct rfl ?_ | refine aw_cf rfl ?_ | refine aw_block ?_ | with_reducible refine then_n ?_ | refine aw_skip ?_ | refine aw_exit ?_ | (with_reducible first | refine then_x ?_ | refine then_r ?_ | refine block_x ?_ | refine block_n ?_ | refine block_r ?_) | refine aw_ret ?_
end Go.Proofs.Ytkcicbigpbdjpaa.Ab.Pr

/- PaD -/
-- BY gen_pair.py
/-
  Two ranges exchanged in place: slices.swapRangeCmpFunc@Pair over rows.
-/
namespace Go.Proofs.Ytkcicbigpbdjpaa.Ab.Pr
open Go.RowKit

/-- The first i places exchanged. -/
def swpL (P X M Y Q : List Rw) (i : Nat) : List Rw := P ++ (Y.take i ++ X.drop i) ++ M ++ (X.take i ++ Y.drop i) ++ Q
theorem swp_two {U V W : List Rw} {x y : Rw} {u v : Nat} (hu : U.length = u) (hv : (U ++ x :: V).length = v) : ((U ++ x :: V ++ y :: W).set u y).set v x = U ++ y :: V ++ x :: W := by
  subst hu hv
  have h1 : (U ++ x :: V ++ y :: W).set U.length y = U ++ y :: V ++ y :: W := by
    rw [List.append_assoc, List.set_append_right _ _ (Nat.le_refl _), Nat.sub_self, List.append_assoc]; rfl
  have h2 : (U ++ x :: V).length = (U ++ y :: V).length := by simp
  rw [h1, h2, List.set_append_right _ _ (Nat.le_refl _), Nat.sub_self]
  rfl
theorem c_swapR (P X M Y Q : List Rw) (n : Nat) (hX : X.length = n) (hY : Y.length = n) (hl : (P ++ X ++ M ++ Y ++ Q).length ≤ 100000000) : Meets Go.Proofs.Try.prog 185 [.sl 0 0 (P ++ X ++ M ++ Y ++ Q).length, I P.length, I (P ++ X ++ M).length, I n, .fn 77 []] [rwR (P ++ X ++ M ++ Y ++ Q)] (.tup []) [rwR (P ++ Y ++ M ++ X ++ Q)] true := by
  have hlen : (P ++ X ++ M ++ Y ++ Q).length = P.length + n + M.length + n + Q.length := by simp [hX, hY]; omega
  have hb0 : (P ++ X ++ M).length = P.length + n + M.length := by simp [hX]; omega
  refine meets_of [] Go.Proofs.Try.func185 rfl rfl ?_
  simp only [Go.Proofs.Try.ntmps185, List.length_cons, List.length_nil, Nat.reduceAdd, Nat.reduceSub, List.replicate_succ, List.replicate_zero, List.cons_append, List.nil_append]
  repeat' first | refine aw_seq ?_ | refine aw_region ?_ | refine aw_lex [] ?_ | (refine isA ?_; refine do_F rfl ?_) | (refine isL ?_; refine lex_F rfl (by kernel_rfl) rfl rfl ?_) | (refine isLg rfl ?_; refine lex_S rfl (by kernel_rfl) rfl rfl ?_) | refine aops_nil ?_ | refine lex_done _ rfl (by kernel_rfl) ?_ | refine aw_ct rfl ?_ | refine aw_cf rfl ?_ | refine aw_block ?_ | with_reducible refine then_n ?_ | refine aw_skip ?_ | refine aw_exit ?_ | (with_reducible first | refine then_x ?_ | refine then_r ?_ | refine block_x ?_ | refine block_n ?_ | refine block_r ?_) | refine aw_ret ?_
  refine aw_loop (α := { i : Nat // i ≤ n }) (fun i => ⟨[.sl 0 0 (P ++ X ++ M ++ Y ++ Q).length, I P.length, I (P ++ X ++ M).length, I n, .any, .any, .any, .any, .any, .any, I i.1, .any, .any, .any, .any, .any, .any, .any, .any, .any, .any, .any, .any, .any, .any, .any, .any, .any, .any, .any, .any, .any, .any, .any, .any, .any, .any, .any], [rwR (swpL P X M Y Q i.1)], 1⟩) (fun i => n - i.1) ⟨0, Nat.zero_le _⟩ ?_ ?_
  · exact subm 1 [0] rfl rfl fix1 (by decide) (.cons rfl rfl rfl rfl (les_eq (show rwT.flat (P ++ X ++ M ++ Y ++ Q) = rwT.flat (swpL P X M Y Q 0) by simp [swpL]) (flat_noH _ _)) .nil) (by repeat' first | exact les_nil | refine les_cons ?_ ?_ | exact le_any | exact le_refl rfl | exact le_sl rfl rfl | exact le_ptr rfl)
  · rintro ⟨i, hi⟩
    repeat' first | refine aw_seq ?_ | refine aw_region ?_ | refine aw_lex [] ?_ | (refine isA ?_; refine do_F rfl ?_) | (refine isL ?_; refine lex_F rfl (by kernel_rfl) rfl rfl ?_) | (refine isLg rfl ?_; refine lex_S rfl (by kernel_rfl) rfl rfl ?_) | refine aops_nil ?_ | refine lex_done _ rfl (by kernel_rfl) ?_ | refine aw_ct rfl ?_ | refine aw_cf rfl ?_ | refine aw_block ?_ | with_reducible refine then_n ?_ | refine aw_skip ?_ | refine aw_exit ?_ | (with_reducible first | refine then_x ?_ | refine then_r ?_ | refine block_x ?_ | refine block_n ?_ | refine block_r ?_) | refine aw_ret ?_
    refine aw_cond rfl (fun h => ?_) (fun h => ?_)
    · have hlt : i < n := by have := of_decide_eq_true h; simp only at this; omega
      obtain ⟨x, hx⟩ : ∃ z, X[i]? = some z := ⟨_, List.getElem?_eq_getElem (by omega)⟩
      obtain ⟨y, hy⟩ : ∃ z, Y[i]? = some z := ⟨_, List.getElem?_eq_getElem (by omega)⟩
      have hL : swpL P X M Y Q i = (P ++ Y.take i) ++ x :: (X.drop (i + 1) ++ M ++ X.take i) ++ y :: (Y.drop (i + 1) ++ Q) := by
        rw [swpL, take_drop1 hx, take_drop1 hy]; simp
      have hL2 : swpL P X M Y Q (i + 1) = (P ++ Y.take i) ++ y :: (X.drop (i + 1) ++ M ++ X.take i) ++ x :: (Y.drop (i + 1) ++ Q) := by
        rw [swpL, take_snoc hx, take_snoc hy]; simp
      have hu : (P ++ Y.take i).length = P.length + i := by simp; omega
      have hv : ((P ++ Y.take i) ++ x :: (X.drop (i + 1) ++ M ++ X.take i)).length = (P ++ X ++ M).length + i := by simp; omega
      have ea : IntKind.i64.wrap ((P.length : Int) + (i : Int)) = ((P.length + i : Nat) : Int) := by rw [IntKind.wrap_i64]; omega
      have eb : IntKind.i64.wrap (((P ++ X ++ M).length : Int) + (i : Int)) = (((P ++ X ++ M).length + i : Nat) : Int) := by rw [IntKind.wrap_i64]; omega
      have g0 : (swpL P X M Y Q i)[0 + (P.length + i)]? = some x := by
        rw [hL, List.append_assoc, List.getElem?_append_right (by omega), hu, show 0 + (P.length + i) - (P.length + i) = 0 by omega]; rfl
      have g1 : (swpL P X M Y Q i)[0 + ((P ++ X ++ M).length + i)]? = some y := by
        rw [hL, List.getElem?_append_right (by omega), hv, show 0 + ((P ++ X ++ M).length + i) - ((P ++ X ++ M).length + i) = 0 by omega]; rfl
      have g1' : ((swpL P X M Y Q i).set (0 + (P.length + i)) y).length = (swpL P X M Y Q i).length := List.length_set
      repeat' first | refine aw_seq ?_ | refine aw_region ?_ | (refine isA ?_; refine do_F rfl ?_) | (refine isL ?_; refine lex_F rfl (by kernel_rfl) rfl rfl ?_) | (refine isLg rfl ?_; refine lex_S rfl (by kernel_rfl) rfl rfl ?_) | refine aops_nil ?_ | refine lex_done _ rfl (by kernel_rfl) ?_ | refine aw_ct rfl ?_ | refine aw_cf rfl ?_ | refine aw_block ?_ | with_reducible refine then_n ?_ | refine aw_skip ?_ | refine aw_exit ?_ | (with_reducible first | refine then_x ?_ | refine then_r ?_ | refine block_x ?_ | refine block_n ?_ | refine block_r ?_) | refine aw_ret ?_
      refine aw_per [21, 23] 24 rfl ?_
      refine per_P 0 rfl (by kernel_rfl) rfl (fun _ => rfl) rfl ?_
      refine per_P 1 rfl (by kernel_rfl) rfl (fun _ => rfl) rfl ?_
      refine per_P 2 rfl (by kernel_rfl) rfl (fun _ => rfl) rfl ?_
      refine per_P 3 rfl (by kernel_rfl) rfl (fun _ => rfl) rfl ?_
      refine per_P 4 rfl (by kernel_rfl) rfl (fun _ => rfl) rfl ?_
      refine per_P 5 rfl (by kernel_rfl) rfl (fun _ => rfl) rfl ?_
      refine per_P 6 rfl (by kernel_rfl) rfl (fun _ => rfl) rfl ?_
      refine per_P 7 rfl (by kernel_rfl) rfl (fun _ => rfl) rfl ?_
      refine per_P 8 rfl (by kernel_rfl) rfl (fun _ => rfl) rfl ?_
      refine per_P 9 rfl (by kernel_rfl) rfl (fun _ => rfl) rfl ?_
      refine per_P 10 rfl (by kernel_rfl) rfl (fun _ => rfl) rfl ?_
      refine per_P 11 rfl (by kernel_rfl) rfl (fun _ => rfl) rfl ?_
      refine per_R 12 rfl (by kernel_rfl) rfl (step_ia_sl (j := (((P ++ X ++ M).length + i : Nat) : Int)) rfl rfl rfl (Nat.zero_le _) rfl (congrArg I eb) (Int.natCast_nonneg _) (by omega)) rfl ?_
      refine per_R 13 rfl (by kernel_rfl) rfl (ld_a (T := rwT) (i := 0 + ((P ++ X ++ M).length + i)) (z := y) rfl rfl rfl g1) rfl ?_
      refine per_P 14 rfl (by kernel_rfl) rfl (fun _ => rfl) rfl ?_
      refine per_P 15 rfl (by kernel_rfl) rfl (fun _ => rfl) rfl ?_
      refine per_P 16 rfl (by kernel_rfl) rfl (fun _ => rfl) rfl ?_
      refine per_P 17 rfl (by kernel_rfl) rfl (fun _ => rfl) rfl ?_
      refine per_R 18 rfl (by kernel_rfl) rfl (step_ia_sl (j := ((P.length + i : Nat) : Int)) rfl rfl rfl (Nat.zero_le _) rfl (congrArg I ea) (Int.natCast_nonneg _) (by omega)) rfl ?_
      refine per_R 19 rfl (by kernel_rfl) rfl (ld_a (T := rwT) (i := 0 + (P.length + i)) (z := x) rfl rfl rfl g0) rfl ?_
      refine per_R 20 rfl (by kernel_rfl) rfl (step_ia_sl (j := ((P.length + i : Nat) : Int)) rfl rfl rfl (Nat.zero_le _) rfl (congrArg I ea) (Int.natCast_nonneg _) (by omega)) rfl ?_
      refine per_W 21 rfl (by kernel_rfl) rfl rfl (set_l (T := rwT) (i := 0 + (P.length + i)) (z := y) rfl rfl rfl rfl rfl (List.getElem?_eq_some_iff.1 g0).1) rfl ?_
      refine per_R 22 rfl (by kernel_rfl) rfl (step_ia_sl (j := (((P ++ X ++ M).length + i : Nat) : Int)) rfl rfl rfl (Nat.zero_le _) rfl (congrArg I eb) (Int.natCast_nonneg _) (by omega)) rfl ?_
      refine per_W 23 rfl (by kernel_rfl) rfl rfl (set_l (T := rwT) (i := 0 + ((P ++ X ++ M).length + i)) (z := x) rfl rfl rfl rfl rfl (by rw [List.length_set]; exact (List.getElem?_eq_some_iff.1 g1).1)) rfl ?_
      refine per_done (by kernel_rfl) ?_
      repeat' first | refine aw_seq ?_ | refine aw_region ?_ | refine aw_lex [] ?_ | (refine isA ?_; refine do_F rfl ?_) | (refine isL ?_; refine lex_F rfl (by kernel_rfl) rfl rfl ?_) | (refine isLg rfl ?_; refine lex_S rfl (by kernel_rfl) rfl rfl ?_) | refine aops_nil ?_ | refine lex_done _ rfl (by kernel_rfl) ?_ | refine aw_ct rfl ?_ | refine aw_cf rfl ?_ | refine aw_block ?_ | with_reducible refine then_n ?_ | refine aw_skip ?_ | refine aw_exit ?_ | (with_reducible first | refine then_x ?_ | refine then_r ?_ | refine block_x ?_ | refine block_n ?_ | refine block_r ?_) | refine aw_ret ?_
      refine ⟨⟨i + 1, hlt⟩, by simp only; omega, ?_⟩
      exact subm 1 [0] rfl rfl fix1 (by decide) (.cons rfl rfl rfl rfl (les_eq (show rwT.flat (((swpL P X M Y Q i).set (0 + (P.length + i)) y).set (0 + ((P ++ X ++ M).length + i)) x) = rwT.flat (swpL P X M Y Q (i + 1)) by rw [hL, Nat.zero_add, Nat.zero_add, swp_two hu hv, hL2]) (flat_noH _ _)) .nil) (by
        repeat' first | exact les_nil | refine les_cons ?_ ?_ | exact le_any | exact le_refl rfl | exact le_sl rfl rfl | exact le_i hlt (by omega))
    · have hge : i = n := by have := of_decide_eq_false h; simp only at this; omega
      subst hge
      have e : swpL P X M Y Q i = P ++ Y ++ M ++ X ++ Q := by
        rw [swpL, List.take_of_length_le (by omega), List.take_of_length_le (by omega), List.drop_of_length_le (by omega), List.drop_of_length_le (by omega)]; simp
      repeat' first | refine aw_seq ?_ | refine aw_region ?_ | refine aw_lex [] ?_ | (refine isA ?_; refine do_F rfl ?_) | (refine isL ?_; refine lex_F rfl (by kernel_rfl) rfl rfl ?_) | (refine isLg rfl ?_; refine lex_S rfl (by kernel_rfl) rfl rfl ?_) | exact finMv 1 [0] fix1 (by decide) (.cons rfl rfl rfl rfl (les_eq (show rwT.flat (swpL P X M Y Q i) = rwT.flat (P ++ Y ++ M ++ X ++ Q) by rw [e]) (flat_noH _ _)) .nil) | refine aops_nil ?_ | refine lex_done _ rfl (by kernel_rfl) ?_ | refine aw_ct rfl ?_ | refine aw_cf rfl ?_ | refine aw_block ?_ | with_reducible refine then_n ?_ | refine aw_skip ?_ | refine aw_exit ?_ | (with_reducible first | refine then_x ?_ | refine then_r ?_ | refine block_x ?_ | refine block_n ?_ | refine block_r ?_) | refine aw_ret ?_
end Go.Proofs.Ytkcicbigpbdjpaa.Ab.Pr

/- PaE -/
-- BY gen_pair.py
/-
  Two ranges that lie side by side change places: slices.rotateCmpFunc@Pair over rows.
-/
namespace Go.Proofs.Ytkcicbigpbdjpaa.Ab.Pr
open Go.RowKit

theorem c_swapX {ds : List Rw} {L : Nat} {a b n : Int} (P X M Y Q : List Rw) (hd : ds = P ++ X ++ M ++ Y ++ Q) (hL : L = ds.length) (hl : L ≤ 100000000) (ha : a = (P.length : Int)) (hb : b = ((P ++ X ++ M).length : Int)) (hn : n = (X.length : Int)) (hY : Y.length = X.length) :
    Meets Go.Proofs.Try.prog 185 [.sl 0 0 L, I a, I b, I n, .fn 77 []] [rwR ds] (.tup []) [rwR (P ++ Y ++ M ++ X ++ Q)] true := by
  subst hd hL ha hb hn
  exact c_swapR P X M Y Q X.length rfl hY hl

structure RotI (m : Nat) (T : List Rw) (p : List Rw × List Rw × List Rw × List Rw) : Prop where
  m : p.1.length + p.2.1.length = m
  t : p.1 ++ p.2.2.1 ++ p.2.1 ++ p.2.2.2 = T
  x : 0 < p.2.1.length
  y : 0 < p.2.2.1.length
theorem RotI.len {m : Nat} {T : List Rw} {p : List Rw × List Rw × List Rw × List Rw} (h : RotI m T p) : (p.1 ++ p.2.1 ++ p.2.2.1 ++ p.2.2.2).length = T.length := by
  rw [← h.t]; simp; omega

theorem c_rotate (P X Y Q : List Rw) (hx : 0 < X.length) (hy : 0 < Y.length) (hl : (P ++ X ++ Y ++ Q).length ≤ 100000000) : Meets Go.Proofs.Try.prog 179 [.sl 0 0 (P ++ X ++ Y ++ Q).length, I P.length, I (P ++ X).length, I (P ++ X ++ Y).length, .fn 77 []] [rwR (P ++ X ++ Y ++ Q)] (.tup []) [rwR (P ++ Y ++ X ++ Q)] true := by
  obtain ⟨T, hT⟩ : ∃ T, T = P ++ Y ++ X ++ Q := ⟨_, rfl⟩
  have hTl : (P ++ X ++ Y ++ Q).length = T.length := by rw [hT]; simp; omega
  have l1 : (P ++ X).length = P.length + X.length := by simp
  have l2 : (P ++ X ++ Y).length = P.length + X.length + Y.length := by simp; omega
  have l3 : (P ++ X ++ Y ++ Q).length = P.length + X.length + Y.length + Q.length := by simp; omega
  have I0 : RotI (P ++ X).length T (P, X, Y, Q) := ⟨l1.symm, hT.symm, hx, hy⟩
  rw [← hT]
  generalize hm : (P ++ X).length = m at I0 l1 ⊢
  generalize hL : (P ++ X ++ Y ++ Q).length = L at hl hTl l3 ⊢
  refine meets_of [] Go.Proofs.Try.func179 rfl rfl ?_
  simp only [Go.Proofs.Try.ntmps179, List.length_cons, List.length_nil, Nat.reduceAdd, Nat.reduceSub, List.replicate_succ, List.replicate_zero, List.cons_append, List.nil_append]
  repeat' first | refine aw_seq ?_ | refine aw_region ?_ | refine aw_lex [] ?_ | (refine isA ?_; refine do_F rfl ?_) | (refine isL ?_; refine lex_F rfl (by kernel_rfl) rfl rfl ?_) | (refine isLg rfl ?_; refine lex_S rfl (by kernel_rfl) rfl rfl ?_) | refine aops_nil ?_ | refine lex_done _ rfl (by kernel_rfl) ?_ | refine aw_ct rfl ?_ | refine aw_cf rfl ?_ | refine aw_block ?_ | with_reducible refine then_n ?_ | refine aw_skip ?_ | refine aw_exit ?_ | (with_reducible first | refine then_x ?_ | refine then_r ?_ | refine block_x ?_ | refine block_n ?_ | refine block_r ?_) | refine aw_ret ?_
  refine aw_loop (α := { p : List Rw × List Rw × List Rw × List Rw // RotI m T p }) (fun p => ⟨[.sl 0 0 L, .any, I m, .any, .fn 77 [], .any, .any, .any, .any, .any, I p.1.2.1.length, I p.1.2.2.1.length, .any, .any, .any, .any, .any, .any, .any, .any, .any, .any, .any, .any, .any, .any, .any, .any, .any, .any, .any, .any, .any, .any, .any, .any, .any, .any, .any, .any, .any, .any, .any, .any, .any, .any, .any, .any, .any, .any, .any, .any, .any, .any, .any, .any, .any, .any], [rwR (p.1.1 ++ p.1.2.1 ++ p.1.2.2.1 ++ p.1.2.2.2)], 1⟩) (fun p => p.1.2.1.length + p.1.2.2.1.length) ⟨(P, X, Y, Q), I0⟩ ?_ ?_
  · exact subm 1 [0] rfl rfl fix1 (by decide) (.cons rfl rfl rfl rfl (les_refl (flat_noH _ _)) .nil) (by
      repeat' first | exact les_nil | refine les_cons ?_ ?_ | exact le_any | exact le_refl rfl | exact le_sl rfl rfl | exact le_k (congrArg _ (show (X.length : Int) = IntKind.i64.wrap ((m : Int) - (P.length : Int)) by rw [IntKind.wrap_i64]; omega)) | exact le_k (congrArg _ (show (Y.length : Int) = IntKind.i64.wrap (((P ++ X ++ Y).length : Int) - (m : Int)) by rw [IntKind.wrap_i64]; omega)))
  · rintro ⟨⟨A, C, D, E⟩, J⟩
    have j1 : A.length + C.length = m := J.m
    have j2 : A ++ D ++ C ++ E = T := J.t
    have j3 : 0 < C.length := J.x
    have j4 : 0 < D.length := J.y
    have j5 : (A ++ C ++ D ++ E).length = T.length := J.len
    have j6 : A.length + C.length + D.length + E.length = T.length := by rw [← j5]; simp; omega
    have e1 : IntKind.i64.wrap ((m : Int) - (C.length : Int)) = (A.length : Int) := by rw [IntKind.wrap_i64]; omega
    repeat' first | refine aw_seq ?_ | refine aw_region ?_ | refine aw_lex [] ?_ | (refine isA ?_; refine do_F rfl ?_) | (refine isL ?_; refine lex_F rfl (by kernel_rfl) rfl rfl ?_) | (refine isLg rfl ?_; refine lex_S rfl (by kernel_rfl) rfl rfl ?_) | refine aops_nil ?_ | refine lex_done _ rfl (by kernel_rfl) ?_ | refine aw_ct rfl ?_ | refine aw_cf rfl ?_ | refine aw_block ?_ | with_reducible refine then_n ?_ | refine aw_skip ?_ | refine aw_exit ?_ | (with_reducible first | refine then_x ?_ | refine then_r ?_ | refine block_x ?_ | refine block_n ?_ | refine block_r ?_) | refine aw_ret ?_
    refine aw_cond rfl (fun h => ?_) (fun h => ?_)
    · have hne : C.length ≠ D.length := by intro e; simp [e] at h
      repeat' first | refine aw_seq ?_ | refine aw_region ?_ | refine aw_lex [] ?_ | (refine isA ?_; refine do_F rfl ?_) | (refine isL ?_; refine lex_F rfl (by kernel_rfl) rfl rfl ?_) | (refine isLg rfl ?_; refine lex_S rfl (by kernel_rfl) rfl rfl ?_) | refine aops_nil ?_ | refine lex_done _ rfl (by kernel_rfl) ?_ | refine aw_ct rfl ?_ | refine aw_cf rfl ?_ | refine aw_block ?_ | with_reducible refine then_n ?_ | refine aw_skip ?_ | refine aw_exit ?_ | (with_reducible first | refine then_x ?_ | refine then_r ?_ | refine block_x ?_ | refine block_n ?_ | refine block_r ?_) | refine aw_ret ?_
      refine aw_cond rfl (fun q => ?_) (fun q => ?_)
      · have hgt : D.length < C.length := by have := of_decide_eq_true q; simp only at this; omega
        have t1 : (C.take D.length).length = D.length := by simp; omega
        have t2 : C.take D.length ++ C.drop D.length = C := List.take_append_drop _ _
        have sw := c_swapX (ds := A ++ C ++ D ++ E) (L := L) (a := IntKind.i64.wrap ((m : Int) - (C.length : Int))) (b := (m : Int)) (n := (D.length : Int)) A (C.take D.length) (C.drop D.length) D E (by have q : A ++ (C.take D.length ++ C.drop D.length) ++ D ++ E = A ++ C.take D.length ++ C.drop D.length ++ D ++ E := (by simp only [List.append_assoc]); rw [t2] at q; exact q) (by omega) (by omega) e1 (by rw [List.append_assoc A, t2, List.length_append]; omega) (by omega) (by omega)
        repeat' first | refine aw_seq ?_ | refine aw_region ?_ | refine aw_lex [] ?_ | (refine isA ?_; refine do_F rfl ?_) | (refine isL ?_; refine lex_F rfl (by kernel_rfl) rfl rfl ?_) | (refine isLg rfl ?_; refine lex_S rfl (by kernel_rfl) rfl rfl ?_) | (refine isAc 185 ?_; refine do_R rfl (step_callMs (K := []) (Rs' := [_]) [0] (by decide) rfl sw (.cons rfl rfl rfl (flat_noH _ _) (flat_noH _ _) .nil) (.cons (.sl rfl) (.cons (.same rfl) (.cons (.same rfl) (.cons (.same rfl) (.cons (.same rfl) .nil))))) (fun q hq => by cases hq) rfl) rfl ?_) | (refine isLc 185 rfl ?_; refine lex_R rfl (by kernel_rfl) rfl (step_callMs (K := []) (Rs' := [_]) [0] (by decide) rfl sw (.cons rfl rfl rfl (flat_noH _ _) (flat_noH _ _) .nil) (.cons (.sl rfl) (.cons (.same rfl) (.cons (.same rfl) (.cons (.same rfl) (.cons (.same rfl) .nil))))) (fun q hq => by cases hq) rfl) rfl ?_) | refine aops_nil ?_ | refine lex_done _ rfl (by kernel_rfl) ?_ | refine aw_ct rfl ?_ | refine aw_cf rfl ?_ | refine aw_block ?_ | with_reducible refine then_n ?_ | refine aw_skip ?_ | refine aw_exit ?_ | (with_reducible first | refine then_x ?_ | refine then_r ?_ | refine block_x ?_ | refine block_n ?_ | refine block_r ?_) | refine aw_ret ?_
        refine ⟨⟨(A ++ D, C.drop D.length, C.take D.length, E), ⟨by simp; omega, by rw [← j2]; simp only [List.append_assoc]; rw [← List.append_assoc (C.take D.length), t2], by simp; omega, by simp; omega⟩⟩, by simp only [List.length_drop, t1]; omega, ?_⟩
        exact subm 1 [0] rfl rfl fix1 (by decide) (.cons rfl rfl rfl rfl (les_refl (flat_noH _ _)) .nil) (by
          repeat' first | exact les_nil | refine les_cons ?_ ?_ | exact le_any | exact le_refl rfl | exact le_sl rfl rfl | exact le_k (congrArg _ (show ((C.take D.length).length : Int) = (D.length : Int) by omega)) | exact le_k (congrArg _ (show ((C.drop D.length).length : Int) = IntKind.i64.wrap ((C.length : Int) - (D.length : Int)) by rw [IntKind.wrap_i64, List.length_drop]; omega)))
      · have hlt : C.length < D.length := by have := of_decide_eq_false q; simp only at this; omega
        have t1 : (D.drop (D.length - C.length)).length = C.length := by simp; omega
        have t2 : D.take (D.length - C.length) ++ D.drop (D.length - C.length) = D := List.take_append_drop _ _
        have t3 : (D.take (D.length - C.length)).length = D.length - C.length := by simp
        have sw := c_swapX (ds := A ++ C ++ D ++ E) (L := L) (a := IntKind.i64.wrap ((m : Int) - (C.length : Int))) (b := IntKind.i64.wrap (IntKind.i64.wrap ((m : Int) + (D.length : Int)) - (C.length : Int))) (n := (C.length : Int)) A C (D.take (D.length - C.length)) (D.drop (D.length - C.length)) E (by have q : A ++ C ++ (D.take (D.length - C.length) ++ D.drop (D.length - C.length)) ++ E = A ++ C ++ D.take (D.length - C.length) ++ D.drop (D.length - C.length) ++ E := (by simp only [List.append_assoc]); rw [t2] at q; exact q) (by omega) (by omega) e1 (by
          rw [show IntKind.i64.wrap ((m : Int) + (D.length : Int)) = (m : Int) + D.length by rw [IntKind.wrap_i64]; omega, IntKind.wrap_i64, List.length_append, List.length_append, t3]; omega) rfl t1
        repeat' first | refine aw_seq ?_ | refine aw_region ?_ | refine aw_lex [] ?_ | (refine isA ?_; refine do_F rfl ?_) | (refine isL ?_; refine lex_F rfl (by kernel_rfl) rfl rfl ?_) | (refine isLg rfl ?_; refine lex_S rfl (by kernel_rfl) rfl rfl ?_) | (refine isAc 185 ?_; refine do_R rfl (step_callMs (K := []) (Rs' := [_]) [0] (by decide) rfl sw (.cons rfl rfl rfl (flat_noH _ _) (flat_noH _ _) .nil) (.cons (.sl rfl) (.cons (.same rfl) (.cons (.same rfl) (.cons (.same rfl) (.cons (.same rfl) .nil))))) (fun q hq => by cases hq) rfl) rfl ?_) | (refine isLc 185 rfl ?_; refine lex_R rfl (by kernel_rfl) rfl (step_callMs (K := []) (Rs' := [_]) [0] (by decide) rfl sw (.cons rfl rfl rfl (flat_noH _ _) (flat_noH _ _) .nil) (.cons (.sl rfl) (.cons (.same rfl) (.cons (.same rfl) (.cons (.same rfl) (.cons (.same rfl) .nil))))) (fun q hq => by cases hq) rfl) rfl ?_) | refine aops_nil ?_ | refine lex_done _ rfl (by kernel_rfl) ?_ | refine aw_ct rfl ?_ | refine aw_cf rfl ?_ | refine aw_block ?_ | with_reducible refine then_n ?_ | refine aw_skip ?_ | refine aw_exit ?_ | (with_reducible first | refine then_x ?_ | refine then_r ?_ | refine block_x ?_ | refine block_n ?_ | refine block_r ?_) | refine aw_ret ?_
        refine ⟨⟨(A, D.drop (D.length - C.length), D.take (D.length - C.length), C ++ E), ⟨by simp only; omega, by rw [← j2]; simp only [List.append_assoc]; rw [← List.append_assoc (D.take (D.length - C.length)), t2], by simp only; omega, by simp only; omega⟩⟩, by simp only [t1, t3]; omega, ?_⟩
        exact subm 1 [0] rfl rfl fix1 (by decide) (.cons rfl rfl rfl rfl (les_eq (congrArg rwT.flat (by simp)) (flat_noH _ _)) .nil) (by
          repeat' first | exact les_nil | refine les_cons ?_ ?_ | exact le_any | exact le_refl rfl | exact le_sl rfl rfl | exact le_k (congrArg _ (show ((D.drop (D.length - C.length)).length : Int) = (C.length : Int) by omega)) | exact le_k (congrArg _ (show ((D.take (D.length - C.length)).length : Int) = IntKind.i64.wrap ((D.length : Int) - (C.length : Int)) by rw [IntKind.wrap_i64, t3]; omega)))
    · have heq : C.length = D.length := by have : (C.length : Int) = D.length := (by simpa using h); omega
      have sw := c_swapX (ds := A ++ C ++ D ++ E) (L := L) (a := IntKind.i64.wrap ((m : Int) - (C.length : Int))) (b := (m : Int)) (n := (C.length : Int)) A C [] D E (by simp) (by omega) (by omega) e1 (by simp; omega) rfl heq.symm
      repeat' first | refine aw_seq ?_ | refine aw_region ?_ | refine aw_lex [] ?_ | (refine isA ?_; refine do_F rfl ?_) | (refine isL ?_; refine lex_F rfl (by kernel_rfl) rfl rfl ?_) | (refine isLg rfl ?_; refine lex_S rfl (by kernel_rfl) rfl rfl ?_) | (refine isAc 185 ?_; refine do_R rfl (step_callMs (K := []) (Rs' := [_]) [0] (by decide) rfl sw (.cons rfl rfl rfl (flat_noH _ _) (flat_noH _ _) .nil) (.cons (.sl rfl) (.cons (.same rfl) (.cons (.same rfl) (.cons (.same rfl) (.cons (.same rfl) .nil))))) (fun q hq => by cases hq) rfl) rfl ?_) | (refine isLc 185 rfl ?_; refine lex_R rfl (by kernel_rfl) rfl (step_callMs (K := []) (Rs' := [_]) [0] (by decide) rfl sw (.cons rfl rfl rfl (flat_noH _ _) (flat_noH _ _) .nil) (.cons (.sl rfl) (.cons (.same rfl) (.cons (.same rfl) (.cons (.same rfl) (.cons (.same rfl) .nil))))) (fun q hq => by cases hq) rfl) rfl ?_) | exact finMv 1 [0] fix1 (by decide) (.cons rfl rfl rfl rfl (les_eq (congrArg rwT.flat (by rw [← j2]; simp)) (flat_noH _ _)) .nil) | refine aops_nil ?_ | refine lex_done _ rfl (by kernel_rfl) ?_ | refine aw_ct rfl ?_ | refine aw_cf rfl ?_ | refine aw_block ?_ | with_reducible refine then_n ?_ | refine aw_skip ?_ | refine aw_exit ?_ | (with_reducible first | refine then_x ?_ | refine then_r ?_ | refine block_x ?_ | refine block_n ?_ | refine block_r ?_) | refine aw_ret ?_
end Go.Proofs.Ytkcicbigpbdjpaa.Ab.Pr

/- PaF -/
-- BY gen_pair.py
/-
  Where two lists in order are cut so that what lies left stands not behind what lies right (plain part of symMerge).
-/
namespace Go.Proofs.Ytkcicbigpbdjpaa.Ab.Pr
open Go.RowKit

theorem srt_split {xs : List Rw} (h : Srt xs) (u : Nat) : ∀ x ∈ xs.take u, ∀ y ∈ xs.drop u, leW x y := by
  have h' : Srt (xs.take u ++ xs.drop u) := by rw [List.take_append_drop]; exact h
  exact (List.pairwise_append.1 h').2.2
/-- What lies left of a cut in A stands not behind what lies right of a cut in B. -/
theorem cut_le {A B : List Rw} {u v : Nat} (hA : Srt A) (hB : Srt B) (hu : u ≤ A.length) (h : ∀ x y, 0 < u → A[u - 1]? = some x → B[v]? = some y → leW x y) : ∀ x ∈ A.take u, ∀ y ∈ B.drop v, leW x y := fun x hx y hy => by
  obtain ⟨i, hi⟩ := List.getElem?_of_mem hx
  obtain ⟨j, hj⟩ := List.getElem?_of_mem hy
  have hlt : i < u := by
    have := (List.getElem?_eq_some_iff.1 hi).1
    simp at this
    omega
  rw [List.getElem?_take_of_lt hlt] at hi
  rw [List.getElem?_drop] at hj
  have hvl := (List.getElem?_eq_some_iff.1 hj).1
  obtain ⟨x', hx'⟩ : ∃ z, A[u - 1]? = some z := ⟨_, List.getElem?_eq_getElem (by omega)⟩
  obtain ⟨y', hy'⟩ : ∃ z, B[v]? = some z := ⟨_, List.getElem?_eq_getElem (by omega)⟩
  exact leW_trans (srt_le hA (show i ≤ u - 1 by omega) hi hx') (leW_trans (h x' y' (by omega) hx' hy') (srt_le hB (Nat.le_add_right v j) hy' hj))
theorem sym_cut {A B : List Rw} {u v : Nat} (hA : Srt A) (hB : Srt B) (hu : u ≤ A.length) (hv : v ≤ B.length) (h1 : ∀ x y, 0 < u → A[u - 1]? = some x → B[v]? = some y → leW x y) (h2 : ∀ y x, 0 < v → B[v - 1]? = some y → A[u]? = some x → leW y x) :
    srtV (A.take u ++ B.take v) ++ srtV (A.drop u ++ B.drop v) = srtV (A ++ B) := by
  refine srtV_of ?_ ?_
  · refine List.pairwise_append.2 ⟨srtV_srt _, srtV_srt _, fun x hx y hy => ?_⟩
    have hx' := (srtV_perm _).mem_iff.1 hx
    have hy' := (srtV_perm _).mem_iff.1 hy
    rcases List.mem_append.1 hx' with hx' | hx' <;> rcases List.mem_append.1 hy' with hy' | hy'
    · exact srt_split hA u x hx' y hy'
    · exact cut_le hA hB hu h1 x hx' y hy'
    · exact cut_le hB hA hv h2 x hx' y hy'
    · exact srt_split hB v x hx' y hy'
  · refine ((srtV_perm _).append (srtV_perm _)).trans ?_
    have e : (A ++ B).Perm ((A.take u ++ A.drop u) ++ (B.take v ++ B.drop v)) := by rw [List.take_append_drop, List.take_append_drop]
    refine List.Perm.trans ?_ e.symm
    rw [List.append_assoc, List.append_assoc]
    refine List.Perm.append_left _ ?_
    rw [← List.append_assoc, ← List.append_assoc]
    exact List.Perm.append_right _ List.perm_append_comm
end Go.Proofs.Ytkcicbigpbdjpaa.Ab.Pr
