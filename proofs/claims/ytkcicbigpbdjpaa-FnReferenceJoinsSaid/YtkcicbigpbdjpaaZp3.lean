/- What the row FnReferenceJoins leans on, part 4: a walk over abstract values, and contracts proved with it. -/
import Derived.WalkKit
import Derived.Laws.Rows
import Derived.RowKit
import Derived.OrdersHeld
import Derived.Deep.RegionHeld3
import Derived.Deep.Draws
import Derived.BigCall
import Derived.KernelRfl
import Derived.Deep.Slices
import Derived.ChangeArms
import Derived.ChangeShapes
import Derived.WideShapes
import Derived.Test.YtkcicbigpbdjpaaProg
import Derived.Laws.StructEq
import Derived.Lib.Overlaps
import Derived.Laws.BytesString
import Derived.Test.YtkcicbigpbdjpaaZp2
set_option linter.unusedVariables false
set_option linter.unusedSimpArgs false
set_option maxRecDepth 20000
set_option maxHeartbeats 8000000
namespace Go.Proofs.Ytkcicbigpbdjpaa.Ab.Pr
open Go.RowKit
abbrev bxR (l : Go.Proofs.Ytkcicbigpbdjpaa.Ab.Rw) : Reg := ⟨71, 3, Go.Proofs.Ytkcicbigpbdjpaa.Ab.rwE l, 0⟩
theorem mM {P : Program} (id : Nat) {ops : Array Oper} {b : Bool} {c y : Code} {Q : Exit → St → Prop} {S : St} (T : St) (h : AW P (.seq (.region id ops b) c) (fun e S' => e = .normal ∧ Sub T S') S) (k : AW P y Q T) : AW P (.seq (.seq (.region id ops b) c) y) Q S :=
  zJ ⟨fun C φ a w hI => wp_mono (h.out C φ a w hI) fun e a' w' hq => by
    obtain ⟨S', φ1, hI', he, hs⟩ := hq
    subst he
    obtain ⟨φ2, h2⟩ := hs C φ1 a' w' hI'
    exact ⟨T, φ2, h2, k⟩⟩
theorem vh (k : Int) (a b : List Go.Proofs.Ytkcicbigpbdjpaa.Ab.Rw) (h1 : a.length ≤ 1000) (h2 : b.length ≤ 1000) : zn Go.Proofs.Try.prog 68 [I k, Go.Proofs.Ytkcicbigpbdjpaa.Ab.rwL a, Go.Proofs.Ytkcicbigpbdjpaa.Ab.rwL b] [] (.sl 0 0 (yE k a b).length) [rwR (yE k a b)] false := by
  refine zj [6] Go.Proofs.Try.func68 rfl rfl ?_
  simp only [Go.Proofs.Try.ntmps68, List.length_cons, List.length_nil, Nat.reduceAdd, Nat.reduceSub, List.replicate_succ, List.replicate_zero, List.cons_append, List.nil_append]
  repeat' first | refine zJ ?_ | refine zA ?_ | refine zO [] ?_ | (refine isA ?_; refine zb rfl ?_) | (refine isL ?_; refine zU rfl (by kernel_rfl) rfl rfl ?_) | (refine za rfl ?_; refine zT rfl (by kernel_rfl) rfl rfl ?_) | refine zD ?_ | refine zB _ rfl (by kernel_rfl) ?_ | refine zV rfl ?_ | refine zW rfl ?_ | refine zC ?_ | with_reducible refine zM ?_ | refine zH ?_ | refine zI ?_ | (with_reducible first | refine zK ?_ | refine zL ?_ | refine zE ?_ | refine zG ?_ | refine zF ?_) | refine zN ?_
  refine zy (α := { p : Nat × List Rw // p.1 ≤ a.length ∧ p.2 = yE k (a.take p.1) b }) (fun p => ⟨((I k) :: (Go.Proofs.Ytkcicbigpbdjpaa.Ab.rwL a) :: (Go.Proofs.Ytkcicbigpbdjpaa.Ab.rwL b) :: .any :: .any :: .any :: .any :: (.sl 0 0 p.1.2.length) :: .any :: .any :: .any :: .any :: .any :: .any :: (Go.Proofs.Ytkcicbigpbdjpaa.Ab.rwL a) :: (I a.length) :: (I p.1.1) :: .any :: .any :: .any :: .any :: .any :: .any :: .any :: .any :: .any :: .any :: .any :: .any :: .any :: .any :: .any :: .any :: .any :: .any :: .any :: .any :: .any :: .any :: .any :: .any :: .any :: .any :: .any :: .any :: .any :: .any :: .any :: .any :: .any :: .any :: .any :: .any :: .any :: .any :: .any :: .any :: .any :: .any :: .any :: .any :: .any :: .any :: .any :: .any :: .any :: .any :: .any :: .any :: .any :: .any :: .any :: .any :: .any :: .any :: .any :: []), [rwR p.1.2], 0⟩) (fun p => a.length - p.1.1) ⟨(0, []), Nat.zero_le _, rfl⟩ ?_ ?_
  · exact yq [0] rfl rfl (by decide) (.cons rfl rfl rfl rfl (zg (zR _ _)) .nil) (by repeat' first | exact zh | refine zc ?_ ?_ | exact zl | exact le_refl rfl | exact zm rfl rfl | exact zz rfl)
  · rintro ⟨⟨i, out⟩, hi, ho⟩
    simp only at hi ho
    repeat' first | refine zJ ?_ | refine zA ?_ | refine zO [] ?_ | (refine isA ?_; refine zb rfl ?_) | (refine isL ?_; refine zU rfl (by kernel_rfl) rfl rfl ?_) | (refine za rfl ?_; refine zT rfl (by kernel_rfl) rfl rfl ?_) | refine zD ?_ | refine zB _ rfl (by kernel_rfl) ?_ | refine zV rfl ?_ | refine zW rfl ?_ | refine zC ?_ | with_reducible refine zM ?_ | refine zH ?_ | refine zI ?_ | (with_reducible first | refine zK ?_ | refine zL ?_ | refine zE ?_ | refine zG ?_ | refine zF ?_) | refine zN ?_
    refine zf rfl (fun h => ?_) (fun h => ?_)
    · have hlt : i < a.length := by simpa using h
      obtain ⟨l, hl⟩ : ∃ z, a[i]? = some z := ⟨_, List.getElem?_eq_getElem hlt⟩
      have hs := vw (k := k) (b := b) hl
      have hjl : out.length ≤ 1002000 := by
        rw [ho]
        have := wG k b (a.take i)
        have h3 : (a.take i).length ≤ 1000 := by simp; omega
        have h4 : (a.take i).length * (b.length + 1) ≤ 1000 * 1001 := Nat.mul_le_mul h3 (by omega)
        omega
      have hol := tP k b l
      rw [x5, ← ho, ← List.append_assoc] at hs
      have hn := wl l b
      have ci := up l b (by omega)
      repeat' first | (refine mM 6 ⟨((I k) :: (Go.Proofs.Ytkcicbigpbdjpaa.Ab.rwL a) :: (Go.Proofs.Ytkcicbigpbdjpaa.Ab.rwL b) :: .any :: .any :: .any :: .any :: (.sl 0 0 (out ++ cond (c6 k (yB l b)) (xS l b) []).length) :: .any :: (.ptr 1 0) :: (I (yB l b)) :: .any :: .any :: .any :: (Go.Proofs.Ytkcicbigpbdjpaa.Ab.rwL a) :: (I a.length) :: (I i) :: .any :: .any :: .any :: .any :: .any :: .any :: .any :: .any :: .any :: .any :: .any :: .any :: .any :: .any :: .any :: .any :: .any :: .any :: .any :: .any :: .any :: .any :: .any :: .any :: .any :: .any :: .any :: .any :: .any :: .any :: .any :: .any :: .any :: .any :: .any :: .any :: .any :: .any :: .any :: .any :: .any :: .any :: .any :: .any :: .any :: .any :: .any :: .any :: .any :: .any :: .any :: .any :: .any :: .any :: .any :: .any :: .any :: .any :: .any :: []), [rwR (out ++ cond (c6 k (yB l b)) (xS l b) []), bxR l], 0⟩ (pX ?_) (pX ?_)) | refine zJ ?_ | refine zA ?_ | refine zO [] ?_ | (refine isA ?_; refine zb rfl ?_) | (refine isL ?_; refine zU rfl (by kernel_rfl) rfl rfl ?_) | (refine za rfl ?_; refine zT rfl (by kernel_rfl) rfl rfl ?_) | (refine yn (x := .tmp 14) ?_; refine zd rfl (yT (t := Go.Proofs.Ytkcicbigpbdjpaa.Ab.rwT) (z := l) rfl rfl rfl rfl (Int.natCast_nonneg i) hl) rfl ?_) | (refine ym (x := .tmp 14) rfl ?_; refine zY rfl (by kernel_rfl) rfl (yT (t := Go.Proofs.Ytkcicbigpbdjpaa.Ab.rwT) (z := l) rfl rfl rfl rfl (Int.natCast_nonneg i) hl) rfl ?_) | (refine zq 74 ?_; refine zd rfl (zZ rfl ci (.cons (.same rfl) (.cons (.same rfl) .nil)) rfl) rfl ?_) | (refine zr 74 rfl ?_; refine zY rfl (by kernel_rfl) rfl (zZ rfl ci (.cons (.same rfl) (.cons (.same rfl) .nil)) rfl) rfl ?_) | refine zD ?_ | refine zB _ rfl (by kernel_rfl) ?_ | refine zV rfl ?_ | refine zW rfl ?_ | refine zC ?_ | with_reducible refine zM ?_ | refine zH ?_ | refine zI ?_ | (with_reducible first | refine zK ?_ | refine zL ?_ | refine zE ?_ | refine zG ?_ | refine zF ?_) | refine zN ?_
      · refine t7 ?_
        refine sK 6 ⟨((I k) :: (Go.Proofs.Ytkcicbigpbdjpaa.Ab.rwL a) :: (Go.Proofs.Ytkcicbigpbdjpaa.Ab.rwL b) :: .any :: .any :: .any :: .any :: (.sl 0 0 out.length) :: .any :: (.ptr 1 0) :: (I (yB l b)) :: .any :: .any :: .any :: (Go.Proofs.Ytkcicbigpbdjpaa.Ab.rwL a) :: (I a.length) :: (I i) :: .any :: .any :: .any :: .any :: .any :: .any :: .any :: .any :: .any :: .any :: .any :: .any :: .any :: .any :: .any :: (B (c6 k (yB l b))) :: .any :: .any :: .any :: .any :: .any :: .any :: .any :: .any :: .any :: .any :: .any :: .any :: .any :: .any :: .any :: .any :: .any :: .any :: .any :: .any :: .any :: .any :: .any :: .any :: .any :: .any :: .any :: .any :: .any :: .any :: .any :: .any :: .any :: .any :: .any :: .any :: .any :: .any :: .any :: .any :: .any :: .any :: .any :: []), [rwR out, bxR l], 0⟩ ?_ ?_
        · repeat' first | refine zJ ?_ | refine zA ?_ | refine zO [] ?_ | (refine isA ?_; refine zb rfl ?_) | (refine isL ?_; refine zU rfl (by kernel_rfl) rfl rfl ?_) | (refine za rfl ?_; refine zT rfl (by kernel_rfl) rfl rfl ?_) | exact ⟨rfl, yq [0, 1] rfl rfl (by decide) (.cons rfl rfl rfl rfl (zg (zR _ _)) (.cons rfl rfl rfl rfl (zx rfl) .nil)) (by repeat' first | exact zh | refine zc ?_ ?_ | exact zl | exact le_refl rfl | exact zz rfl | exact zm rfl rfl | exact zm rfl (by simp) | exact xP (by omega) (by omega) | exact yP (congrArg _ (by first | ((try simp only [Bool.not_eq_true', Bool.not_eq_false'] at *); simp only [c6, *, Bool.true_and, Bool.false_and, Bool.and_true, Bool.and_false, Bool.true_or, Bool.false_or, Bool.or_true, Bool.or_false, Bool.not_true, Bool.not_false, cond_true, cond_false]; done) | (simp_all [c6]; done) | (simp_all [c6]; intros; omega))))⟩ | refine zD ?_ | refine zB _ rfl (by kernel_rfl) ?_ | refine zV rfl ?_ | refine zW rfl ?_ | refine zC ?_ | with_reducible refine zM ?_ | refine zH ?_ | refine zI ?_ | (with_reducible first | refine zK ?_ | refine zL ?_ | refine zE ?_ | refine zG ?_ | refine zF ?_) | refine zN ?_ | (refine vY ?_; refine xi rfl rfl (fun hbr => ?_) (fun hbr => ?_) <;> (fail_if_success (with_reducible (have hx : true = true := hbr))) <;> (fail_if_success (with_reducible (have hx : false = false := hbr)))) | (refine za rfl ?_; refine yz rfl rfl rfl rfl (fun hbr => ?_) (fun hbr => ?_) <;> (fail_if_success (with_reducible (have hx : true = true := hbr))) <;> (fail_if_success (with_reducible (have hx : false = false := hbr))))
        · rcases Bool.eq_false_or_eq_true (c6 k (yB l b)) with q | q
          · rw [q]
            repeat' first | refine zJ ?_ | refine zA ?_ | refine zO [] ?_ | (refine isA ?_; refine zb rfl ?_) | (refine isL ?_; refine zU rfl (by kernel_rfl) rfl rfl ?_) | (refine za rfl ?_; refine zT rfl (by kernel_rfl) rfl rfl ?_) | refine zD ?_ | refine zB _ rfl (by kernel_rfl) ?_ | refine zV rfl ?_ | refine zW rfl ?_ | refine zC ?_ | with_reducible refine zM ?_ | refine zH ?_ | refine zI ?_ | (with_reducible first | refine zK ?_ | refine zL ?_ | refine zE ?_ | refine zG ?_ | refine zF ?_) | refine zN ?_
            refine zy (α := { p : Nat × List Rw // p.1 ≤ b.length ∧ p.2 = out ++ xS l (b.take p.1) }) (fun p => ⟨((I k) :: (Go.Proofs.Ytkcicbigpbdjpaa.Ab.rwL a) :: (Go.Proofs.Ytkcicbigpbdjpaa.Ab.rwL b) :: .any :: .any :: .any :: .any :: (.sl 0 0 p.1.2.length) :: .any :: (.ptr 1 0) :: (I (yB l b)) :: .any :: .any :: .any :: (Go.Proofs.Ytkcicbigpbdjpaa.Ab.rwL a) :: (I a.length) :: (I i) :: .any :: .any :: .any :: .any :: .any :: .any :: .any :: .any :: .any :: .any :: .any :: .any :: .any :: .any :: .any :: .any :: (Go.Proofs.Ytkcicbigpbdjpaa.Ab.rwL b) :: (I b.length) :: (I p.1.1) :: .any :: .any :: .any :: .any :: .any :: .any :: .any :: .any :: .any :: .any :: .any :: .any :: .any :: .any :: .any :: .any :: .any :: .any :: .any :: .any :: .any :: .any :: .any :: .any :: .any :: .any :: .any :: .any :: .any :: .any :: .any :: .any :: .any :: .any :: .any :: .any :: .any :: .any :: .any :: .any :: []), [rwR p.1.2, bxR l], 0⟩) (fun p => b.length - p.1.1) ⟨(0, out), Nat.zero_le _, by simp [xS]⟩ ?_ ?_
            · exact yq [0, 1] rfl rfl (by decide) (.cons rfl rfl rfl rfl (zg (zR _ _)) (.cons rfl rfl rfl rfl (zx rfl) .nil)) (by repeat' first | exact zh | refine zc ?_ ?_ | exact zl | exact le_refl rfl | exact zz rfl | exact zm rfl rfl | exact zm rfl (by simp) | exact xP (by omega) (by omega))
            · rintro ⟨⟨j, u⟩, hj, hu⟩
              simp only at hj hu
              have hul : u.length ≤ 1003000 := by
                rw [hu]
                have := wO l (b.take j)
                have := wl l (b.take j)
                simp only [List.length_append, List.length_take] at *; omega
              repeat' first | refine zJ ?_ | refine zA ?_ | refine zO [] ?_ | (refine isA ?_; refine zb rfl ?_) | (refine isL ?_; refine zU rfl (by kernel_rfl) rfl rfl ?_) | (refine za rfl ?_; refine zT rfl (by kernel_rfl) rfl rfl ?_) | refine zD ?_ | refine zB _ rfl (by kernel_rfl) ?_ | refine zV rfl ?_ | refine zW rfl ?_ | refine zC ?_ | with_reducible refine zM ?_ | refine zH ?_ | refine zI ?_ | (with_reducible first | refine zK ?_ | refine zL ?_ | refine zE ?_ | refine zG ?_ | refine zF ?_) | refine zN ?_
              refine zf rfl (fun h => ?_) (fun h => ?_)
              · have hjt : j < b.length := by simpa using h
                obtain ⟨z, hz⟩ : ∃ z, b[j]? = some z := ⟨_, List.getElem?_eq_getElem hjt⟩
                have hm := tw (l := l) hz
                repeat' first | refine zJ ?_ | refine zA ?_ | refine zO [] ?_ | (refine isA ?_; refine zb rfl ?_) | (refine isL ?_; refine zU rfl (by kernel_rfl) rfl rfl ?_) | (refine za rfl ?_; refine zT rfl (by kernel_rfl) rfl rfl ?_) | (refine yn (x := .tmp 33) ?_; refine zd rfl (yT (t := Go.Proofs.Ytkcicbigpbdjpaa.Ab.rwT) (z := z) rfl rfl rfl rfl (Int.natCast_nonneg j) hz) rfl ?_) | (refine ym (x := .tmp 33) rfl ?_; refine zY rfl (by kernel_rfl) rfl (yT (t := Go.Proofs.Ytkcicbigpbdjpaa.Ab.rwT) (z := z) rfl rfl rfl rfl (Int.natCast_nonneg j) hz) rfl ?_) | refine zD ?_ | refine zB _ rfl (by kernel_rfl) ?_ | refine zV rfl ?_ | refine zW rfl ?_ | refine zC ?_ | with_reducible refine zM ?_ | refine zH ?_ | refine zI ?_ | (with_reducible first | refine zK ?_ | refine zL ?_ | refine zE ?_ | refine zG ?_ | refine zF ?_) | refine zN ?_
                refine zf rfl (fun h1 => ?_) (fun h1 => ?_)
                · have e : hit l z = true := h1
                  rw [e] at hm
                  repeat' first | refine zJ ?_ | refine zA ?_ | refine zO [] ?_ | (refine isA ?_; refine zb rfl ?_) | (refine isL ?_; refine zU rfl (by kernel_rfl) rfl rfl ?_) | (refine za rfl ?_; refine zT rfl (by kernel_rfl) rfl rfl ?_) | (refine x6 ?_; refine zd rfl (yY (t := rwT) (xs := u) (ys := [⟨l, z, true⟩]) rfl rfl rfl rfl (xJ rfl rfl rfl rfl) (by simp; omega) rfl) rfl ?_) | (refine xv rfl ?_; refine zY rfl (by kernel_rfl) rfl (yY (t := rwT) (xs := u) (ys := [⟨l, z, true⟩]) rfl rfl rfl rfl (xJ rfl rfl rfl rfl) (by simp; omega) rfl) rfl ?_) | refine zD ?_ | refine zB _ rfl (by kernel_rfl) ?_ | refine zV rfl ?_ | refine zW rfl ?_ | refine zC ?_ | with_reducible refine zM ?_ | refine zH ?_ | refine zI ?_ | (with_reducible first | refine zK ?_ | refine zL ?_ | refine zE ?_ | refine zG ?_ | refine zF ?_) | refine zN ?_
                  refine ⟨⟨(j + 1, u ++ [⟨l, z, true⟩]), hjt, by rw [hm, hu]; simp⟩, by simp only; omega, ?_⟩
                  exact yq [4, 1] rfl rfl (by decide) (.cons rfl rfl rfl rfl (zg (zR _ _)) (.cons rfl rfl rfl rfl (zx rfl) .nil)) (by repeat' first | exact zh | refine zc ?_ ?_ | exact zl | exact le_refl rfl | exact zz rfl | exact zm rfl rfl | exact zm rfl (by simp) | exact xP (by omega) (by omega))
                · have e : hit l z = false := h1
                  rw [e] at hm
                  repeat' first | refine zJ ?_ | refine zA ?_ | refine zO [] ?_ | (refine isA ?_; refine zb rfl ?_) | (refine isL ?_; refine zU rfl (by kernel_rfl) rfl rfl ?_) | (refine za rfl ?_; refine zT rfl (by kernel_rfl) rfl rfl ?_) | refine zD ?_ | refine zB _ rfl (by kernel_rfl) ?_ | refine zV rfl ?_ | refine zW rfl ?_ | refine zC ?_ | with_reducible refine zM ?_ | refine zH ?_ | refine zI ?_ | (with_reducible first | refine zK ?_ | refine zL ?_ | refine zE ?_ | refine zG ?_ | refine zF ?_) | refine zN ?_
                  refine ⟨⟨(j + 1, u), hjt, by rw [hm, hu]; simp⟩, by simp only; omega, ?_⟩
                  exact yq [0, 1] rfl rfl (by decide) (.cons rfl rfl rfl rfl (zg (zR _ _)) (.cons rfl rfl rfl rfl (zx rfl) .nil)) (by repeat' first | exact zh | refine zc ?_ ?_ | exact zl | exact le_refl rfl | exact zz rfl | exact zm rfl rfl | exact zm rfl (by simp) | exact xP (by omega) (by omega))
              · have hge : j = b.length := by
                  have : ¬ ((j : Int) < b.length) := by simpa using h
                  omega
                subst hge
                rw [List.take_length] at hu
                subst hu
                repeat' first | refine zJ ?_ | refine zA ?_ | refine zO [] ?_ | (refine isA ?_; refine zb rfl ?_) | (refine isL ?_; refine zU rfl (by kernel_rfl) rfl rfl ?_) | (refine za rfl ?_; refine zT rfl (by kernel_rfl) rfl rfl ?_) | exact ⟨rfl, yq [0, 1] rfl rfl (by decide) (.cons rfl rfl rfl rfl (zg (zR _ _)) (.cons rfl rfl rfl rfl (zx rfl) .nil)) (by repeat' first | exact zh | refine zc ?_ ?_ | exact zl | exact le_refl rfl | exact zz rfl | exact zm rfl rfl | exact zm rfl (by simp) | exact xP (by omega) (by omega))⟩ | refine zD ?_ | refine zB _ rfl (by kernel_rfl) ?_ | refine zV rfl ?_ | refine zW rfl ?_ | refine zC ?_ | with_reducible refine zM ?_ | refine zH ?_ | refine zI ?_ | (with_reducible first | refine zK ?_ | refine zL ?_ | refine zE ?_ | refine zG ?_ | refine zF ?_) | refine zN ?_
          · rw [q, cond_false, List.append_nil]
            repeat' first | refine zJ ?_ | refine zA ?_ | refine zO [] ?_ | (refine isA ?_; refine zb rfl ?_) | (refine isL ?_; refine zU rfl (by kernel_rfl) rfl rfl ?_) | (refine za rfl ?_; refine zT rfl (by kernel_rfl) rfl rfl ?_) | exact ⟨rfl, yq [0, 1] rfl rfl (by decide) (.cons rfl rfl rfl rfl (zg (zR _ _)) (.cons rfl rfl rfl rfl (zx rfl) .nil)) (by repeat' first | exact zh | refine zc ?_ ?_ | exact zl | exact le_refl rfl | exact zz rfl | exact zm rfl rfl | exact zm rfl (by simp) | exact xP (by omega) (by omega))⟩ | refine zD ?_ | refine zB _ rfl (by kernel_rfl) ?_ | refine zV rfl ?_ | refine zW rfl ?_ | refine zC ?_ | with_reducible refine zM ?_ | refine zH ?_ | refine zI ?_ | (with_reducible first | refine zK ?_ | refine zL ?_ | refine zE ?_ | refine zG ?_ | refine zF ?_) | refine zN ?_
      · refine t7 ?_
        have hvl : (out ++ cond (c6 k (yB l b)) (xS l b) []).length ≤ 1004000 := by
          have := wO l b
          cases c6 k (yB l b) <;> simp <;> omega
        generalize out ++ cond (c6 k (yB l b)) (xS l b) [] = v at hs hvl
        refine sK 13 ⟨((I k) :: (Go.Proofs.Ytkcicbigpbdjpaa.Ab.rwL a) :: (Go.Proofs.Ytkcicbigpbdjpaa.Ab.rwL b) :: .any :: .any :: .any :: .any :: (.sl 0 0 v.length) :: .any :: (.ptr 1 0) :: (I (yB l b)) :: .any :: .any :: .any :: (Go.Proofs.Ytkcicbigpbdjpaa.Ab.rwL a) :: (I a.length) :: (I i) :: .any :: .any :: .any :: .any :: .any :: .any :: .any :: .any :: .any :: .any :: .any :: .any :: .any :: .any :: .any :: .any :: .any :: .any :: .any :: .any :: .any :: .any :: .any :: .any :: .any :: .any :: .any :: .any :: .any :: .any :: .any :: .any :: .any :: .any :: .any :: .any :: .any :: .any :: .any :: .any :: .any :: .any :: .any :: .any :: .any :: .any :: .any :: .any :: .any :: .any :: .any :: (B (c13 k (yB l b))) :: .any :: .any :: .any :: .any :: .any :: .any :: .any :: []), [rwR v, bxR l], 0⟩ ?_ ?_
        · repeat' first | refine zJ ?_ | refine zA ?_ | refine zO [] ?_ | (refine isA ?_; refine zb rfl ?_) | (refine isL ?_; refine zU rfl (by kernel_rfl) rfl rfl ?_) | (refine za rfl ?_; refine zT rfl (by kernel_rfl) rfl rfl ?_) | exact ⟨rfl, yq [0, 1] rfl rfl (by decide) (.cons rfl rfl rfl rfl (zg (zR _ _)) (.cons rfl rfl rfl rfl (zx rfl) .nil)) (by repeat' first | exact zh | refine zc ?_ ?_ | exact zl | exact le_refl rfl | exact zz rfl | exact zm rfl rfl | exact zm rfl (by simp) | exact xP (by omega) (by omega) | exact yP (congrArg _ (by first | ((try simp only [Bool.not_eq_true', Bool.not_eq_false'] at *); simp only [c13, *, Bool.true_and, Bool.false_and, Bool.and_true, Bool.and_false, Bool.true_or, Bool.false_or, Bool.or_true, Bool.or_false, Bool.not_true, Bool.not_false, cond_true, cond_false]; done) | (simp_all [c13]; done) | (simp_all [c13]; intros; omega))))⟩ | refine zD ?_ | refine zB _ rfl (by kernel_rfl) ?_ | refine zV rfl ?_ | refine zW rfl ?_ | refine zC ?_ | with_reducible refine zM ?_ | refine zH ?_ | refine zI ?_ | (with_reducible first | refine zK ?_ | refine zL ?_ | refine zE ?_ | refine zG ?_ | refine zF ?_) | refine zN ?_ | (refine vY ?_; refine xi rfl rfl (fun hbr => ?_) (fun hbr => ?_) <;> (fail_if_success (with_reducible (have hx : true = true := hbr))) <;> (fail_if_success (with_reducible (have hx : false = false := hbr)))) | (refine za rfl ?_; refine yz rfl rfl rfl rfl (fun hbr => ?_) (fun hbr => ?_) <;> (fail_if_success (with_reducible (have hx : true = true := hbr))) <;> (fail_if_success (with_reducible (have hx : false = false := hbr))))
        · rcases Bool.eq_false_or_eq_true (c13 k (yB l b)) with q | q
          · rw [q] at hs ⊢
            repeat' first | refine zJ ?_ | refine zA ?_ | refine zO [] ?_ | (refine isA ?_; refine zb rfl ?_) | (refine isL ?_; refine zU rfl (by kernel_rfl) rfl rfl ?_) | (refine za rfl ?_; refine zT rfl (by kernel_rfl) rfl rfl ?_) | (refine x6 ?_; refine zd rfl (yY (t := rwT) (xs := v) (ys := [yu l]) rfl rfl rfl rfl (xJ rfl rfl rfl rfl) (by simp; omega) rfl) rfl ?_) | (refine xv rfl ?_; refine zY rfl (by kernel_rfl) rfl (yY (t := rwT) (xs := v) (ys := [yu l]) rfl rfl rfl rfl (xJ rfl rfl rfl rfl) (by simp; omega) rfl) rfl ?_) | refine zD ?_ | refine zB _ rfl (by kernel_rfl) ?_ | refine zV rfl ?_ | refine zW rfl ?_ | refine zC ?_ | with_reducible refine zM ?_ | refine zH ?_ | refine zI ?_ | (with_reducible first | refine zK ?_ | refine zL ?_ | refine zE ?_ | refine zG ?_ | refine zF ?_) | refine zN ?_
            refine ⟨⟨(i + 1, v ++ [yu l]), hlt, hs.symm⟩, by simp only; omega, ?_⟩
            exact yq [3] rfl rfl (by decide) (.cons rfl rfl rfl rfl (zg (zR _ _)) .nil) (by repeat' first | exact zh | refine zc ?_ ?_ | exact zl | exact le_refl rfl | exact zz rfl | exact zm rfl rfl | exact zm rfl (by simp) | exact xP (by omega) (by omega))
          · rw [q] at hs ⊢
            repeat' first | refine zJ ?_ | refine zA ?_ | refine zO [] ?_ | (refine isA ?_; refine zb rfl ?_) | (refine isL ?_; refine zU rfl (by kernel_rfl) rfl rfl ?_) | (refine za rfl ?_; refine zT rfl (by kernel_rfl) rfl rfl ?_) | refine zD ?_ | refine zB _ rfl (by kernel_rfl) ?_ | refine zV rfl ?_ | refine zW rfl ?_ | refine zC ?_ | with_reducible refine zM ?_ | refine zH ?_ | refine zI ?_ | (with_reducible first | refine zK ?_ | refine zL ?_ | refine zE ?_ | refine zG ?_ | refine zF ?_) | refine zN ?_
            refine ⟨⟨(i + 1, v), hlt, by rw [hs]; simp⟩, by simp only; omega, ?_⟩
            exact yq [0] rfl rfl (by decide) (.cons rfl rfl rfl rfl (zg (zR _ _)) .nil) (by repeat' first | exact zh | refine zc ?_ ?_ | exact zl | exact le_refl rfl | exact zz rfl | exact zm rfl rfl | exact zm rfl (by simp) | exact xP (by omega) (by omega))
    · have hge : i = a.length := by
        have : ¬ ((i : Int) < a.length) := by simpa using h
        omega
      subst hge
      rw [List.take_length] at ho
      subst ho
      repeat' first | refine zJ ?_ | refine zA ?_ | refine zO [] ?_ | (refine isA ?_; refine zb rfl ?_) | (refine isL ?_; refine zU rfl (by kernel_rfl) rfl rfl ?_) | (refine za rfl ?_; refine zT rfl (by kernel_rfl) rfl rfl ?_) | exact uM (ty := rwT) rfl rfl rfl rfl rfl rfl (y4 _) | refine zD ?_ | refine zB _ rfl (by kernel_rfl) ?_ | refine zV rfl ?_ | refine zW rfl ?_ | refine zC ?_ | with_reducible refine zM ?_ | refine zH ?_ | refine zI ?_ | (with_reducible first | refine zK ?_ | refine zL ?_ | refine zE ?_ | refine zG ?_ | refine zF ?_) | refine zN ?_
end Go.Proofs.Ytkcicbigpbdjpaa.Ab.Pr
namespace Go.Proofs.Ytkcicbigpbdjpaa.Ab.Pr
open Go.RowKit
def swp (p : Rw) : Rw := ⟨p.r, p.l, p.m⟩
theorem kK (b : List Go.Proofs.Ytkcicbigpbdjpaa.Ab.Rw) (l : Go.Proofs.Ytkcicbigpbdjpaa.Ab.Rw) : x5 1 b l = xS l b := by
  have h := wO l b
  have e : c13 1 (yB l b) = false := by simp [c13]
  rw [x5, e, cond_false, List.append_nil]
  rcases Nat.eq_zero_or_pos (yB l b) with h0 | h0
  · rw [List.eq_nil_of_length_eq_zero (by omega : (xS l b).length = 0)]
    cases c6 1 (yB l b) <;> rfl
  · have : c6 1 (yB l b) = true := by simp [c6, h0]
    rw [this]; rfl
theorem nN {α β : Type} (p q : α → List β) : ∀ b : List α, (b.flatMap fun y => p y ++ q y).Perm (b.flatMap p ++ b.flatMap q)
  | [] => .refl _
  | y :: b => by
    simp only [List.flatMap_cons]
    refine ((nN p q b).append_left (p y ++ q y)).trans ?_
    rw [List.append_assoc, List.append_assoc]
    refine List.Perm.append_left _ ?_
    rw [← List.append_assoc, ← List.append_assoc]
    exact List.perm_append_comm.append_right _
end Go.Proofs.Ytkcicbigpbdjpaa.Ab.Pr
namespace Go.Proofs.Ytkcicbigpbdjpaa.Ab
open Go.RowKit
def wK (n : Int) : ByteArray := ByteArray.empty.push (UInt8.ofNat n.toNat)
theorem yw {P : Program} {o : Oper} {ρ : Operand → V} {H : List Reg} {s d e : TypeId} {x : Operand} {n : Int} (hs : P.underlying s = some (.slice e)) (he : P.underlying e = some (.int .u8)) (hd : P.underlying d = some .string) (ho : o.op = .convert s d x) (hx : Src H (ρ x) 1 [.k (.int .u8 n)]) : zu P o ρ H (.k (.string (wK n))) H := zv fun A φ a w hok hh => by
  have h1 := hh x (by simp [ho, Op.operands])
  obtain ⟨ad, c, e1, h2⟩ := tl hx hok h1
  rcases h2 with h2 | ⟨b, q, rfl, h2⟩
  · cases h2
  · obtain ⟨ys, k1, k2, k3⟩ := yW (P := P) h2
    have hy : ys = ([n].map (Value.int .u8)).toArray := by
      simp only [zi, Rel] at k3
      obtain ⟨⟨y, y1, y2⟩, _⟩ := k3
      subst y2
      match ys, k2, y1 with
      | ⟨[z]⟩, _, y1 =>
        simp at y1
        simp [y1]
    rw [hy] at k1
    have k4 := run_bytesToString (P := P) w ⟨b, q, none⟩ 1 c [n] k1
    refine ⟨.string (wK n), ?_, by simp [Rel]⟩
    have k5 := run_convert_bytes_string w s d e (some ⟨b, q, none⟩) 1 c hs he hd
    rw [k4] at k5
    simp [execOp, ho, e1, k5, wK]
end Go.Proofs.Ytkcicbigpbdjpaa.Ab
namespace Go.Proofs.Ytkcicbigpbdjpaa.Ab
open Go.RowKit
abbrev S' (s : ByteArray) : V := .k (.string s)
abbrev U64 (n : Int) : V := .k (.int .u64 n)
def xg (n : Nat) : ByteArray := if n < 10 then wK (48 + n) else xg (n / 10) ++ wK (48 + (n % 10 : Nat))
termination_by n
theorem tW {n : Nat} (h : n < 10) : xg n = wK (48 + n) := by rw [xg, if_pos h]
theorem sh {n : Nat} (h : 10 ≤ n) : xg n = xg (n / 10) ++ wK (48 + (n % 10 : Nat)) := by rw [xg, if_neg (by omega)]
theorem wR (n : Int) : (wK n).size = 1 := rfl
theorem un : ∀ (k n : Nat), n < 10 ^ (k + 1) → (xg n).size ≤ k + 1
  | k, n, h => by
    rcases Nat.lt_or_ge n 10 with h1 | h1
    · rw [tW h1, wR]; omega
    · match k, h with
      | 0, h => simp at h; omega
      | k + 1, h =>
        rw [sh h1, ByteArray.size_append, wR]
        have := un k (n / 10) (by rw [Nat.pow_succ] at h; omega)
        omega
theorem tC (n : Nat) (hn : n < 18446744073709551616) : zn Go.Proofs.Try.prog 168 [U64 n] [] (S' (xg n)) [] false := by
  induction n using Nat.strongRecOn with
  | _ n ih =>
    rcases Nat.lt_or_ge n 10 with h1 | h1
    · rw [tW h1]
      refine zj [2] Go.Proofs.Try.func168 rfl rfl ?_
      simp only [Go.Proofs.Try.ntmps168, List.length_cons, List.length_nil, Nat.reduceAdd, Nat.reduceSub, List.replicate_succ, List.replicate_zero, List.cons_append, List.nil_append]
      repeat' first | (refine isA ?_; refine zd rfl (xO rfl rfl rfl rfl rfl) rfl ?_) | refine zJ ?_ | refine zA ?_ | refine zO [] ?_ | (refine isA ?_; refine zb rfl ?_) | (refine isL ?_; refine zU rfl (by kernel_rfl) rfl rfl ?_) | (refine za rfl ?_; refine zT rfl (by kernel_rfl) rfl rfl ?_) | refine zD ?_ | refine zB _ rfl (by kernel_rfl) ?_ | refine zV rfl ?_ | refine zW rfl ?_ | refine zC ?_ | with_reducible refine zM ?_ | refine zH ?_ | refine zI ?_ | (with_reducible first | refine zK ?_ | refine zL ?_ | refine zE ?_ | refine zG ?_ | refine zF ?_) | refine zN ?_
      refine zf rfl (fun _ => ?_) (fun h => absurd (of_decide_eq_false h) (by omega))
      have w1 : IntKind.u8.wrap (IntKind.u64.wrap (48 + (n : Int))) = 48 + n := by
        have e1 : IntKind.u64.wrap (48 + (n : Int)) = 48 + n := by simp [IntKind.wrap, IntKind.signed, IntKind.bits]; omega
        rw [e1]; simp [IntKind.wrap, IntKind.signed, IntKind.bits]; omega
      repeat' first | (refine isA ?_; refine zd rfl (xO rfl rfl rfl rfl rfl) rfl ?_) | refine zJ ?_ | refine zA ?_ | refine zO [] ?_ | (refine isA ?_; refine zb rfl ?_) | (refine isL ?_; refine zU rfl (by kernel_rfl) rfl rfl ?_) | (refine za rfl ?_; refine zT rfl (by kernel_rfl) rfl rfl ?_) | refine zd rfl (yw (n := IntKind.u8.wrap (IntKind.u64.wrap (48 + (n : Int)))) rfl rfl rfl rfl (.lst _ _)) rfl ?_ | refine zY rfl (by kernel_rfl) rfl (yw (n := IntKind.u8.wrap (IntKind.u64.wrap (48 + (n : Int)))) rfl rfl rfl rfl (.lst _ _)) rfl ?_ | exact yX rfl rfl (by rw [w1]) | refine zD ?_ | refine zB _ rfl (by kernel_rfl) ?_ | refine zV rfl ?_ | refine zW rfl ?_ | refine zC ?_ | with_reducible refine zM ?_ | refine zH ?_ | refine zI ?_ | (with_reducible first | refine zK ?_ | refine zL ?_ | refine zE ?_ | refine zG ?_ | refine zF ?_) | refine zN ?_
    · rw [sh h1]
      have e1 : IntKind.u64.wrap ((n : Int).tdiv 10) = ((n / 10 : Nat) : Int) := by
        rw [show (n : Int).tdiv 10 = ((n / 10 : Nat) : Int) from rfl]
        simp [IntKind.wrap, IntKind.signed, IntKind.bits]; omega
      have i1 : zn Go.Proofs.Try.prog 168 [U64 (IntKind.u64.wrap ((n : Int).tdiv 10))] [] (S' (xg (n / 10))) [] false := by
        rw [e1]
        exact ih (n / 10) (by omega) (by omega)
      have sz := un 19 (n / 10) (by omega)
      have w1 : IntKind.u8.wrap (IntKind.u64.wrap (48 + (n : Int).tmod 10)) = 48 + ((n % 10 : Nat) : Int) := by
        rw [show (n : Int).tmod 10 = ((n % 10 : Nat) : Int) from rfl]
        have e1 : IntKind.u64.wrap (48 + ((n % 10 : Nat) : Int)) = 48 + ((n % 10 : Nat) : Int) := by simp [IntKind.wrap, IntKind.signed, IntKind.bits]; omega
        rw [e1]; simp [IntKind.wrap, IntKind.signed, IntKind.bits]; omega
      refine zj [2] Go.Proofs.Try.func168 rfl rfl ?_
      simp only [Go.Proofs.Try.ntmps168, List.length_cons, List.length_nil, Nat.reduceAdd, Nat.reduceSub, List.replicate_succ, List.replicate_zero, List.cons_append, List.nil_append]
      repeat' first | refine zJ ?_ | refine zA ?_ | refine zO [] ?_ | (refine isA ?_; refine zb rfl ?_) | (refine isL ?_; refine zU rfl (by kernel_rfl) rfl rfl ?_) | (refine za rfl ?_; refine zT rfl (by kernel_rfl) rfl rfl ?_) | refine zD ?_ | refine zB _ rfl (by kernel_rfl) ?_ | refine zV rfl ?_ | refine zW rfl ?_ | refine zC ?_ | with_reducible refine zM ?_ | refine zH ?_ | refine zI ?_ | (with_reducible first | refine zK ?_ | refine zL ?_ | refine zE ?_ | refine zG ?_ | refine zF ?_) | refine zN ?_
      refine zf rfl (fun h => absurd (of_decide_eq_true h) (by omega)) (fun _ => ?_)
      repeat' first | (refine lq rfl ?_; refine zY rfl (by kernel_rfl) rfl (xO rfl rfl rfl rfl rfl) rfl ?_) | refine zJ ?_ | refine zA ?_ | refine zO [] ?_ | (refine isA ?_; refine zb rfl ?_) | (refine isL ?_; refine zU rfl (by kernel_rfl) rfl rfl ?_) | (refine za rfl ?_; refine zT rfl (by kernel_rfl) rfl rfl ?_) | (refine zq 168 ?_; refine zd rfl (zZ rfl i1 (.cons (.same rfl) .nil) rfl) rfl ?_) | (refine zr 168 rfl ?_; refine zY rfl (by kernel_rfl) rfl (zZ rfl i1 (.cons (.same rfl) .nil) rfl) rfl ?_) | refine zd rfl (yw (n := IntKind.u8.wrap (IntKind.u64.wrap (48 + (n : Int).tmod 10))) rfl rfl rfl rfl (.lst _ _)) rfl ?_ | refine zY rfl (by kernel_rfl) rfl (yw (n := IntKind.u8.wrap (IntKind.u64.wrap (48 + (n : Int).tmod 10))) rfl rfl rfl rfl (.lst _ _)) rfl ?_ | refine zd rfl (zo rfl rfl rfl (by rw [wR]; omega)) rfl ?_ | refine zY rfl (by kernel_rfl) rfl (zo rfl rfl rfl (by rw [wR]; omega)) rfl ?_ | exact yX rfl rfl (by rw [w1]) | refine zD ?_ | refine zB _ rfl (by kernel_rfl) ?_ | refine zV rfl ?_ | refine zW rfl ?_ | refine zC ?_ | with_reducible refine zM ?_ | refine zH ?_ | refine zI ?_ | (with_reducible first | refine zK ?_ | refine zL ?_ | refine zE ?_ | refine zG ?_ | refine zF ?_) | refine zN ?_
end Go.Proofs.Ytkcicbigpbdjpaa.Ab
namespace Go.Proofs.Ytkcicbigpbdjpaa.Ab
open Go.RowKit
abbrev yO : ByteArray := ⟨#[45]⟩
def xT (n : Int) : ByteArray := cond (decide (n < 0)) (yO ++ xg n.natAbs) (xg n.natAbs)
theorem ny {n : Nat} (h : n < 100000000000000000000) : (xg n).size ≤ 20 := un 19 n h
theorem so (n : Int) (h0 : -9223372036854775808 ≤ n) (h1 : n < 9223372036854775808) : zn Go.Proofs.Try.prog 162 [I n] [] (S' (xT n)) [] false := by
  rcases Int.lt_or_le n 0 with hn | hn
  · have e1 : IntKind.u64.wrap (0 - IntKind.u64.wrap n) = ((n.natAbs : Nat) : Int) := by
      simp [IntKind.wrap, IntKind.signed, IntKind.bits]; omega
    have i1 : zn Go.Proofs.Try.prog 168 [U64 (IntKind.u64.wrap (0 - IntKind.u64.wrap n))] [] (S' (xg n.natAbs)) [] false := by
      rw [e1]
      exact tC _ (by omega)
    have sz := ny (n := n.natAbs) (by omega)
    have hD : xT n = yO ++ xg n.natAbs := by rw [xT, decide_eq_true hn]; rfl
    rw [hD]
    refine zj [2] Go.Proofs.Try.func162 rfl rfl ?_
    simp only [Go.Proofs.Try.ntmps162, List.length_cons, List.length_nil, Nat.reduceAdd, Nat.reduceSub, List.replicate_succ, List.replicate_zero, List.cons_append, List.nil_append]
    repeat' first | refine zJ ?_ | refine zA ?_ | refine zO [] ?_ | (refine isA ?_; refine zb rfl ?_) | (refine isL ?_; refine zU rfl (by kernel_rfl) rfl rfl ?_) | (refine za rfl ?_; refine zT rfl (by kernel_rfl) rfl rfl ?_) | refine zD ?_ | refine zB _ rfl (by kernel_rfl) ?_ | refine zV rfl ?_ | refine zW rfl ?_ | refine zC ?_ | with_reducible refine zM ?_ | refine zH ?_ | refine zI ?_ | (with_reducible first | refine zK ?_ | refine zL ?_ | refine zE ?_ | refine zG ?_ | refine zF ?_) | refine zN ?_
    refine zf rfl (fun _ => ?_) (fun h => absurd (of_decide_eq_false h) (by omega))
    repeat' first | refine zJ ?_ | refine zA ?_ | refine zO [] ?_ | (refine isA ?_; refine zb rfl ?_) | (refine isL ?_; refine zU rfl (by kernel_rfl) rfl rfl ?_) | (refine za rfl ?_; refine zT rfl (by kernel_rfl) rfl rfl ?_) | (refine zq 168 ?_; refine zd rfl (zZ rfl i1 (.cons (.same rfl) .nil) rfl) rfl ?_) | (refine zr 168 rfl ?_; refine zY rfl (by kernel_rfl) rfl (zZ rfl i1 (.cons (.same rfl) .nil) rfl) rfl ?_) | refine zd rfl (zo rfl rfl rfl (by show 1 + _ ≤ _; omega)) rfl ?_ | refine zY rfl (by kernel_rfl) rfl (zo rfl rfl rfl (by show 1 + _ ≤ _; omega)) rfl ?_ | exact yX rfl rfl rfl | refine zD ?_ | refine zB _ rfl (by kernel_rfl) ?_ | refine zV rfl ?_ | refine zW rfl ?_ | refine zC ?_ | with_reducible refine zM ?_ | refine zH ?_ | refine zI ?_ | (with_reducible first | refine zK ?_ | refine zL ?_ | refine zE ?_ | refine zG ?_ | refine zF ?_) | refine zN ?_
  · have e1 : IntKind.u64.wrap n = ((n.natAbs : Nat) : Int) := by
      simp [IntKind.wrap, IntKind.signed, IntKind.bits]; omega
    have i1 : zn Go.Proofs.Try.prog 168 [U64 (IntKind.u64.wrap n)] [] (S' (xg n.natAbs)) [] false := by
      rw [e1]
      exact tC _ (by omega)
    have hD : xT n = xg n.natAbs := by rw [xT, decide_eq_false (by omega)]; rfl
    rw [hD]
    refine zj [2] Go.Proofs.Try.func162 rfl rfl ?_
    simp only [Go.Proofs.Try.ntmps162, List.length_cons, List.length_nil, Nat.reduceAdd, Nat.reduceSub, List.replicate_succ, List.replicate_zero, List.cons_append, List.nil_append]
    repeat' first | refine zJ ?_ | refine zA ?_ | refine zO [] ?_ | (refine isA ?_; refine zb rfl ?_) | (refine isL ?_; refine zU rfl (by kernel_rfl) rfl rfl ?_) | (refine za rfl ?_; refine zT rfl (by kernel_rfl) rfl rfl ?_) | refine zD ?_ | refine zB _ rfl (by kernel_rfl) ?_ | refine zV rfl ?_ | refine zW rfl ?_ | refine zC ?_ | with_reducible refine zM ?_ | refine zH ?_ | refine zI ?_ | (with_reducible first | refine zK ?_ | refine zL ?_ | refine zE ?_ | refine zG ?_ | refine zF ?_) | refine zN ?_
    refine zf rfl (fun h => absurd (of_decide_eq_true h) (by omega)) (fun _ => ?_)
    repeat' first | refine zJ ?_ | refine zA ?_ | refine zO [] ?_ | (refine isA ?_; refine zb rfl ?_) | (refine isL ?_; refine zU rfl (by kernel_rfl) rfl rfl ?_) | (refine za rfl ?_; refine zT rfl (by kernel_rfl) rfl rfl ?_) | (refine zq 168 ?_; refine zd rfl (zZ rfl i1 (.cons (.same rfl) .nil) rfl) rfl ?_) | (refine zr 168 rfl ?_; refine zY rfl (by kernel_rfl) rfl (zZ rfl i1 (.cons (.same rfl) .nil) rfl) rfl ?_) | exact yX rfl rfl rfl | refine zD ?_ | refine zB _ rfl (by kernel_rfl) ?_ | refine zV rfl ?_ | refine zW rfl ?_ | refine zC ?_ | with_reducible refine zM ?_ | refine zH ?_ | refine zI ?_ | (with_reducible first | refine zK ?_ | refine zL ?_ | refine zE ?_ | refine zG ?_ | refine zF ?_) | refine zN ?_
def tX (q : Nat) : ByteArray := if q = 0 then ByteArray.empty else xg q
theorem nx {q : Nat} (h : q ≠ 0) : tX q = tX (q / 10) ++ wK (48 + (q % 10 : Nat)) := by
  rw [tX, if_neg h]
  rcases Nat.lt_or_ge q 10 with h1 | h1
  · rw [tW h1, tX, if_pos (by omega), ByteArray.empty_append, Nat.mod_eq_of_lt h1]
  · rw [sh h1, tX, if_neg (by omega)]
theorem sj (n : Int) (h0 : -9223372036854775808 ≤ n) (h1 : n < 9223372036854775808) : zn Go.Proofs.Try.prog 151 [I n] [] (S' (xT n)) [] false := by
  have sz := ny (n := n.natAbs) (by omega)
  by_cases hz : n = 0
  · subst hz
    have hZ : xT 0 = wK 48 := by
      show xg 0 = _
      rw [tW (by decide)]; rfl
    refine zj [2] Go.Proofs.Try.func151 rfl rfl ?_
    simp only [Go.Proofs.Try.ntmps151, List.length_cons, List.length_nil, Nat.reduceAdd, Nat.reduceSub, List.replicate_succ, List.replicate_zero, List.cons_append, List.nil_append]
    repeat' first | refine zJ ?_ | refine zA ?_ | refine zO [] ?_ | (refine isA ?_; refine zb rfl ?_) | (refine isL ?_; refine zU rfl (by kernel_rfl) rfl rfl ?_) | (refine za rfl ?_; refine zT rfl (by kernel_rfl) rfl rfl ?_) | exact yX rfl rfl (by rw [hZ]; rfl) | refine zD ?_ | refine zB _ rfl (by kernel_rfl) ?_ | refine zV rfl ?_ | refine zW rfl ?_ | refine zC ?_ | with_reducible refine zM ?_ | refine zH ?_ | refine zI ?_ | (with_reducible first | refine zK ?_ | refine zL ?_ | refine zE ?_ | refine zG ?_ | refine zF ?_) | refine zN ?_
  · refine zj [2] Go.Proofs.Try.func151 rfl rfl ?_
    simp only [Go.Proofs.Try.ntmps151, List.length_cons, List.length_nil, Nat.reduceAdd, Nat.reduceSub, List.replicate_succ, List.replicate_zero, List.cons_append, List.nil_append]
    repeat' first | refine zJ ?_ | refine zA ?_ | refine zO [] ?_ | (refine isA ?_; refine zb rfl ?_) | (refine isL ?_; refine zU rfl (by kernel_rfl) rfl rfl ?_) | (refine za rfl ?_; refine zT rfl (by kernel_rfl) rfl rfl ?_) | refine zD ?_ | refine zB _ rfl (by kernel_rfl) ?_ | refine zV rfl ?_ | refine zW rfl ?_ | refine zC ?_ | with_reducible refine zM ?_ | refine zH ?_ | refine zI ?_ | (with_reducible first | refine zK ?_ | refine zL ?_ | refine zE ?_ | refine zG ?_ | refine zF ?_) | refine zN ?_
    refine zf rfl (fun h => absurd (of_decide_eq_true h) hz) (fun _ => ?_)
    repeat' first | refine zJ ?_ | refine zA ?_ | refine zO [] ?_ | (refine isA ?_; refine zb rfl ?_) | (refine isL ?_; refine zU rfl (by kernel_rfl) rfl rfl ?_) | (refine za rfl ?_; refine zT rfl (by kernel_rfl) rfl rfl ?_) | refine zD ?_ | refine zB _ rfl (by kernel_rfl) ?_ | refine zV rfl ?_ | refine zW rfl ?_ | refine zC ?_ | with_reducible refine zM ?_ | refine zH ?_ | refine zI ?_ | (with_reducible first | refine zK ?_ | refine zL ?_ | refine zE ?_ | refine zG ?_ | refine zF ?_) | refine zN ?_
    refine zy (α := { p : Int × ByteArray // ((0 ≤ n → 0 ≤ p.1) ∧ (n < 0 → p.1 ≤ 0)) ∧ p.1.natAbs ≤ n.natAbs ∧ tX p.1.natAbs ++ p.2 = xg n.natAbs }) (fun p => ⟨[I p.1.1, .any, .any, S' p.1.2, B (decide (n < 0)), .any, .any, .any, .any, .any, .any, .any, .any, .any, .any, .any, .any, .any, .any, .any, .any, .any, .any, .any, .any, .any, .any, .any, .any, .any, .any], [], 0⟩) (fun p => p.1.1.natAbs) ⟨(n, ByteArray.empty), ⟨fun h => h, fun h => by simp only; omega⟩, Nat.le_refl _, by rw [tX, if_neg (by simp only; omega), ByteArray.append_empty]⟩ ?_ ?_
    · exact yp rfl (by repeat' first | exact EqS.nil | refine EqS.any ?_ | refine EqS.same rfl ?_)
    · rintro ⟨⟨m, out⟩, ⟨s0, s1⟩, sm, hq⟩
      simp only at s0 s1 sm hq
      repeat' first | refine zJ ?_ | refine zA ?_ | refine zO [] ?_ | (refine isA ?_; refine zb rfl ?_) | (refine isL ?_; refine zU rfl (by kernel_rfl) rfl rfl ?_) | (refine za rfl ?_; refine zT rfl (by kernel_rfl) rfl rfl ?_) | refine zD ?_ | refine zB _ rfl (by kernel_rfl) ?_ | refine zV rfl ?_ | refine zW rfl ?_ | refine zC ?_ | with_reducible refine zM ?_ | refine zH ?_ | refine zI ?_ | (with_reducible first | refine zK ?_ | refine zL ?_ | refine zE ?_ | refine zG ?_ | refine zF ?_) | refine zN ?_
      refine zf rfl (fun h => ?_) (fun h => ?_)
      · have hm : m ≠ 0 := by simpa using h
        have hmn : m.natAbs ≠ 0 := by omega
        have hst := nx hmn
        have hsz : out.size ≤ 20 := by
          have := congrArg ByteArray.size hq
          rw [ByteArray.size_append] at this
          omega
        have hd : (m.tdiv 10).natAbs = m.natAbs / 10 := by rw [Int.natAbs_tdiv]; rfl
        have hq2 : tX (m.tdiv 10).natAbs ++ (wK (48 + (m.natAbs % 10 : Nat)) ++ out) = xg n.natAbs := by
          rw [hd, ← ByteArray.append_assoc, ← hst]; exact hq
        have hs0 : 0 ≤ n → 0 ≤ m.tdiv 10 := fun h => Int.tdiv_nonneg (s0 h) (by decide)
        have hs1 : n < 0 → m.tdiv 10 ≤ 0 := fun h => by
          have h3 := s1 h
          have h4 : 0 ≤ (-m).tdiv 10 := Int.tdiv_nonneg (by omega) (by decide)
          rw [Int.neg_tdiv] at h4
          omega
        have hdm : (m.tmod 10).natAbs = m.natAbs % 10 := by rw [Int.natAbs_tmod]; rfl
        have wt : m.tdiv 10 = IntKind.i64.wrap (m.tdiv 10) := by rw [IntKind.wrap_i64]; omega
        have hlt9 : m.natAbs / 10 < m.natAbs := by omega
        repeat' first | refine zJ ?_ | refine zA ?_ | refine zO [] ?_ | (refine isA ?_; refine zb rfl ?_) | (refine isL ?_; refine zU rfl (by kernel_rfl) rfl rfl ?_) | (refine za rfl ?_; refine zT rfl (by kernel_rfl) rfl rfl ?_) | refine zD ?_ | refine zB _ rfl (by kernel_rfl) ?_ | refine zV rfl ?_ | refine zW rfl ?_ | refine zC ?_ | with_reducible refine zM ?_ | refine zH ?_ | refine zI ?_ | (with_reducible first | refine zK ?_ | refine zL ?_ | refine zE ?_ | refine zG ?_ | refine zF ?_) | refine zN ?_
        refine zf rfl (fun h2 => ?_) (fun h2 => ?_)
        · have hneg := of_decide_eq_true h2
          simp only at hneg
          have w1 : IntKind.u8.wrap (IntKind.i64.wrap (48 + IntKind.i64.wrap (0 - m.tmod 10))) = 48 + ((m.natAbs % 10 : Nat) : Int) := by
            generalize m.tmod 10 = d at hdm hneg
            have e1 : IntKind.i64.wrap (0 - d) = -d := by rw [IntKind.wrap_i64]; omega
            have e2 : IntKind.i64.wrap (48 + -d) = 48 - d := by rw [IntKind.wrap_i64]; omega
            rw [e1, e2]
            simp [IntKind.wrap, IntKind.signed, IntKind.bits]; omega
          repeat' first | (refine isA ?_; refine zd rfl (xO rfl rfl rfl rfl rfl) rfl ?_) | refine zJ ?_ | refine zA ?_ | refine zO [] ?_ | (refine isA ?_; refine zb rfl ?_) | (refine isL ?_; refine zU rfl (by kernel_rfl) rfl rfl ?_) | (refine za rfl ?_; refine zT rfl (by kernel_rfl) rfl rfl ?_) | refine zd rfl (yw (n := IntKind.u8.wrap (IntKind.i64.wrap (48 + IntKind.i64.wrap (0 - m.tmod 10)))) rfl rfl rfl rfl (.lst _ _)) rfl ?_ | refine zY rfl (by kernel_rfl) rfl (yw (n := IntKind.u8.wrap (IntKind.i64.wrap (48 + IntKind.i64.wrap (0 - m.tmod 10)))) rfl rfl rfl rfl (.lst _ _)) rfl ?_ | refine zd rfl (zo rfl rfl rfl (show 1 + out.size ≤ 9223372036854775807 by omega)) rfl ?_ | refine zY rfl (by kernel_rfl) rfl (zo rfl rfl rfl (show 1 + out.size ≤ 9223372036854775807 by omega)) rfl ?_ | refine zD ?_ | refine zB _ rfl (by kernel_rfl) ?_ | refine zV rfl ?_ | refine zW rfl ?_ | refine zC ?_ | with_reducible refine zM ?_ | refine zH ?_ | refine zI ?_ | (with_reducible first | refine zK ?_ | refine zL ?_ | refine zE ?_ | refine zG ?_ | refine zF ?_) | refine zN ?_
          rw [w1]
          refine ⟨⟨(m.tdiv 10, wK (48 + (m.natAbs % 10 : Nat)) ++ out), ⟨hs0, hs1⟩, by simp only; omega, hq2⟩, by simp only; omega, ?_⟩
          exact yp rfl (by repeat' first | exact EqS.nil | refine EqS.any ?_ | refine EqS.same rfl ?_ | refine EqS.same (congrArg I wt) ?_ | refine EqS.same (congrArg I wt.symm) ?_)
        · have hpos := of_decide_eq_false h2
          simp only at hpos
          have w1 : IntKind.u8.wrap (IntKind.i64.wrap (48 + m.tmod 10)) = 48 + ((m.natAbs % 10 : Nat) : Int) := by
            generalize m.tmod 10 = d at hdm hpos
            have e2 : IntKind.i64.wrap (48 + d) = 48 + d := by rw [IntKind.wrap_i64]; omega
            rw [e2]
            simp [IntKind.wrap, IntKind.signed, IntKind.bits]; omega
          repeat' first | (refine isA ?_; refine zd rfl (xO rfl rfl rfl rfl rfl) rfl ?_) | refine zJ ?_ | refine zA ?_ | refine zO [] ?_ | (refine isA ?_; refine zb rfl ?_) | (refine isL ?_; refine zU rfl (by kernel_rfl) rfl rfl ?_) | (refine za rfl ?_; refine zT rfl (by kernel_rfl) rfl rfl ?_) | refine zd rfl (yw (n := IntKind.u8.wrap (IntKind.i64.wrap (48 + m.tmod 10))) rfl rfl rfl rfl (.lst _ _)) rfl ?_ | refine zY rfl (by kernel_rfl) rfl (yw (n := IntKind.u8.wrap (IntKind.i64.wrap (48 + m.tmod 10))) rfl rfl rfl rfl (.lst _ _)) rfl ?_ | refine zd rfl (zo rfl rfl rfl (show 1 + out.size ≤ 9223372036854775807 by omega)) rfl ?_ | refine zY rfl (by kernel_rfl) rfl (zo rfl rfl rfl (show 1 + out.size ≤ 9223372036854775807 by omega)) rfl ?_ | refine zD ?_ | refine zB _ rfl (by kernel_rfl) ?_ | refine zV rfl ?_ | refine zW rfl ?_ | refine zC ?_ | with_reducible refine zM ?_ | refine zH ?_ | refine zI ?_ | (with_reducible first | refine zK ?_ | refine zL ?_ | refine zE ?_ | refine zG ?_ | refine zF ?_) | refine zN ?_
          rw [w1]
          refine ⟨⟨(m.tdiv 10, wK (48 + (m.natAbs % 10 : Nat)) ++ out), ⟨hs0, hs1⟩, by simp only; omega, hq2⟩, by simp only; omega, ?_⟩
          exact yp rfl (by repeat' first | exact EqS.nil | refine EqS.any ?_ | refine EqS.same rfl ?_ | refine EqS.same (congrArg I wt) ?_ | refine EqS.same (congrArg I wt.symm) ?_)
      · have hm : m = 0 := by simpa using h
        subst hm
        have hq3 : out = xg n.natAbs := by
          have h0 : tX (Int.natAbs 0) = ByteArray.empty := if_pos rfl
          rw [h0, ByteArray.empty_append] at hq
          exact hq
        subst hq3
        rcases Int.lt_or_le n 0 with hn | hn
        · have hD : xT n = yO ++ xg n.natAbs := by rw [xT, decide_eq_true hn]; rfl
          rw [hD, decide_eq_true hn]
          repeat' first | refine zJ ?_ | refine zA ?_ | refine zO [] ?_ | (refine isA ?_; refine zb rfl ?_) | (refine isL ?_; refine zU rfl (by kernel_rfl) rfl rfl ?_) | (refine za rfl ?_; refine zT rfl (by kernel_rfl) rfl rfl ?_) | refine zd rfl (zo rfl rfl rfl (show 1 + (xg n.natAbs).size ≤ 9223372036854775807 by omega)) rfl ?_ | refine zY rfl (by kernel_rfl) rfl (zo rfl rfl rfl (show 1 + (xg n.natAbs).size ≤ 9223372036854775807 by omega)) rfl ?_ | exact yX rfl rfl rfl | refine zD ?_ | refine zB _ rfl (by kernel_rfl) ?_ | refine zV rfl ?_ | refine zW rfl ?_ | refine zC ?_ | with_reducible refine zM ?_ | refine zH ?_ | refine zI ?_ | (with_reducible first | refine zK ?_ | refine zL ?_ | refine zE ?_ | refine zG ?_ | refine zF ?_) | refine zN ?_
        · have hD : xT n = xg n.natAbs := by rw [xT, decide_eq_false (by omega)]; rfl
          rw [hD, decide_eq_false (by omega)]
          repeat' first | refine zJ ?_ | refine zA ?_ | refine zO [] ?_ | (refine isA ?_; refine zb rfl ?_) | (refine isL ?_; refine zU rfl (by kernel_rfl) rfl rfl ?_) | (refine za rfl ?_; refine zT rfl (by kernel_rfl) rfl rfl ?_) | exact yX rfl rfl rfl | refine zD ?_ | refine zB _ rfl (by kernel_rfl) ?_ | refine zV rfl ?_ | refine zW rfl ?_ | refine zC ?_ | with_reducible refine zM ?_ | refine zH ?_ | refine zI ?_ | (with_reducible first | refine zK ?_ | refine zL ?_ | refine zE ?_ | refine zG ?_ | refine zF ?_) | refine zN ?_
end Go.Proofs.Ytkcicbigpbdjpaa.Ab
namespace Go.Proofs.Ytkcicbigpbdjpaa.Ab
open Go.RowKit
abbrev tV : ByteArray := ⟨#[46]⟩
def z4 (x : Rw) : ByteArray := cond (vRw x) (xT x.a ++ tV ++ xT x.b ++ tV ++ xT x.c) ByteArray.empty
theorem y3 (n : Int) (h0 : -9223372036854775808 ≤ n) (h1 : n < 9223372036854775808) : (xT n).size ≤ 21 := by
  have sz := ny (n := n.natAbs) (by omega)
  unfold xT
  cases decide (n < 0)
  · simp only [cond_false]; omega
  · simp only [cond_true, ByteArray.size_append]
    show 1 + _ ≤ _
    omega
theorem pW {x : Rw} (h : vRw x = true) : (0 ≤ x.a ∧ x.a ≤ 9) ∧ (0 ≤ x.b ∧ x.b ≤ 99) ∧ (0 ≤ x.c ∧ x.c ≤ 3) := by simpa [vRw, inV] using h
theorem xo (x : Rw) : (z4 x).size ≤ 70 := by
  unfold z4
  cases h : vRw x with
  | false => exact Nat.zero_le _
  | true =>
    have hb := pW h
    have s1 := y3 x.a (by omega) (by omega)
    have s2 := y3 x.b (by omega) (by omega)
    have s3 := y3 x.c (by omega) (by omega)
    have d : tV.size = 1 := rfl
    simp only [cond_true, ByteArray.size_append, d]
    omega
theorem qo (x : Rw) : zn Go.Proofs.Try.prog 139 [.agg (rwE x)] [] (S' (z4 x)) [] false := by
  have cv := mr x
  cases h : vRw x with
  | false =>
    rw [h] at cv
    have hD : z4 x = ByteArray.empty := by rw [z4, h]; rfl
    rw [hD]
    refine zj [2] Go.Proofs.Try.func139 rfl rfl ?_
    simp only [Go.Proofs.Try.ntmps139, List.length_cons, List.length_nil, Nat.reduceAdd, Nat.reduceSub, List.replicate_succ, List.replicate_zero, List.cons_append, List.nil_append]
    repeat' first | refine zJ ?_ | refine zA ?_ | refine zO [] ?_ | (refine isA ?_; refine zb rfl ?_) | (refine isL ?_; refine zU rfl (by kernel_rfl) rfl rfl ?_) | (refine za rfl ?_; refine zT rfl (by kernel_rfl) rfl rfl ?_) | (refine zq 157 ?_; refine zd rfl (zZ rfl cv (.cons (.same rfl) .nil) rfl) rfl ?_) | (refine zr 157 rfl ?_; refine zY rfl (by kernel_rfl) rfl (zZ rfl cv (.cons (.same rfl) .nil) rfl) rfl ?_) | exact yX rfl rfl rfl | refine zD ?_ | refine zB _ rfl (by kernel_rfl) ?_ | refine zV rfl ?_ | refine zW rfl ?_ | refine zC ?_ | with_reducible refine zM ?_ | refine zH ?_ | refine zI ?_ | (with_reducible first | refine zK ?_ | refine zL ?_ | refine zE ?_ | refine zG ?_ | refine zF ?_) | refine zN ?_
  | true =>
    rw [h] at cv
    have hb := pW h
    have s1 := y3 x.a (by omega) (by omega)
    have s2 := y3 x.b (by omega) (by omega)
    have s3 := y3 x.c (by omega) (by omega)
    have c1 := so x.a (by omega) (by omega)
    have c2 := so x.b (by omega) (by omega)
    have c3 := so x.c (by omega) (by omega)
    have hD : z4 x = xT x.a ++ tV ++ xT x.b ++ tV ++ xT x.c := by rw [z4, h]; rfl
    rw [hD]
    have d : tV.size = 1 := rfl
    generalize xT x.a = A at s1 c1
    generalize xT x.b = B2 at s2 c2
    generalize xT x.c = C at s3 c3
    refine zj [2] Go.Proofs.Try.func139 rfl rfl ?_
    simp only [Go.Proofs.Try.ntmps139, List.length_cons, List.length_nil, Nat.reduceAdd, Nat.reduceSub, List.replicate_succ, List.replicate_zero, List.cons_append, List.nil_append]
    repeat' first | refine zJ ?_ | refine zA ?_ | refine zO [] ?_ | (refine isA ?_; refine zb rfl ?_) | (refine isL ?_; refine zU rfl (by kernel_rfl) rfl rfl ?_) | (refine za rfl ?_; refine zT rfl (by kernel_rfl) rfl rfl ?_) | (refine zq 157 ?_; refine zd rfl (zZ rfl cv (.cons (.same rfl) .nil) rfl) rfl ?_) | (refine zr 157 rfl ?_; refine zY rfl (by kernel_rfl) rfl (zZ rfl cv (.cons (.same rfl) .nil) rfl) rfl ?_) | (refine zq 162 (x := #[.tmp 7]) ?_; refine zd rfl (zZ rfl c1 (.cons (.same rfl) .nil) rfl) rfl ?_) | (refine zr 162 (x := #[.tmp 7]) rfl ?_; refine zY rfl (by kernel_rfl) rfl (zZ rfl c1 (.cons (.same rfl) .nil) rfl) rfl ?_) | (refine zq 162 (x := #[.tmp 11]) ?_; refine zd rfl (zZ rfl c2 (.cons (.same rfl) .nil) rfl) rfl ?_) | (refine zr 162 (x := #[.tmp 11]) rfl ?_; refine zY rfl (by kernel_rfl) rfl (zZ rfl c2 (.cons (.same rfl) .nil) rfl) rfl ?_) | (refine zq 162 (x := #[.tmp 16]) ?_; refine zd rfl (zZ rfl c3 (.cons (.same rfl) .nil) rfl) rfl ?_) | (refine zr 162 (x := #[.tmp 16]) rfl ?_; refine zY rfl (by kernel_rfl) rfl (zZ rfl c3 (.cons (.same rfl) .nil) rfl) rfl ?_) | refine zd rfl (zo rfl rfl rfl (by simp only [ByteArray.size_append, d]; omega)) rfl ?_ | refine zY rfl (by kernel_rfl) rfl (zo rfl rfl rfl (by simp only [ByteArray.size_append, d]; omega)) rfl ?_ | exact yX rfl rfl rfl | refine zD ?_ | refine zB _ rfl (by kernel_rfl) ?_ | refine zV rfl ?_ | refine zW rfl ?_ | refine zC ?_ | with_reducible refine zM ?_ | refine zH ?_ | refine zI ?_ | (with_reducible first | refine zK ?_ | refine zL ?_ | refine zE ?_ | refine zG ?_ | refine zF ?_) | refine zN ?_
theorem qk (x : Rw) : zn Go.Proofs.Try.prog 140 [.agg (rwE x)] [] (S' (z4 x)) [] false := by
  have cv := mo x
  cases h : vRw x with
  | false =>
    rw [h] at cv
    have hD : z4 x = ByteArray.empty := by rw [z4, h]; rfl
    rw [hD]
    refine zj [2] Go.Proofs.Try.func140 rfl rfl ?_
    simp only [Go.Proofs.Try.ntmps140, List.length_cons, List.length_nil, Nat.reduceAdd, Nat.reduceSub, List.replicate_succ, List.replicate_zero, List.cons_append, List.nil_append]
    repeat' first | refine zJ ?_ | refine zA ?_ | refine zO [] ?_ | (refine isA ?_; refine zb rfl ?_) | (refine isL ?_; refine zU rfl (by kernel_rfl) rfl rfl ?_) | (refine za rfl ?_; refine zT rfl (by kernel_rfl) rfl rfl ?_) | (refine zq 152 ?_; refine zd rfl (zZ rfl cv (.cons (.same rfl) .nil) rfl) rfl ?_) | (refine zr 152 rfl ?_; refine zY rfl (by kernel_rfl) rfl (zZ rfl cv (.cons (.same rfl) .nil) rfl) rfl ?_) | exact yX rfl rfl rfl | refine zD ?_ | refine zB _ rfl (by kernel_rfl) ?_ | refine zV rfl ?_ | refine zW rfl ?_ | refine zC ?_ | with_reducible refine zM ?_ | refine zH ?_ | refine zI ?_ | (with_reducible first | refine zK ?_ | refine zL ?_ | refine zE ?_ | refine zG ?_ | refine zF ?_) | refine zN ?_
  | true =>
    rw [h] at cv
    have hb := pW h
    have s1 := y3 x.a (by omega) (by omega)
    have s2 := y3 x.b (by omega) (by omega)
    have s3 := y3 x.c (by omega) (by omega)
    have c1 := sj x.a (by omega) (by omega)
    have c2 := sj x.b (by omega) (by omega)
    have c3 := sj x.c (by omega) (by omega)
    have hD : z4 x = xT x.a ++ tV ++ xT x.b ++ tV ++ xT x.c := by rw [z4, h]; rfl
    rw [hD]
    have d : tV.size = 1 := rfl
    generalize xT x.a = A at s1 c1
    generalize xT x.b = B2 at s2 c2
    generalize xT x.c = C at s3 c3
    refine zj [2] Go.Proofs.Try.func140 rfl rfl ?_
    simp only [Go.Proofs.Try.ntmps140, List.length_cons, List.length_nil, Nat.reduceAdd, Nat.reduceSub, List.replicate_succ, List.replicate_zero, List.cons_append, List.nil_append]
    repeat' first | refine zJ ?_ | refine zA ?_ | refine zO [] ?_ | (refine isA ?_; refine zb rfl ?_) | (refine isL ?_; refine zU rfl (by kernel_rfl) rfl rfl ?_) | (refine za rfl ?_; refine zT rfl (by kernel_rfl) rfl rfl ?_) | (refine zq 152 ?_; refine zd rfl (zZ rfl cv (.cons (.same rfl) .nil) rfl) rfl ?_) | (refine zr 152 rfl ?_; refine zY rfl (by kernel_rfl) rfl (zZ rfl cv (.cons (.same rfl) .nil) rfl) rfl ?_) | (refine zq 151 (x := #[.tmp 7]) ?_; refine zd rfl (zZ rfl c1 (.cons (.same rfl) .nil) rfl) rfl ?_) | (refine zr 151 (x := #[.tmp 7]) rfl ?_; refine zY rfl (by kernel_rfl) rfl (zZ rfl c1 (.cons (.same rfl) .nil) rfl) rfl ?_) | (refine zq 151 (x := #[.tmp 11]) ?_; refine zd rfl (zZ rfl c2 (.cons (.same rfl) .nil) rfl) rfl ?_) | (refine zr 151 (x := #[.tmp 11]) rfl ?_; refine zY rfl (by kernel_rfl) rfl (zZ rfl c2 (.cons (.same rfl) .nil) rfl) rfl ?_) | (refine zq 151 (x := #[.tmp 16]) ?_; refine zd rfl (zZ rfl c3 (.cons (.same rfl) .nil) rfl) rfl ?_) | (refine zr 151 (x := #[.tmp 16]) rfl ?_; refine zY rfl (by kernel_rfl) rfl (zZ rfl c3 (.cons (.same rfl) .nil) rfl) rfl ?_) | refine zd rfl (zo rfl rfl rfl (by simp only [ByteArray.size_append, d]; omega)) rfl ?_ | refine zY rfl (by kernel_rfl) rfl (zo rfl rfl rfl (by simp only [ByteArray.size_append, d]; omega)) rfl ?_ | exact yX rfl rfl rfl | refine zD ?_ | refine zB _ rfl (by kernel_rfl) ?_ | refine zV rfl ?_ | refine zW rfl ?_ | refine zC ?_ | with_reducible refine zM ?_ | refine zH ?_ | refine zI ?_ | (with_reducible first | refine zK ?_ | refine zL ?_ | refine zE ?_ | refine zG ?_ | refine zF ?_) | refine zN ?_
end Go.Proofs.Ytkcicbigpbdjpaa.Ab
namespace Go.Proofs.Ytkcicbigpbdjpaa.Ab
open Go.RowKit
def tH : Ty ByteArray := ⟨1, fun s => [.k (.string s)], fun _ => rfl, by decide, fun r c hc => by
  simp only [List.mem_cons, List.not_mem_nil, or_false] at hc
  subst hc
  exact ⟨rfl, rfl⟩⟩
def jnF (sep : ByteArray) (xs : List ByteArray) : Nat → ByteArray
  | 0 => ByteArray.empty
  | i + 1 => cond (decide ((0 : Int) < i)) (jnF sep xs i ++ sep) (jnF sep xs i) ++ (xs[i]?).getD ByteArray.empty
theorem tQ {sep : ByteArray} {xs : List ByteArray} {m : Nat} (hs : sep.size ≤ m) (hx : ∀ x ∈ xs, x.size ≤ m) : ∀ i, i ≤ xs.length → (jnF sep xs i).size ≤ 2 * m * i
  | 0, _ => Nat.zero_le _
  | i + 1, h => by
    have h1 := tQ hs hx i (by omega)
    obtain ⟨z, hz⟩ : ∃ z, xs[i]? = some z := ⟨_, List.getElem?_eq_getElem (by omega)⟩
    have h2 := hx z (List.mem_of_getElem? hz)
    rw [jnF, hz, Nat.mul_add, Nat.mul_one]
    cases decide ((0 : Int) < i) <;> simp only [cond_true, cond_false, Option.getD_some, ByteArray.size_append] <;> omega
theorem mC (sep : ByteArray) (xs : List ByteArray) (hl : xs.length ≤ 10000) (hs : sep.size ≤ 1000) (hx : ∀ x ∈ xs, x.size ≤ 1000) : zn Go.Proofs.Try.prog 120 [yy tH xs, S' sep] [] (S' (jnF sep xs xs.length)) [] false := by
  have hsz := tQ hs hx
  refine zj [4] Go.Proofs.Try.func120 rfl rfl ?_
  simp only [Go.Proofs.Try.ntmps120, List.length_cons, List.length_nil, Nat.reduceAdd, Nat.reduceSub, List.replicate_succ, List.replicate_zero, List.cons_append, List.nil_append]
  repeat' first | refine zJ ?_ | refine zA ?_ | refine zO [] ?_ | (refine isA ?_; refine zb rfl ?_) | (refine isL ?_; refine zU rfl (by kernel_rfl) rfl rfl ?_) | (refine za rfl ?_; refine zT rfl (by kernel_rfl) rfl rfl ?_) | refine zD ?_ | refine zB _ rfl (by kernel_rfl) ?_ | refine zV rfl ?_ | refine zW rfl ?_ | refine zC ?_ | with_reducible refine zM ?_ | refine zH ?_ | refine zI ?_ | (with_reducible first | refine zK ?_ | refine zL ?_ | refine zE ?_ | refine zG ?_ | refine zF ?_) | refine zN ?_
  refine zy (α := { i : Nat // i ≤ xs.length }) (fun i => ⟨[.any, S' sep, .any, .any, .any, S' (jnF sep xs i.1), .any, .any, yy tH xs, I xs.length, I i.1, .any, .any, .any, .any, .any, .any, .any, .any, .any, .any, .any, .any, .any, .any], [], 0⟩) (fun i => xs.length - i.1) ⟨0, Nat.zero_le _⟩ ?_ ?_
  · exact yp rfl (by repeat' first | exact EqS.nil | refine EqS.any ?_ | refine EqS.same rfl ?_)
  · rintro ⟨i, hi⟩
    have hz1 := hsz i hi
    repeat' first | refine zJ ?_ | refine zA ?_ | refine zO [] ?_ | (refine isA ?_; refine zb rfl ?_) | (refine isL ?_; refine zU rfl (by kernel_rfl) rfl rfl ?_) | (refine za rfl ?_; refine zT rfl (by kernel_rfl) rfl rfl ?_) | refine zD ?_ | refine zB _ rfl (by kernel_rfl) ?_ | refine zV rfl ?_ | refine zW rfl ?_ | refine zC ?_ | with_reducible refine zM ?_ | refine zH ?_ | refine zI ?_ | (with_reducible first | refine zK ?_ | refine zL ?_ | refine zE ?_ | refine zG ?_ | refine zF ?_) | refine zN ?_
    refine zf rfl (fun h => ?_) (fun h => ?_)
    · have hlt : i < xs.length := by simpa using h
      obtain ⟨z, hz⟩ : ∃ z, xs[i]? = some z := ⟨_, List.getElem?_eq_getElem hlt⟩
      repeat' first | refine zJ ?_ | refine zA ?_ | refine zO [] ?_ | (refine isA ?_; refine zb rfl ?_) | (refine isL ?_; refine zU rfl (by kernel_rfl) rfl rfl ?_) | (refine za rfl ?_; refine zT rfl (by kernel_rfl) rfl rfl ?_) | (refine yn ?_; refine zd rfl (yT (t := tH) (z := z) rfl rfl rfl rfl (Int.natCast_nonneg i) hz) rfl ?_) | (refine ym rfl ?_; refine zY rfl (by kernel_rfl) rfl (yT (t := tH) (z := z) rfl rfl rfl rfl (Int.natCast_nonneg i) hz) rfl ?_) | refine zD ?_ | refine zB _ rfl (by kernel_rfl) ?_ | refine zV rfl ?_ | refine zW rfl ?_ | refine zC ?_ | with_reducible refine zM ?_ | refine zH ?_ | refine zI ?_ | (with_reducible first | refine zK ?_ | refine zL ?_ | refine zE ?_ | refine zG ?_ | refine zF ?_) | refine zN ?_
      have hzs := hx z (List.mem_of_getElem? hz)
      have hj : jnF sep xs (i + 1) = cond (decide ((0 : Int) < i)) (jnF sep xs i ++ sep) (jnF sep xs i) ++ z := by rw [jnF, hz]; rfl
      refine zf rfl (fun h1 => ?_) (fun h1 => ?_)
      · rw [h1] at hj
        repeat' first | refine zJ ?_ | refine zA ?_ | refine zO [] ?_ | (refine isA ?_; refine zb rfl ?_) | (refine isL ?_; refine zU rfl (by kernel_rfl) rfl rfl ?_) | (refine za rfl ?_; refine zT rfl (by kernel_rfl) rfl rfl ?_) | refine zd rfl (zo (a := jnF sep xs i) (b := sep) rfl rfl rfl (show (jnF sep xs i).size + sep.size ≤ 9223372036854775807 by omega)) rfl ?_ | refine zY rfl (by kernel_rfl) rfl (zo (a := jnF sep xs i) (b := sep) rfl rfl rfl (show (jnF sep xs i).size + sep.size ≤ 9223372036854775807 by omega)) rfl ?_ | refine zd rfl (zo (a := jnF sep xs i ++ sep) (b := z) rfl rfl rfl (show (jnF sep xs i ++ sep).size + z.size ≤ 9223372036854775807 by rw [ByteArray.size_append]; omega)) rfl ?_ | refine zY rfl (by kernel_rfl) rfl (zo (a := jnF sep xs i ++ sep) (b := z) rfl rfl rfl (show (jnF sep xs i ++ sep).size + z.size ≤ 9223372036854775807 by rw [ByteArray.size_append]; omega)) rfl ?_ | refine zD ?_ | refine zB _ rfl (by kernel_rfl) ?_ | refine zV rfl ?_ | refine zW rfl ?_ | refine zC ?_ | with_reducible refine zM ?_ | refine zH ?_ | refine zI ?_ | (with_reducible first | refine zK ?_ | refine zL ?_ | refine zE ?_ | refine zG ?_ | refine zF ?_) | refine zN ?_
        refine ⟨⟨i + 1, hlt⟩, by simp only; omega, ?_⟩
        exact yp rfl (by repeat' first | exact EqS.nil | refine EqS.any ?_ | refine EqS.same rfl ?_ | refine EqS.same (wA hlt (by omega)) ?_ | refine EqS.same (congrArg (fun s => V.k (.string s)) hj) ?_ | refine EqS.same (congrArg (fun s => V.k (.string s)) hj.symm) ?_)
      · rw [h1] at hj
        repeat' first | refine zJ ?_ | refine zA ?_ | refine zO [] ?_ | (refine isA ?_; refine zb rfl ?_) | (refine isL ?_; refine zU rfl (by kernel_rfl) rfl rfl ?_) | (refine za rfl ?_; refine zT rfl (by kernel_rfl) rfl rfl ?_) | refine zd rfl (zo (a := jnF sep xs i) (b := z) rfl rfl rfl (show (jnF sep xs i).size + z.size ≤ 9223372036854775807 by omega)) rfl ?_ | refine zY rfl (by kernel_rfl) rfl (zo (a := jnF sep xs i) (b := z) rfl rfl rfl (show (jnF sep xs i).size + z.size ≤ 9223372036854775807 by omega)) rfl ?_ | refine zD ?_ | refine zB _ rfl (by kernel_rfl) ?_ | refine zV rfl ?_ | refine zW rfl ?_ | refine zC ?_ | with_reducible refine zM ?_ | refine zH ?_ | refine zI ?_ | (with_reducible first | refine zK ?_ | refine zL ?_ | refine zE ?_ | refine zG ?_ | refine zF ?_) | refine zN ?_
        refine ⟨⟨i + 1, hlt⟩, by simp only; omega, ?_⟩
        exact yp rfl (by repeat' first | exact EqS.nil | refine EqS.any ?_ | refine EqS.same rfl ?_ | refine EqS.same (wA hlt (by omega)) ?_ | refine EqS.same (congrArg (fun s => V.k (.string s)) hj) ?_ | refine EqS.same (congrArg (fun s => V.k (.string s)) hj.symm) ?_)
    · have hge : i = xs.length := by
        have : ¬ ((i : Int) < xs.length) := by simpa using h
        omega
      subst hge
      repeat' first | refine zJ ?_ | refine zA ?_ | refine zO [] ?_ | (refine isA ?_; refine zb rfl ?_) | (refine isL ?_; refine zU rfl (by kernel_rfl) rfl rfl ?_) | (refine za rfl ?_; refine zT rfl (by kernel_rfl) rfl rfl ?_) | exact yX rfl rfl rfl | refine zD ?_ | refine zB _ rfl (by kernel_rfl) ?_ | refine zV rfl ?_ | refine zW rfl ?_ | refine zC ?_ | with_reducible refine zM ?_ | refine zH ?_ | refine zI ?_ | (with_reducible first | refine zK ?_ | refine zL ?_ | refine zE ?_ | refine zG ?_ | refine zF ?_) | refine zN ?_
end Go.Proofs.Ytkcicbigpbdjpaa.Ab
namespace Go.Proofs.Ytkcicbigpbdjpaa.Ab.Pr
open Go.RowKit
def yJ (p : Rw) : ByteArray := cond p.m (z4 p.l ++ (yO ++ z4 p.r)) (z4 p.l)
abbrev spS : ByteArray := ⟨#[32]⟩
def nM (ps : List Rw) : ByteArray := jnF spS (ps.map yJ) ps.length
theorem tA (p : Rw) : (yJ p).size ≤ 150 := by
  have h1 := xo p.l
  have h2 := xo p.r
  have d : yO.size = 1 := rfl
  unfold yJ
  cases p.m <;> simp only [cond_true, cond_false, ByteArray.size_append, d] <;> omega
theorem mu (ps : List Rw) (hl : ps.length ≤ 10000) : zn Go.Proofs.Try.prog 70 [rwL ps] [] (S' (nM ps)) [] false := by
  have cj := mC spS (ps.map yJ) (by rw [List.length_map]; exact hl) (by decide) (fun x hx => by
    obtain ⟨p, _, rfl⟩ := List.mem_map.1 hx
    have := tA p
    omega)
  rw [List.length_map] at cj
  refine zj [2] Go.Proofs.Try.func70 rfl rfl ?_
  simp only [Go.Proofs.Try.ntmps70, List.length_cons, List.length_nil, Nat.reduceAdd, Nat.reduceSub, List.replicate_succ, List.replicate_zero, List.cons_append, List.nil_append]
  repeat' first | refine zJ ?_ | refine zA ?_ | refine zO [] ?_ | (refine isA ?_; refine zb rfl ?_) | (refine isL ?_; refine zU rfl (by kernel_rfl) rfl rfl ?_) | (refine za rfl ?_; refine zT rfl (by kernel_rfl) rfl rfl ?_) | refine zD ?_ | refine zB _ rfl (by kernel_rfl) ?_ | refine zV rfl ?_ | refine zW rfl ?_ | refine zC ?_ | with_reducible refine zM ?_ | refine zH ?_ | refine zI ?_ | (with_reducible first | refine zK ?_ | refine zL ?_ | refine zE ?_ | refine zG ?_ | refine zF ?_) | refine zN ?_
  refine zy (α := { p : Nat × List ByteArray // p.1 ≤ ps.length ∧ p.2 = (ps.take p.1).map yJ }) (fun p => ⟨[.any, .any, .any, .sl 0 0 p.1.2.length, .any, .any, .any, .any, rwL ps, I ps.length, I p.1.1, .any, .any, .any, .any, .any, .any, .any, .any, .any, .any, .any, .any, .any, .any, .any, .any, .any, .any, .any, .any, .any], [xN tH 9 p.1.2], 0⟩) (fun p => ps.length - p.1.1) ⟨(0, []), Nat.zero_le _, rfl⟩ ?_ ?_
  · exact yq [0] rfl rfl (by decide) (.cons rfl rfl rfl rfl (zg (zR _ _)) .nil) (by repeat' first | exact zh | refine zc ?_ ?_ | exact zl | exact le_refl rfl | exact zm rfl rfl | exact zz rfl)
  · rintro ⟨⟨i, u⟩, hi, hu⟩
    simp only at hi hu
    have hul : u.length ≤ 10000 := by rw [hu]; simp; omega
    repeat' first | refine zJ ?_ | refine zA ?_ | refine zO [] ?_ | (refine isA ?_; refine zb rfl ?_) | (refine isL ?_; refine zU rfl (by kernel_rfl) rfl rfl ?_) | (refine za rfl ?_; refine zT rfl (by kernel_rfl) rfl rfl ?_) | refine zD ?_ | refine zB _ rfl (by kernel_rfl) ?_ | refine zV rfl ?_ | refine zW rfl ?_ | refine zC ?_ | with_reducible refine zM ?_ | refine zH ?_ | refine zI ?_ | (with_reducible first | refine zK ?_ | refine zL ?_ | refine zE ?_ | refine zG ?_ | refine zF ?_) | refine zN ?_
    refine zf rfl (fun h => ?_) (fun h => ?_)
    · have hlt : i < ps.length := by simpa using h
      obtain ⟨z, hz⟩ : ∃ z, ps[i]? = some z := ⟨_, List.getElem?_eq_getElem hlt⟩
      have s1 := xo z.l
      have s2 := xo z.r
      have d : yO.size = 1 := rfl
      have c1 := qo z.l
      have c2 := qo z.r
      repeat' first | refine zJ ?_ | refine zA ?_ | refine zO [] ?_ | (refine isA ?_; refine zb rfl ?_) | (refine isL ?_; refine zU rfl (by kernel_rfl) rfl rfl ?_) | (refine za rfl ?_; refine zT rfl (by kernel_rfl) rfl rfl ?_) | (refine yn (x := .tmp 8) ?_; refine zd rfl (yT (t := rwT) (z := z) rfl rfl rfl rfl (Int.natCast_nonneg i) hz) rfl ?_) | (refine ym (x := .tmp 8) rfl ?_; refine zY rfl (by kernel_rfl) rfl (yT (t := rwT) (z := z) rfl rfl rfl rfl (Int.natCast_nonneg i) hz) rfl ?_) | (refine zq 139 ?_; refine zd rfl (zZ rfl c1 (.cons (.same rfl) .nil) rfl) rfl ?_) | (refine zr 139 rfl ?_; refine zY rfl (by kernel_rfl) rfl (zZ rfl c1 (.cons (.same rfl) .nil) rfl) rfl ?_) | refine zD ?_ | refine zB _ rfl (by kernel_rfl) ?_ | refine zV rfl ?_ | refine zW rfl ?_ | refine zC ?_ | with_reducible refine zM ?_ | refine zH ?_ | refine zI ?_ | (with_reducible first | refine zK ?_ | refine zL ?_ | refine zE ?_ | refine zG ?_ | refine zF ?_) | refine zN ?_
      have hn : (ps.take (i + 1)).map yJ = u ++ [yJ z] := by rw [List.take_add_one, hz, hu]; simp
      refine zf rfl (fun h1 => ?_) (fun h1 => ?_)
      · have hP : yJ z = z4 z.l ++ (yO ++ z4 z.r) := by rw [yJ, h1]; rfl
        rw [hP] at hn
        repeat' first | refine zJ ?_ | refine zA ?_ | refine zO [] ?_ | (refine isA ?_; refine zb rfl ?_) | (refine isL ?_; refine zU rfl (by kernel_rfl) rfl rfl ?_) | (refine za rfl ?_; refine zT rfl (by kernel_rfl) rfl rfl ?_) | (refine zq 139 ?_; refine zd rfl (zZ rfl c2 (.cons (.same rfl) .nil) rfl) rfl ?_) | (refine zr 139 rfl ?_; refine zY rfl (by kernel_rfl) rfl (zZ rfl c2 (.cons (.same rfl) .nil) rfl) rfl ?_) | refine zd rfl (zo (a := yO) (b := z4 z.r) rfl rfl rfl (by omega)) rfl ?_ | refine zY rfl (by kernel_rfl) rfl (zo (a := yO) (b := z4 z.r) rfl rfl rfl (by omega)) rfl ?_ | refine zd rfl (zo (a := z4 z.l) (b := yO ++ z4 z.r) rfl rfl rfl (by rw [ByteArray.size_append]; omega)) rfl ?_ | refine zY rfl (by kernel_rfl) rfl (zo (a := z4 z.l) (b := yO ++ z4 z.r) rfl rfl rfl (by rw [ByteArray.size_append]; omega)) rfl ?_ | (refine x6 ?_; refine zd rfl (yY (t := tH) (xs := u) (ys := [z4 z.l ++ (yO ++ z4 z.r)]) rfl rfl rfl rfl (xJ rfl rfl rfl rfl) (by simp; omega) rfl) rfl ?_) | (refine xv rfl ?_; refine zY rfl (by kernel_rfl) rfl (yY (t := tH) (xs := u) (ys := [z4 z.l ++ (yO ++ z4 z.r)]) rfl rfl rfl rfl (xJ rfl rfl rfl rfl) (by simp; omega) rfl) rfl ?_) | refine zD ?_ | refine zB _ rfl (by kernel_rfl) ?_ | refine zV rfl ?_ | refine zW rfl ?_ | refine zC ?_ | with_reducible refine zM ?_ | refine zH ?_ | refine zI ?_ | (with_reducible first | refine zK ?_ | refine zL ?_ | refine zE ?_ | refine zG ?_ | refine zF ?_) | refine zN ?_
        refine ⟨⟨(i + 1, u ++ [z4 z.l ++ (yO ++ z4 z.r)]), hlt, hn.symm⟩, by simp only; omega, ?_⟩
        exact yq [3] rfl rfl (by decide) (.cons rfl rfl rfl rfl (zg (zR _ _)) .nil) (by repeat' first | exact zh | refine zc ?_ ?_ | exact zl | exact le_refl rfl | exact zz rfl | exact zm rfl rfl | exact zm rfl (by simp) | exact xP (by omega) (by omega))
      · have hP : yJ z = z4 z.l := by rw [yJ, h1]; rfl
        rw [hP] at hn
        repeat' first | refine zJ ?_ | refine zA ?_ | refine zO [] ?_ | (refine isA ?_; refine zb rfl ?_) | (refine isL ?_; refine zU rfl (by kernel_rfl) rfl rfl ?_) | (refine za rfl ?_; refine zT rfl (by kernel_rfl) rfl rfl ?_) | (refine x6 ?_; refine zd rfl (yY (t := tH) (xs := u) (ys := [z4 z.l]) rfl rfl rfl rfl (xJ rfl rfl rfl rfl) (by simp; omega) rfl) rfl ?_) | (refine xv rfl ?_; refine zY rfl (by kernel_rfl) rfl (yY (t := tH) (xs := u) (ys := [z4 z.l]) rfl rfl rfl rfl (xJ rfl rfl rfl rfl) (by simp; omega) rfl) rfl ?_) | refine zD ?_ | refine zB _ rfl (by kernel_rfl) ?_ | refine zV rfl ?_ | refine zW rfl ?_ | refine zC ?_ | with_reducible refine zM ?_ | refine zH ?_ | refine zI ?_ | (with_reducible first | refine zK ?_ | refine zL ?_ | refine zE ?_ | refine zG ?_ | refine zF ?_) | refine zN ?_
        refine ⟨⟨(i + 1, u ++ [z4 z.l]), hlt, hn.symm⟩, by simp only; omega, ?_⟩
        exact yq [3] rfl rfl (by decide) (.cons rfl rfl rfl rfl (zg (zR _ _)) .nil) (by repeat' first | exact zh | refine zc ?_ ?_ | exact zl | exact le_refl rfl | exact zz rfl | exact zm rfl rfl | exact zm rfl (by simp) | exact xP (by omega) (by omega))
    · have hge : i = ps.length := by
        have : ¬ ((i : Int) < ps.length) := by simpa using h
        omega
      subst hge
      rw [List.take_length] at hu
      subst hu
      repeat' first | refine zJ ?_ | refine zA ?_ | refine zO [] ?_ | (refine isA ?_; refine zb rfl ?_) | (refine isL ?_; refine zU rfl (by kernel_rfl) rfl rfl ?_) | (refine za rfl ?_; refine zT rfl (by kernel_rfl) rfl rfl ?_) | (refine zq 120 ?_; refine zd rfl (zZ rfl cj (.cons (vD rfl rfl rfl (by simp)) (.cons (.same rfl) .nil)) rfl) rfl ?_) | (refine zr 120 rfl ?_; refine zY rfl (by kernel_rfl) rfl (zZ rfl cj (.cons (vD rfl rfl rfl (by simp)) (.cons (.same rfl) .nil)) rfl) rfl ?_) | exact yX rfl rfl rfl | refine zD ?_ | refine zB _ rfl (by kernel_rfl) ?_ | refine zV rfl ?_ | refine zW rfl ?_ | refine zC ?_ | with_reducible refine zM ?_ | refine zH ?_ | refine zI ?_ | (with_reducible first | refine zK ?_ | refine zL ?_ | refine zE ?_ | refine zG ?_ | refine zF ?_) | refine zN ?_
end Go.Proofs.Ytkcicbigpbdjpaa.Ab.Pr
namespace Go.Proofs.Ytkcicbigpbdjpaa.Ab.Pr
open Go.RowKit
theorem nH {ps : List Rw} {i : Nat} {z : Rw} (hz : ps[i]? = some z) : jnF spS (ps.map yJ) (i + 1) = cond (decide ((0 : Int) < i)) (jnF spS (ps.map yJ) i ++ spS) (jnF spS (ps.map yJ) i) ++ yJ z := by
  rw [jnF, List.getElem?_map, hz]; rfl
theorem mq (ps : List Rw) (hl : ps.length ≤ 10000) : zn Go.Proofs.Try.prog 71 [rwL ps] [] (S' (nM ps)) [] false := by
  have hsz := tQ (sep := spS) (xs := ps.map yJ) (m := 150) (by decide) (fun x hx => by
    obtain ⟨p, _, rfl⟩ := List.mem_map.1 hx
    exact tA p)
  rw [List.length_map] at hsz
  refine zj [2] Go.Proofs.Try.func71 rfl rfl ?_
  simp only [Go.Proofs.Try.ntmps71, List.length_cons, List.length_nil, Nat.reduceAdd, Nat.reduceSub, List.replicate_succ, List.replicate_zero, List.cons_append, List.nil_append]
  repeat' first | refine zJ ?_ | refine zA ?_ | refine zO [] ?_ | (refine isA ?_; refine zb rfl ?_) | (refine isL ?_; refine zU rfl (by kernel_rfl) rfl rfl ?_) | (refine za rfl ?_; refine zT rfl (by kernel_rfl) rfl rfl ?_) | refine zD ?_ | refine zB _ rfl (by kernel_rfl) ?_ | refine zV rfl ?_ | refine zW rfl ?_ | refine zC ?_ | with_reducible refine zM ?_ | refine zH ?_ | refine zI ?_ | (with_reducible first | refine zK ?_ | refine zL ?_ | refine zE ?_ | refine zG ?_ | refine zF ?_) | refine zN ?_
  refine zy (α := { i : Nat // i ≤ ps.length }) (fun i => ⟨[rwL ps, .any, .any, S' (jnF spS (ps.map yJ) i.1), I i.1, .any, .any, .any, .any, .any, .any, .any, .any, .any, .any, .any, .any, .any, .any, .any, .any, .any, .any, .any, .any, .any, .any, .any, .any, .any, .any, .any, .any, .any, .any, .any, .any, .any], [], 0⟩) (fun i => ps.length - i.1) ⟨0, Nat.zero_le _⟩ ?_ ?_
  · exact yp rfl (by repeat' first | exact EqS.nil | refine EqS.any ?_ | refine EqS.same rfl ?_)
  · rintro ⟨i, hi⟩
    have hz1 := hsz i hi
    repeat' first | refine zJ ?_ | refine zA ?_ | refine zO [] ?_ | (refine isA ?_; refine zb rfl ?_) | (refine isL ?_; refine zU rfl (by kernel_rfl) rfl rfl ?_) | (refine za rfl ?_; refine zT rfl (by kernel_rfl) rfl rfl ?_) | refine zD ?_ | refine zB _ rfl (by kernel_rfl) ?_ | refine zV rfl ?_ | refine zW rfl ?_ | refine zC ?_ | with_reducible refine zM ?_ | refine zH ?_ | refine zI ?_ | (with_reducible first | refine zK ?_ | refine zL ?_ | refine zE ?_ | refine zG ?_ | refine zF ?_) | refine zN ?_
    refine zf rfl (fun h => ?_) (fun h => ?_)
    · have hlt : i < ps.length := by simpa using h
      obtain ⟨z, hz⟩ : ∃ z, ps[i]? = some z := ⟨_, List.getElem?_eq_getElem hlt⟩
      have hj := nH hz
      have s1 := xo z.l
      have s2 := xo z.r
      have d : yO.size = 1 := rfl
      have ds : spS.size = 1 := rfl
      have c1 := qk z.l
      have c2 := qk z.r
      repeat' first | refine zJ ?_ | refine zA ?_ | refine zO [] ?_ | (refine isA ?_; refine zb rfl ?_) | (refine isL ?_; refine zU rfl (by kernel_rfl) rfl rfl ?_) | (refine za rfl ?_; refine zT rfl (by kernel_rfl) rfl rfl ?_) | refine zD ?_ | refine zB _ rfl (by kernel_rfl) ?_ | refine zV rfl ?_ | refine zW rfl ?_ | refine zC ?_ | with_reducible refine zM ?_ | refine zH ?_ | refine zI ?_ | (with_reducible first | refine zK ?_ | refine zL ?_ | refine zE ?_ | refine zG ?_ | refine zF ?_) | refine zN ?_
      refine zf rfl (fun h1 => ?_) (fun h1 => ?_)
      · rw [h1] at hj
        have hus : ((jnF spS (ps.map yJ) i ++ spS)).size ≤ 4000001 := by rw [ByteArray.size_append, ds]; omega
        repeat' first | refine zJ ?_ | refine zA ?_ | refine zO [] ?_ | (refine isA ?_; refine zb rfl ?_) | (refine isL ?_; refine zU rfl (by kernel_rfl) rfl rfl ?_) | (refine za rfl ?_; refine zT rfl (by kernel_rfl) rfl rfl ?_) | (refine yn ?_; refine zd rfl (yT (t := rwT) (z := z) rfl rfl rfl rfl (Int.natCast_nonneg i) hz) rfl ?_) | (refine ym rfl ?_; refine zY rfl (by kernel_rfl) rfl (yT (t := rwT) (z := z) rfl rfl rfl rfl (Int.natCast_nonneg i) hz) rfl ?_) | refine zd rfl (zo (a := jnF spS (ps.map yJ) i) (b := spS) rfl rfl rfl (show (jnF spS (ps.map yJ) i).size + spS.size ≤ 9223372036854775807 by omega)) rfl ?_ | refine zY rfl (by kernel_rfl) rfl (zo (a := jnF spS (ps.map yJ) i) (b := spS) rfl rfl rfl (show (jnF spS (ps.map yJ) i).size + spS.size ≤ 9223372036854775807 by omega)) rfl ?_ | (refine zq 140 ?_; refine zd rfl (zZ rfl c1 (.cons (.same rfl) .nil) rfl) rfl ?_) | (refine zr 140 rfl ?_; refine zY rfl (by kernel_rfl) rfl (zZ rfl c1 (.cons (.same rfl) .nil) rfl) rfl ?_) | refine zd rfl (zo (a := (jnF spS (ps.map yJ) i ++ spS)) (b := z4 z.l) rfl rfl rfl (show ((jnF spS (ps.map yJ) i ++ spS)).size + (z4 z.l).size ≤ 9223372036854775807 by omega)) rfl ?_ | refine zY rfl (by kernel_rfl) rfl (zo (a := (jnF spS (ps.map yJ) i ++ spS)) (b := z4 z.l) rfl rfl rfl (show ((jnF spS (ps.map yJ) i ++ spS)).size + (z4 z.l).size ≤ 9223372036854775807 by omega)) rfl ?_ | refine zD ?_ | refine zB _ rfl (by kernel_rfl) ?_ | refine zV rfl ?_ | refine zW rfl ?_ | refine zC ?_ | with_reducible refine zM ?_ | refine zH ?_ | refine zI ?_ | (with_reducible first | refine zK ?_ | refine zL ?_ | refine zE ?_ | refine zG ?_ | refine zF ?_) | refine zN ?_
        refine zf rfl (fun h2 => ?_) (fun h2 => ?_)
        · have hP : yJ z = z4 z.l ++ (yO ++ z4 z.r) := by rw [yJ, h2]; rfl
          rw [hP, cond_true] at hj
          have hj2 : jnF spS (ps.map yJ) (i + 1) = (jnF spS (ps.map yJ) i ++ spS) ++ z4 z.l ++ yO ++ z4 z.r := by rw [hj]; simp only [ByteArray.append_assoc]
          repeat' first | refine zJ ?_ | refine zA ?_ | refine zO [] ?_ | (refine isA ?_; refine zb rfl ?_) | (refine isL ?_; refine zU rfl (by kernel_rfl) rfl rfl ?_) | (refine za rfl ?_; refine zT rfl (by kernel_rfl) rfl rfl ?_) | (refine yn ?_; refine zd rfl (yT (t := rwT) (z := z) rfl rfl rfl rfl (Int.natCast_nonneg i) hz) rfl ?_) | (refine ym rfl ?_; refine zY rfl (by kernel_rfl) rfl (yT (t := rwT) (z := z) rfl rfl rfl rfl (Int.natCast_nonneg i) hz) rfl ?_) | (refine zq 140 ?_; refine zd rfl (zZ rfl c2 (.cons (.same rfl) .nil) rfl) rfl ?_) | (refine zr 140 rfl ?_; refine zY rfl (by kernel_rfl) rfl (zZ rfl c2 (.cons (.same rfl) .nil) rfl) rfl ?_) | refine zd rfl (zo (a := (jnF spS (ps.map yJ) i ++ spS) ++ z4 z.l) (b := yO) rfl rfl rfl (show ((jnF spS (ps.map yJ) i ++ spS) ++ z4 z.l).size + yO.size ≤ 9223372036854775807 by rw [ByteArray.size_append]; omega)) rfl ?_ | refine zY rfl (by kernel_rfl) rfl (zo (a := (jnF spS (ps.map yJ) i ++ spS) ++ z4 z.l) (b := yO) rfl rfl rfl (show ((jnF spS (ps.map yJ) i ++ spS) ++ z4 z.l).size + yO.size ≤ 9223372036854775807 by rw [ByteArray.size_append]; omega)) rfl ?_ | refine zd rfl (zo (a := (jnF spS (ps.map yJ) i ++ spS) ++ z4 z.l ++ yO) (b := z4 z.r) rfl rfl rfl (show ((jnF spS (ps.map yJ) i ++ spS) ++ z4 z.l ++ yO).size + (z4 z.r).size ≤ 9223372036854775807 by rw [ByteArray.size_append, ByteArray.size_append]; omega)) rfl ?_ | refine zY rfl (by kernel_rfl) rfl (zo (a := (jnF spS (ps.map yJ) i ++ spS) ++ z4 z.l ++ yO) (b := z4 z.r) rfl rfl rfl (show ((jnF spS (ps.map yJ) i ++ spS) ++ z4 z.l ++ yO).size + (z4 z.r).size ≤ 9223372036854775807 by rw [ByteArray.size_append, ByteArray.size_append]; omega)) rfl ?_ | refine zD ?_ | refine zB _ rfl (by kernel_rfl) ?_ | refine zV rfl ?_ | refine zW rfl ?_ | refine zC ?_ | with_reducible refine zM ?_ | refine zH ?_ | refine zI ?_ | (with_reducible first | refine zK ?_ | refine zL ?_ | refine zE ?_ | refine zG ?_ | refine zF ?_) | refine zN ?_
          refine ⟨⟨i + 1, hlt⟩, by simp only; omega, ?_⟩
          exact yp rfl (by repeat' first | exact EqS.nil | refine EqS.any ?_ | refine EqS.same rfl ?_ | refine EqS.same (wA hlt (by omega)) ?_ | refine EqS.same (congrArg (fun s => V.k (.string s)) hj2) ?_ | refine EqS.same (congrArg (fun s => V.k (.string s)) hj2.symm) ?_)
        · have hP : yJ z = z4 z.l := by rw [yJ, h2]; rfl
          rw [hP, cond_true] at hj
          repeat' first | refine zJ ?_ | refine zA ?_ | refine zO [] ?_ | (refine isA ?_; refine zb rfl ?_) | (refine isL ?_; refine zU rfl (by kernel_rfl) rfl rfl ?_) | (refine za rfl ?_; refine zT rfl (by kernel_rfl) rfl rfl ?_) | refine zD ?_ | refine zB _ rfl (by kernel_rfl) ?_ | refine zV rfl ?_ | refine zW rfl ?_ | refine zC ?_ | with_reducible refine zM ?_ | refine zH ?_ | refine zI ?_ | (with_reducible first | refine zK ?_ | refine zL ?_ | refine zE ?_ | refine zG ?_ | refine zF ?_) | refine zN ?_
          refine ⟨⟨i + 1, hlt⟩, by simp only; omega, ?_⟩
          exact yp rfl (by repeat' first | exact EqS.nil | refine EqS.any ?_ | refine EqS.same rfl ?_ | refine EqS.same (wA hlt (by omega)) ?_ | refine EqS.same (congrArg (fun s => V.k (.string s)) hj) ?_ | refine EqS.same (congrArg (fun s => V.k (.string s)) hj.symm) ?_)
      · rw [h1] at hj
        have hus : (jnF spS (ps.map yJ) i).size ≤ 4000001 := by omega
        repeat' first | refine zJ ?_ | refine zA ?_ | refine zO [] ?_ | (refine isA ?_; refine zb rfl ?_) | (refine isL ?_; refine zU rfl (by kernel_rfl) rfl rfl ?_) | (refine za rfl ?_; refine zT rfl (by kernel_rfl) rfl rfl ?_) | (refine yn ?_; refine zd rfl (yT (t := rwT) (z := z) rfl rfl rfl rfl (Int.natCast_nonneg i) hz) rfl ?_) | (refine ym rfl ?_; refine zY rfl (by kernel_rfl) rfl (yT (t := rwT) (z := z) rfl rfl rfl rfl (Int.natCast_nonneg i) hz) rfl ?_) | (refine zq 140 ?_; refine zd rfl (zZ rfl c1 (.cons (.same rfl) .nil) rfl) rfl ?_) | (refine zr 140 rfl ?_; refine zY rfl (by kernel_rfl) rfl (zZ rfl c1 (.cons (.same rfl) .nil) rfl) rfl ?_) | refine zd rfl (zo (a := jnF spS (ps.map yJ) i) (b := z4 z.l) rfl rfl rfl (show (jnF spS (ps.map yJ) i).size + (z4 z.l).size ≤ 9223372036854775807 by omega)) rfl ?_ | refine zY rfl (by kernel_rfl) rfl (zo (a := jnF spS (ps.map yJ) i) (b := z4 z.l) rfl rfl rfl (show (jnF spS (ps.map yJ) i).size + (z4 z.l).size ≤ 9223372036854775807 by omega)) rfl ?_ | refine zD ?_ | refine zB _ rfl (by kernel_rfl) ?_ | refine zV rfl ?_ | refine zW rfl ?_ | refine zC ?_ | with_reducible refine zM ?_ | refine zH ?_ | refine zI ?_ | (with_reducible first | refine zK ?_ | refine zL ?_ | refine zE ?_ | refine zG ?_ | refine zF ?_) | refine zN ?_
        refine zf rfl (fun h2 => ?_) (fun h2 => ?_)
        · have hP : yJ z = z4 z.l ++ (yO ++ z4 z.r) := by rw [yJ, h2]; rfl
          rw [hP, cond_false] at hj
          have hj2 : jnF spS (ps.map yJ) (i + 1) = jnF spS (ps.map yJ) i ++ z4 z.l ++ yO ++ z4 z.r := by rw [hj]; simp only [ByteArray.append_assoc]
          repeat' first | refine zJ ?_ | refine zA ?_ | refine zO [] ?_ | (refine isA ?_; refine zb rfl ?_) | (refine isL ?_; refine zU rfl (by kernel_rfl) rfl rfl ?_) | (refine za rfl ?_; refine zT rfl (by kernel_rfl) rfl rfl ?_) | (refine yn ?_; refine zd rfl (yT (t := rwT) (z := z) rfl rfl rfl rfl (Int.natCast_nonneg i) hz) rfl ?_) | (refine ym rfl ?_; refine zY rfl (by kernel_rfl) rfl (yT (t := rwT) (z := z) rfl rfl rfl rfl (Int.natCast_nonneg i) hz) rfl ?_) | (refine zq 140 ?_; refine zd rfl (zZ rfl c2 (.cons (.same rfl) .nil) rfl) rfl ?_) | (refine zr 140 rfl ?_; refine zY rfl (by kernel_rfl) rfl (zZ rfl c2 (.cons (.same rfl) .nil) rfl) rfl ?_) | refine zd rfl (zo (a := jnF spS (ps.map yJ) i ++ z4 z.l) (b := yO) rfl rfl rfl (show (jnF spS (ps.map yJ) i ++ z4 z.l).size + yO.size ≤ 9223372036854775807 by rw [ByteArray.size_append]; omega)) rfl ?_ | refine zY rfl (by kernel_rfl) rfl (zo (a := jnF spS (ps.map yJ) i ++ z4 z.l) (b := yO) rfl rfl rfl (show (jnF spS (ps.map yJ) i ++ z4 z.l).size + yO.size ≤ 9223372036854775807 by rw [ByteArray.size_append]; omega)) rfl ?_ | refine zd rfl (zo (a := jnF spS (ps.map yJ) i ++ z4 z.l ++ yO) (b := z4 z.r) rfl rfl rfl (show (jnF spS (ps.map yJ) i ++ z4 z.l ++ yO).size + (z4 z.r).size ≤ 9223372036854775807 by rw [ByteArray.size_append, ByteArray.size_append]; omega)) rfl ?_ | refine zY rfl (by kernel_rfl) rfl (zo (a := jnF spS (ps.map yJ) i ++ z4 z.l ++ yO) (b := z4 z.r) rfl rfl rfl (show (jnF spS (ps.map yJ) i ++ z4 z.l ++ yO).size + (z4 z.r).size ≤ 9223372036854775807 by rw [ByteArray.size_append, ByteArray.size_append]; omega)) rfl ?_ | refine zD ?_ | refine zB _ rfl (by kernel_rfl) ?_ | refine zV rfl ?_ | refine zW rfl ?_ | refine zC ?_ | with_reducible refine zM ?_ | refine zH ?_ | refine zI ?_ | (with_reducible first | refine zK ?_ | refine zL ?_ | refine zE ?_ | refine zG ?_ | refine zF ?_) | refine zN ?_
          refine ⟨⟨i + 1, hlt⟩, by simp only; omega, ?_⟩
          exact yp rfl (by repeat' first | exact EqS.nil | refine EqS.any ?_ | refine EqS.same rfl ?_ | refine EqS.same (wA hlt (by omega)) ?_ | refine EqS.same (congrArg (fun s => V.k (.string s)) hj2) ?_ | refine EqS.same (congrArg (fun s => V.k (.string s)) hj2.symm) ?_)
        · have hP : yJ z = z4 z.l := by rw [yJ, h2]; rfl
          rw [hP, cond_false] at hj
          repeat' first | refine zJ ?_ | refine zA ?_ | refine zO [] ?_ | (refine isA ?_; refine zb rfl ?_) | (refine isL ?_; refine zU rfl (by kernel_rfl) rfl rfl ?_) | (refine za rfl ?_; refine zT rfl (by kernel_rfl) rfl rfl ?_) | refine zD ?_ | refine zB _ rfl (by kernel_rfl) ?_ | refine zV rfl ?_ | refine zW rfl ?_ | refine zC ?_ | with_reducible refine zM ?_ | refine zH ?_ | refine zI ?_ | (with_reducible first | refine zK ?_ | refine zL ?_ | refine zE ?_ | refine zG ?_ | refine zF ?_) | refine zN ?_
          refine ⟨⟨i + 1, hlt⟩, by simp only; omega, ?_⟩
          exact yp rfl (by repeat' first | exact EqS.nil | refine EqS.any ?_ | refine EqS.same rfl ?_ | refine EqS.same (wA hlt (by omega)) ?_ | refine EqS.same (congrArg (fun s => V.k (.string s)) hj) ?_ | refine EqS.same (congrArg (fun s => V.k (.string s)) hj.symm) ?_)
    · have hge : i = ps.length := by
        have : ¬ ((i : Int) < ps.length) := by simpa using h
        omega
      subst hge
      repeat' first | refine zJ ?_ | refine zA ?_ | refine zO [] ?_ | (refine isA ?_; refine zb rfl ?_) | (refine isL ?_; refine zU rfl (by kernel_rfl) rfl rfl ?_) | (refine za rfl ?_; refine zT rfl (by kernel_rfl) rfl rfl ?_) | exact yX rfl rfl rfl | refine zD ?_ | refine zB _ rfl (by kernel_rfl) ?_ | refine zV rfl ?_ | refine zW rfl ?_ | refine zC ?_ | with_reducible refine zM ?_ | refine zH ?_ | refine zI ?_ | (with_reducible first | refine zK ?_ | refine zL ?_ | refine zE ?_ | refine zG ?_ | refine zF ?_) | refine zN ?_
end Go.Proofs.Ytkcicbigpbdjpaa.Ab.Pr
namespace Go.Proofs.Ytkcicbigpbdjpaa.Ab.Pr
open Go.RowKit
theorem u0 (b : List Go.Proofs.Ytkcicbigpbdjpaa.Ab.Rw) : ∀ a : List Go.Proofs.Ytkcicbigpbdjpaa.Ab.Rw, (yE 2 a b).length + (yE 3 a b).length = a.length
  | [] => rfl
  | l :: a => by
    have ih := u0 b a
    simp only [yE, List.flatMap_cons, List.length_append, List.length_cons] at ih ⊢
    rw [one2, kJ]
    rcases Nat.eq_zero_or_pos (yB l b) with h | h
    · have e1 : decide ((0 : Int) < yB l b) = false := by simp [h]
      have e2 : decide ((yB l b : Int) = 0) = true := by simp [h]
      rw [e1, e2]
      simp only [cond_true, cond_false, List.length_cons, List.length_nil]
      omega
    · have e1 : decide ((0 : Int) < yB l b) = true := by simp [h]
      have e2 : decide ((yB l b : Int) = 0) = false := by simp; omega
      rw [e1, e2]
      simp only [cond_true, cond_false, List.length_cons, List.length_nil]
      omega
theorem one4 (b : List Go.Proofs.Ytkcicbigpbdjpaa.Ab.Rw) (l : Go.Proofs.Ytkcicbigpbdjpaa.Ab.Rw) : x5 4 b l = x5 1 b l ++ x5 3 b l := by
  rw [ln (Or.inr rfl), kK, kJ]
  congr 1
  simp
theorem mb (a b : List Go.Proofs.Ytkcicbigpbdjpaa.Ab.Rw) : (yE 4 a b).Perm (yE 1 a b ++ yE 3 a b) := by
  have : yE 4 a b = a.flatMap fun l => x5 1 b l ++ x5 3 b l := by
    rw [yE]
    congr 1
    funext l
    exact one4 b l
  rw [this]
  exact nN _ _ a
theorem nJ (a b : List Go.Proofs.Ytkcicbigpbdjpaa.Ab.Rw) {z : Rw} (h : z ∈ yE 1 a b) : z.m = true ∧ z.l.a = z.r.a := by
  rw [yE, List.mem_flatMap] at h
  obtain ⟨l, hl, hz⟩ := h
  rw [kK, xS, List.mem_map] at hz
  obtain ⟨r, hr, rfl⟩ := hz
  have := (List.mem_filter.1 hr).2
  simp only [hit, decide_eq_true_eq] at this
  exact ⟨rfl, this.symm⟩
theorem se {a b : List Go.Proofs.Ytkcicbigpbdjpaa.Ab.Rw} {i : Nat} {z : Go.Proofs.Ytkcicbigpbdjpaa.Ab.Rw} (hz : a[i]? = some z) : (yE 1 (a.take (i + 1)) b).length = (yE 1 (a.take i) b).length + yB z b := by
  rw [vw hz, List.length_append, kK, wO]
theorem cL_1 : ∀ xs ys : List Int, -1 ≤ ye xs ys ∧ ye xs ys ≤ 1
  | [], _ => by simp [ye]
  | _ :: _, [] => by simp [ye]
  | x :: xs, y :: ys => by
    have := cL_1 xs ys
    rw [ye]
    cases decide (x < y) <;> cases decide (y < x) <;> simp only [cond_true, cond_false] <;> omega
theorem kS (x y : Rw) : -1 ≤ yM x y ∧ yM x y ≤ 1 := cL_1 _ _
theorem sU {P : Program} {o : Oper} {ρ : Operand → V} {H : List Reg} {t t' : TypeId} {x y : Operand} {a : Bool} (ho : o.op = .binOp .eql t x y t') (hx : ρ x = .k (.bool a)) (hy : ρ y = .k (.bool a)) (ht : P.underlying t = some .bool) : zu P o ρ H (B true) H := by
  have := uw (P := P) (H := H) ho hx hy ht
  rwa [beq_self_eq_true] at this
theorem lp {α : Type} [BEq α] [ReflBEq α] {x : α} {p : Prop} (h : (!(x == x)) = true) : p := by simp at h
theorem law_ReferenceJoins (xs : List Int) (hl0 : xs.length ≤ 9223372036854775807) : zn Go.Proofs.Try.prog 11 [yy u8T xs] [] (B true) [] false := by
  refine zj [2] Go.Proofs.Try.func11 rfl rfl ?_
  simp only [Go.Proofs.Try.ntmps11, List.length_cons, List.length_nil, Nat.reduceAdd, Nat.reduceSub, List.replicate_succ, List.replicate_zero, List.cons_append, List.nil_append]
  repeat' first | refine zJ ?_ | refine zA ?_ | refine zO [] ?_ | (refine isA ?_; refine zb rfl ?_) | (refine isL ?_; refine zU rfl (by kernel_rfl) rfl rfl ?_) | (refine za rfl ?_; refine zT rfl (by kernel_rfl) rfl rfl ?_) | (refine zq 15 ?_; refine zd rfl (zZ rfl (mJ xs) (.cons (.same rfl) .nil) rfl) rfl ?_) | (refine zr 15 rfl ?_; refine zY rfl (by kernel_rfl) rfl (zZ rfl (mJ xs) (.cons (.same rfl) .nil) rfl) rfl ?_) | refine zD ?_ | refine zB _ rfl (by kernel_rfl) ?_ | refine zV rfl ?_ | refine zW rfl ?_ | refine zC ?_ | with_reducible refine zM ?_ | refine zH ?_ | refine zI ?_ | (with_reducible first | refine zK ?_ | refine zL ?_ | refine zE ?_ | refine zG ?_ | refine zF ?_) | refine zN ?_
  refine zf rfl (fun h => ?_) (fun h => ?_)
  · repeat' first | refine zJ ?_ | refine zA ?_ | refine zO [] ?_ | (refine isA ?_; refine zb rfl ?_) | (refine isL ?_; refine zU rfl (by kernel_rfl) rfl rfl ?_) | (refine za rfl ?_; refine zT rfl (by kernel_rfl) rfl rfl ?_) | exact yX rfl rfl rfl | refine zD ?_ | refine zB _ rfl (by kernel_rfl) ?_ | refine zV rfl ?_ | refine zW rfl ?_ | refine zC ?_ | with_reducible refine zM ?_ | refine zH ?_ | refine zI ?_ | (with_reducible first | refine zK ?_ | refine zL ?_ | refine zE ?_ | refine zG ?_ | refine zF ?_) | refine zN ?_
  have hl : xs.length ≤ 1000000000 := by have := of_decide_eq_false h; omega
  have d1 := mG xs hl
  obtain ⟨_, _, la, lb⟩ := kQ xs
  generalize tU xs = p at d1 la lb
  obtain ⟨k, a, b⟩ := p
  simp only at d1 la lb
  have jl : ∀ k, (yE k a b).length ≤ 72 := fun k => by
    have := wG k b a
    have h2 : a.length * (b.length + 1) ≤ 8 * 9 := Nat.mul_le_mul la (by omega)
    omega
  have ik := (vh k a b (by omega) (by omega)).frozen (xA rfl)
  have sk := (qj k a b (by omega) (by omega)).frozen (xA rfl)
  have jk := jl k
  generalize yE k a b = j at ik sk jk
  have e0 := n9 j j (by omega) (by omega)
  rw [qh.2 (List.Perm.refl j)] at e0
  have f1 := mu j (by omega)
  have f2 := mq j (by omega)
  generalize nM j = s at f1 f2
  have i1 := (vh 1 a b (by omega) (by omega)).frozen (xA rfl)
  have i2 := (vh 2 a b (by omega) (by omega)).frozen (xA rfl)
  have i3 := (vh 3 a b (by omega) (by omega)).frozen (xA rfl)
  have i4 := (vh 4 a b (by omega) (by omega)).frozen (xA rfl)
  have l1 := jl 1
  have l3 := jl 3
  have l4 := jl 4
  have h23 := u0 b a
  have h4 := mb a b
  have hin : ∀ z ∈ yE 1 a b, z.m = true ∧ z.l.a = z.r.a := fun z hz => nJ a b hz
  repeat' first | refine zJ ?_ | refine zA ?_ | refine zO [] ?_ | (refine isA ?_; refine zb rfl ?_) | (refine isL ?_; refine zU rfl (by kernel_rfl) rfl rfl ?_) | (refine za rfl ?_; refine zT rfl (by kernel_rfl) rfl rfl ?_) | (refine zq 67 ?_; refine zd rfl (zZ rfl d1 (.cons (.same rfl) .nil) rfl) rfl ?_) | (refine zr 67 rfl ?_; refine zY rfl (by kernel_rfl) rfl (zZ rfl d1 (.cons (.same rfl) .nil) rfl) rfl ?_) | (refine zq 68 (x := #[.tmp 26, .tmp 27, .tmp 28]) ?_; refine zd rfl (zZ rfl ik (.cons (.same rfl) (.cons (.same rfl) (.cons (.same rfl) .nil))) rfl) rfl ?_) | (refine zr 68 (x := #[.tmp 26, .tmp 27, .tmp 28]) rfl ?_; refine zY rfl (by kernel_rfl) rfl (zZ rfl ik (.cons (.same rfl) (.cons (.same rfl) (.cons (.same rfl) .nil))) rfl) rfl ?_) | (refine zq 69 ?_; refine zd rfl (zZ rfl sk (.cons (.same rfl) (.cons (.same rfl) (.cons (.same rfl) .nil))) rfl) rfl ?_) | (refine zr 69 rfl ?_; refine zY rfl (by kernel_rfl) rfl (zZ rfl sk (.cons (.same rfl) (.cons (.same rfl) (.cons (.same rfl) .nil))) rfl) rfl ?_) | (refine zq 63 ?_; refine zd rfl (zZ rfl e0 (.cons (.same rfl) (.cons (.same rfl) .nil)) rfl) rfl ?_) | (refine zr 63 rfl ?_; refine zY rfl (by kernel_rfl) rfl (zZ rfl e0 (.cons (.same rfl) (.cons (.same rfl) .nil)) rfl) rfl ?_) | (refine zq 70 ?_; refine zd rfl (zZ rfl f1 (.cons (.same rfl) .nil) rfl) rfl ?_) | (refine zr 70 rfl ?_; refine zY rfl (by kernel_rfl) rfl (zZ rfl f1 (.cons (.same rfl) .nil) rfl) rfl ?_) | (refine zq 71 ?_; refine zd rfl (zZ rfl f2 (.cons (.same rfl) .nil) rfl) rfl ?_) | (refine zr 71 rfl ?_; refine zY rfl (by kernel_rfl) rfl (zZ rfl f2 (.cons (.same rfl) .nil) rfl) rfl ?_) | (refine zq 72 ?_; refine zd rfl (zZ rfl (l6 k) (.cons (.same rfl) .nil) rfl) rfl ?_) | (refine zr 72 rfl ?_; refine zY rfl (by kernel_rfl) rfl (zZ rfl (l6 k) (.cons (.same rfl) .nil) rfl) rfl ?_) | (refine zq 73 ?_; refine zd rfl (zZ rfl (n8 k) (.cons (.same rfl) .nil) rfl) rfl ?_) | (refine zr 73 rfl ?_; refine zY rfl (by kernel_rfl) rfl (zZ rfl (n8 k) (.cons (.same rfl) .nil) rfl) rfl ?_) | exact lp hbr | refine zD ?_ | refine zB _ rfl (by kernel_rfl) ?_ | refine zV rfl ?_ | refine zW rfl ?_ | refine zC ?_ | with_reducible refine zM ?_ | refine zH ?_ | refine zI ?_ | (with_reducible first | refine zK ?_ | refine zL ?_ | refine zE ?_ | refine zG ?_ | refine zF ?_) | refine zN ?_ | (refine vY ?_; refine xi rfl rfl (fun hbr => ?_) (fun hbr => ?_) <;> (fail_if_success (with_reducible (have hx : true = true := hbr))) <;> (fail_if_success (with_reducible (have hx : false = false := hbr)))) | (refine za rfl ?_; refine yz rfl rfl rfl rfl (fun hbr => ?_) (fun hbr => ?_) <;> (fail_if_success (with_reducible (have hx : true = true := hbr))) <;> (fail_if_success (with_reducible (have hx : false = false := hbr))))
  refine zf rfl (fun g => ?_) (fun g => ?_)
  · exact lp g
  repeat' first | refine zJ ?_ | refine zA ?_ | refine zO [] ?_ | (refine isA ?_; refine zb rfl ?_) | (refine isL ?_; refine zU rfl (by kernel_rfl) rfl rfl ?_) | (refine za rfl ?_; refine zT rfl (by kernel_rfl) rfl rfl ?_) | (refine zq 68 ?_; refine zd rfl (zZ rfl i1 (.cons (.same rfl) (.cons (.same rfl) (.cons (.same rfl) .nil))) rfl) rfl ?_) | (refine zr 68 rfl ?_; refine zY rfl (by kernel_rfl) rfl (zZ rfl i1 (.cons (.same rfl) (.cons (.same rfl) (.cons (.same rfl) .nil))) rfl) rfl ?_) | (refine zq 68 ?_; refine zd rfl (zZ rfl i2 (.cons (.same rfl) (.cons (.same rfl) (.cons (.same rfl) .nil))) rfl) rfl ?_) | (refine zr 68 rfl ?_; refine zY rfl (by kernel_rfl) rfl (zZ rfl i2 (.cons (.same rfl) (.cons (.same rfl) (.cons (.same rfl) .nil))) rfl) rfl ?_) | (refine zq 68 ?_; refine zd rfl (zZ rfl i3 (.cons (.same rfl) (.cons (.same rfl) (.cons (.same rfl) .nil))) rfl) rfl ?_) | (refine zr 68 rfl ?_; refine zY rfl (by kernel_rfl) rfl (zZ rfl i3 (.cons (.same rfl) (.cons (.same rfl) (.cons (.same rfl) .nil))) rfl) rfl ?_) | (refine zq 68 ?_; refine zd rfl (zZ rfl i4 (.cons (.same rfl) (.cons (.same rfl) (.cons (.same rfl) .nil))) rfl) rfl ?_) | (refine zr 68 rfl ?_; refine zY rfl (by kernel_rfl) rfl (zZ rfl i4 (.cons (.same rfl) (.cons (.same rfl) (.cons (.same rfl) .nil))) rfl) rfl ?_) | refine zD ?_ | refine zB _ rfl (by kernel_rfl) ?_ | refine zV rfl ?_ | refine zW rfl ?_ | refine zC ?_ | with_reducible refine zM ?_ | refine zH ?_ | refine zI ?_ | (with_reducible first | refine zK ?_ | refine zL ?_ | refine zE ?_ | refine zG ?_ | refine zF ?_) | refine zN ?_
  have hNl : ∀ i, (yE 1 (a.take i) b).length ≤ 72 := fun i => by
    have h1 := wG 1 b (a.take i)
    have h2 : (a.take i).length ≤ 8 := by simp; omega
    have h3 : (a.take i).length * (b.length + 1) ≤ 8 * 9 := Nat.mul_le_mul h2 (by omega)
    omega
  have hN0 : (yE 1 (a.take 0) b).length = 0 := rfl
  have hNs : ∀ i z, a[i]? = some z → (yE 1 (a.take (i + 1)) b).length = (yE 1 (a.take i) b).length + yB z b := fun i z hz => se hz
  have hNe : (yE 1 (a.take a.length) b).length = (yE 1 a b).length := by rw [List.take_length]
  generalize hN : (fun i => (yE 1 (a.take i) b).length) = N
  have hNi : ∀ i, (yE 1 (a.take i) b).length = N i := fun i => by rw [← hN]
  simp only [hNi] at hNl hN0 hNs hNe
  clear hN hNi
  generalize yE 1 a b = x1 at *
  generalize yE 2 a b = x2 at *
  generalize yE 3 a b = x3 at *
  generalize yE 4 a b = x4 at *
  refine zy (α := { i : Nat // i ≤ a.length }) (fun i => ⟨((yy u8T xs) :: .any :: .any :: .any :: (Go.Proofs.Ytkcicbigpbdjpaa.Ab.rwL a) :: (Go.Proofs.Ytkcicbigpbdjpaa.Ab.rwL b) :: .any :: (rwL x1) :: (rwL x2) :: (rwL x3) :: (rwL x4) :: (I (N i.1)) :: (I i.1) :: .any :: .any :: .any :: .any :: .any :: .any :: .any :: .any :: .any :: .any :: .any :: .any :: .any :: .any :: .any :: .any :: .any :: .any :: .any :: .any :: .any :: .any :: .any :: .any :: .any :: .any :: .any :: .any :: .any :: .any :: .any :: .any :: .any :: .any :: .any :: .any :: .any :: .any :: .any :: .any :: .any :: .any :: .any :: .any :: .any :: .any :: .any :: .any :: .any :: .any :: .any :: .any :: .any :: .any :: .any :: .any :: .any :: .any :: .any :: .any :: .any :: .any :: .any :: .any :: .any :: .any :: .any :: .any :: .any :: .any :: .any :: .any :: .any :: .any :: .any :: .any :: .any :: .any :: .any :: .any :: .any :: .any :: .any :: .any :: .any :: .any :: .any :: .any :: .any :: .any :: .any :: .any :: .any :: .any :: .any :: .any :: .any :: .any :: .any :: .any :: .any :: .any :: .any :: .any :: .any :: .any :: .any :: .any :: .any :: .any :: .any :: .any :: .any :: .any :: .any :: .any :: .any :: .any :: .any :: .any :: .any :: .any :: .any :: .any :: .any :: .any :: .any :: .any :: .any :: .any :: .any :: .any :: .any :: .any :: .any :: .any :: .any :: .any :: .any :: .any :: .any :: .any :: .any :: .any :: .any :: .any :: .any :: .any :: .any :: .any :: .any :: .any :: .any :: .any :: .any :: []), [], 0⟩) (fun i => a.length - i.1) ⟨0, Nat.zero_le _⟩ ?_ ?_
  · simp only [hN0]
    exact yp rfl (by repeat' first | exact EqS.nil | refine EqS.any ?_ | refine EqS.same rfl ?_)
  rintro ⟨i, hi⟩
  have hb := hNl i
  repeat' first | refine zJ ?_ | refine zA ?_ | refine zO [] ?_ | (refine isA ?_; refine zb rfl ?_) | (refine isL ?_; refine zU rfl (by kernel_rfl) rfl rfl ?_) | (refine za rfl ?_; refine zT rfl (by kernel_rfl) rfl rfl ?_) | refine zD ?_ | refine zB _ rfl (by kernel_rfl) ?_ | refine zV rfl ?_ | refine zW rfl ?_ | refine zC ?_ | with_reducible refine zM ?_ | refine zH ?_ | refine zI ?_ | (with_reducible first | refine zK ?_ | refine zL ?_ | refine zE ?_ | refine zG ?_ | refine zF ?_) | refine zN ?_
  refine zf rfl (fun g => ?_) (fun g => ?_)
  · have hlt : i < a.length := by simpa using g
    obtain ⟨z, hz⟩ : ∃ z, a[i]? = some z := ⟨_, List.getElem?_eq_getElem hlt⟩
    have hs := hNs i z hz
    have hc := wl z b
    repeat' first | refine zJ ?_ | refine zA ?_ | refine zO [] ?_ | (refine isA ?_; refine zb rfl ?_) | (refine isL ?_; refine zU rfl (by kernel_rfl) rfl rfl ?_) | (refine za rfl ?_; refine zT rfl (by kernel_rfl) rfl rfl ?_) | (refine yn ?_; refine zd rfl (yT (t := Go.Proofs.Ytkcicbigpbdjpaa.Ab.rwT) (z := z) rfl rfl rfl rfl (Int.natCast_nonneg i) hz) rfl ?_) | (refine ym rfl ?_; refine zY rfl (by kernel_rfl) rfl (yT (t := Go.Proofs.Ytkcicbigpbdjpaa.Ab.rwT) (z := z) rfl rfl rfl rfl (Int.natCast_nonneg i) hz) rfl ?_) | (refine zq 74 ?_; refine zd rfl (zZ rfl (up z b (by omega)) (.cons (.same rfl) (.cons (.same rfl) .nil)) rfl) rfl ?_) | (refine zr 74 rfl ?_; refine zY rfl (by kernel_rfl) rfl (zZ rfl (up z b (by omega)) (.cons (.same rfl) (.cons (.same rfl) .nil)) rfl) rfl ?_) | refine zD ?_ | refine zB _ rfl (by kernel_rfl) ?_ | refine zV rfl ?_ | refine zW rfl ?_ | refine zC ?_ | with_reducible refine zM ?_ | refine zH ?_ | refine zI ?_ | (with_reducible first | refine zK ?_ | refine zL ?_ | refine zE ?_ | refine zG ?_ | refine zF ?_) | refine zN ?_
    refine ⟨⟨i + 1, hlt⟩, by simp only; omega, ?_⟩
    exact yp rfl (by repeat' first | exact EqS.nil | refine EqS.any ?_ | refine EqS.same rfl ?_ | refine EqS.same (wA hlt (by omega)) ?_ | refine EqS.same (congrArg (fun n => V.k (.int .i64 n)) (show IntKind.i64.wrap ((N i : Int) + yB z b) = (N (i + 1) : Int) by rw [IntKind.wrap_i64, hs]; omega)) ?_ | refine EqS.same (congrArg (fun n => V.k (.int .i64 n)) (show (N (i + 1) : Int) = IntKind.i64.wrap ((N i : Int) + yB z b) by rw [IntKind.wrap_i64, hs]; omega)) ?_)
  have hge : i = a.length := by
    have : ¬ ((i : Int) < a.length) := by simpa using g
    omega
  subst hge
  rw [hNe]
  repeat' first | refine zJ ?_ | refine zA ?_ | refine zO [] ?_ | (refine isA ?_; refine zb rfl ?_) | (refine isL ?_; refine zU rfl (by kernel_rfl) rfl rfl ?_) | (refine za rfl ?_; refine zT rfl (by kernel_rfl) rfl rfl ?_) | refine zD ?_ | refine zB _ rfl (by kernel_rfl) ?_ | refine zV rfl ?_ | refine zW rfl ?_ | refine zC ?_ | with_reducible refine zM ?_ | refine zH ?_ | refine zI ?_ | (with_reducible first | refine zK ?_ | refine zL ?_ | refine zE ?_ | refine zG ?_ | refine zF ?_) | refine zN ?_
  refine zy (α := { i : Nat // i ≤ x1.length }) (fun i => ⟨((yy u8T xs) :: .any :: .any :: .any :: (Go.Proofs.Ytkcicbigpbdjpaa.Ab.rwL a) :: .any :: .any :: (rwL x1) :: (rwL x2) :: (rwL x3) :: (rwL x4) :: (I x1.length) :: .any :: (I i.1) :: .any :: .any :: .any :: .any :: .any :: .any :: .any :: .any :: .any :: .any :: .any :: .any :: .any :: .any :: .any :: .any :: .any :: .any :: .any :: .any :: .any :: .any :: .any :: .any :: .any :: .any :: .any :: .any :: .any :: .any :: .any :: .any :: .any :: .any :: .any :: .any :: .any :: .any :: .any :: .any :: .any :: .any :: .any :: .any :: .any :: .any :: .any :: .any :: .any :: .any :: .any :: .any :: .any :: .any :: .any :: .any :: .any :: .any :: .any :: .any :: .any :: .any :: .any :: .any :: .any :: .any :: .any :: .any :: .any :: .any :: .any :: .any :: .any :: .any :: .any :: .any :: .any :: .any :: .any :: .any :: .any :: .any :: .any :: .any :: .any :: .any :: .any :: .any :: .any :: .any :: .any :: .any :: .any :: .any :: .any :: .any :: .any :: .any :: .any :: .any :: .any :: .any :: .any :: .any :: .any :: .any :: .any :: .any :: .any :: .any :: .any :: .any :: .any :: .any :: .any :: .any :: .any :: .any :: .any :: .any :: .any :: .any :: .any :: .any :: .any :: .any :: .any :: .any :: .any :: .any :: .any :: .any :: .any :: .any :: .any :: .any :: .any :: .any :: .any :: .any :: .any :: .any :: .any :: .any :: .any :: .any :: .any :: .any :: .any :: .any :: .any :: .any :: .any :: .any :: []), [], 0⟩) (fun i => x1.length - i.1) ⟨0, Nat.zero_le _⟩ ?_ ?_
  · exact yp rfl (by repeat' first | exact EqS.nil | refine EqS.any ?_ | refine EqS.same rfl ?_)
  rintro ⟨i, hi⟩
  repeat' first | refine zJ ?_ | refine zA ?_ | refine zO [] ?_ | (refine isA ?_; refine zb rfl ?_) | (refine isL ?_; refine zU rfl (by kernel_rfl) rfl rfl ?_) | (refine za rfl ?_; refine zT rfl (by kernel_rfl) rfl rfl ?_) | refine zD ?_ | refine zB _ rfl (by kernel_rfl) ?_ | refine zV rfl ?_ | refine zW rfl ?_ | refine zC ?_ | with_reducible refine zM ?_ | refine zH ?_ | refine zI ?_ | (with_reducible first | refine zK ?_ | refine zL ?_ | refine zE ?_ | refine zG ?_ | refine zF ?_) | refine zN ?_
  refine zf rfl (fun g => ?_) (fun g => ?_)
  · have hlt : i < x1.length := by simpa using g
    obtain ⟨z, hz⟩ : ∃ z, x1[i]? = some z := ⟨_, List.getElem?_eq_getElem hlt⟩
    have hs := hin z (List.mem_of_getElem? hz)
    obtain ⟨⟨la1, lb1, lc1⟩, ⟨ra1, rb1, rc1⟩, m⟩ := z
    simp only at hs
    obtain ⟨rfl, rfl⟩ := hs
    repeat' first | refine zJ ?_ | refine zA ?_ | refine zO [] ?_ | (refine isA ?_; refine zb rfl ?_) | (refine isL ?_; refine zU rfl (by kernel_rfl) rfl rfl ?_) | (refine za rfl ?_; refine zT rfl (by kernel_rfl) rfl rfl ?_) | (refine yn ?_; refine zd rfl (yT (t := rwT) (z := ⟨⟨la1, lb1, lc1⟩, ⟨la1, rb1, rc1⟩, true⟩) rfl rfl rfl rfl (Int.natCast_nonneg i) hz) rfl ?_) | (refine ym rfl ?_; refine zY rfl (by kernel_rfl) rfl (yT (t := rwT) (z := ⟨⟨la1, lb1, lc1⟩, ⟨la1, rb1, rc1⟩, true⟩) rfl rfl rfl rfl (Int.natCast_nonneg i) hz) rfl ?_) | refine zD ?_ | refine zB _ rfl (by kernel_rfl) ?_ | refine zV rfl ?_ | refine zW rfl ?_ | refine zC ?_ | with_reducible refine zM ?_ | refine zH ?_ | refine zI ?_ | (with_reducible first | refine zK ?_ | refine zL ?_ | refine zE ?_ | refine zG ?_ | refine zF ?_) | refine zN ?_
    refine zf rfl (fun g2 => ?_) (fun g2 => ?_)
    · exact absurd g2 (by simp)
    repeat' first | refine zJ ?_ | refine zA ?_ | refine zO [] ?_ | (refine isA ?_; refine zb rfl ?_) | (refine isL ?_; refine zU rfl (by kernel_rfl) rfl rfl ?_) | (refine za rfl ?_; refine zT rfl (by kernel_rfl) rfl rfl ?_) | refine zD ?_ | refine zB _ rfl (by kernel_rfl) ?_ | refine zV rfl ?_ | refine zW rfl ?_ | refine zC ?_ | with_reducible refine zM ?_ | refine zH ?_ | refine zI ?_ | (with_reducible first | refine zK ?_ | refine zL ?_ | refine zE ?_ | refine zG ?_ | refine zF ?_) | refine zN ?_
    refine ⟨⟨i + 1, hlt⟩, by simp only; omega, ?_⟩
    exact yp rfl (by repeat' first | exact EqS.nil | refine EqS.any ?_ | refine EqS.same rfl ?_ | refine EqS.same (wA (by assumption) (by omega)) ?_)
  have hge : i = x1.length := by
    have : ¬ ((i : Int) < x1.length) := by simpa using g
    omega
  subst hge
  obtain ⟨x, y, d2⟩ := mH xs hl
  obtain ⟨p, q, hpl, hql, d3⟩ := pQ xs hl
  have q1 := mF p q (by omega) (by omega)
  have q2 := n9 p q (by omega) (by omega)
  have hx4 := h4.length_eq
  rw [List.length_append] at hx4
  have e4 := mF x4 ([] ++ x1 ++ x3) (by omega) (by simp; omega)
  rw [List.nil_append, qh.2 h4, ← List.nil_append x1] at e4
  have h120 : decide ((x1.length : Int) = x1.length) = true := decide_eq_true rfl
  have h129 : decide (IntKind.i64.wrap ((x2.length : Int) + x3.length) = (a.length : Int)) = true := decide_eq_true (by rw [IntKind.wrap_i64]; omega)
  have h147 : decide (yM x y = yM x y) = true := decide_eq_true rfl
  have h157 : decide (yM x y = IntKind.i64.wrap (0 - yM y x)) = true := decide_eq_true (by
    have := vf x y
    have := kS x y
    rw [IntKind.wrap_i64]
    omega)
  repeat' first | refine zJ ?_ | refine zA ?_ | (refine isA ?_; refine zb rfl ?_) | (refine isL ?_; refine zU rfl (by kernel_rfl) rfl rfl ?_) | (refine za rfl ?_; refine zT rfl (by kernel_rfl) rfl rfl ?_) | (refine zq 75 ?_; refine zd rfl (zZ rfl d2 (.cons (.same rfl) .nil) rfl) rfl ?_) | (refine zr 75 rfl ?_; refine zY rfl (by kernel_rfl) rfl (zZ rfl d2 (.cons (.same rfl) .nil) rfl) rfl ?_) | (refine zq 76 ?_; refine zd rfl (zZ rfl d3 (.cons (.same rfl) .nil) rfl) rfl ?_) | (refine zr 76 rfl ?_; refine zY rfl (by kernel_rfl) rfl (zZ rfl d3 (.cons (.same rfl) .nil) rfl) rfl ?_) | refine zD ?_ | refine zB _ rfl (by kernel_rfl) ?_ | refine zV rfl ?_ | refine zW rfl ?_ | refine zC ?_ | with_reducible refine zM ?_ | refine zH ?_ | refine zI ?_ | (with_reducible first | refine zK ?_ | refine zL ?_ | refine zE ?_ | refine zG ?_ | refine zF ?_) | refine zN ?_
  refine qv 51 (fun H => H[0]? = some ⟨73, 7, rwE x, 0⟩ ∧ H[1]? = some ⟨73, 7, rwE y, 0⟩) 52 rfl ?_
  refine z0 0 (Or.inr ⟨rfl, rfl⟩) rfl rfl (by kernel_rfl) rfl (fun _ => rfl) rfl ?_
  refine z0 1 (Or.inr ⟨rfl, rfl⟩) rfl rfl (by kernel_rfl) rfl (fun _ => rfl) rfl ?_
  refine z0 2 (Or.inr ⟨rfl, rfl⟩) rfl rfl (by kernel_rfl) rfl (fun _ => rfl) rfl ?_
  refine z0 3 (v := B true) (Or.inr ⟨rfl, rfl⟩) rfl rfl (by kernel_rfl) rfl (fun H => congrArg (fun b => some (B b, H)) h120) rfl ?_
  refine z0 4 (Or.inr ⟨rfl, rfl⟩) rfl rfl (by kernel_rfl) rfl (fun _ => rfl) rfl ?_
  refine z0 5 (Or.inr ⟨rfl, rfl⟩) rfl rfl (by kernel_rfl) rfl (fun _ => rfl) rfl ?_
  refine z0 6 (Or.inr ⟨rfl, rfl⟩) rfl rfl (by kernel_rfl) rfl (fun _ => rfl) rfl ?_
  refine z0 7 (Or.inr ⟨rfl, rfl⟩) rfl rfl (by kernel_rfl) rfl (fun _ => rfl) rfl ?_
  refine z0 8 (Or.inr ⟨rfl, rfl⟩) rfl rfl (by kernel_rfl) rfl (fun _ => rfl) rfl ?_
  refine z0 9 (Or.inr ⟨rfl, rfl⟩) rfl rfl (by kernel_rfl) rfl (fun _ => rfl) rfl ?_
  refine z0 10 (Or.inr ⟨rfl, rfl⟩) rfl rfl (by kernel_rfl) rfl (fun _ => rfl) rfl ?_
  refine z0 11 (Or.inr ⟨rfl, rfl⟩) rfl rfl (by kernel_rfl) rfl (fun _ => rfl) rfl ?_
  refine z0 12 (v := B true) (Or.inr ⟨rfl, rfl⟩) rfl rfl (by kernel_rfl) rfl (fun H => congrArg (fun b => some (B b, H)) h129) rfl ?_
  refine z0 13 (Or.inr ⟨rfl, rfl⟩) rfl rfl (by kernel_rfl) rfl (fun _ => rfl) rfl ?_
  refine z0 14 (Or.inr ⟨rfl, rfl⟩) rfl rfl (by kernel_rfl) rfl (fun _ => rfl) rfl ?_
  refine z0 15 (Or.inr ⟨rfl, rfl⟩) rfl rfl (by kernel_rfl) rfl (fun _ => rfl) rfl ?_
  refine z0 17 (Or.inr ⟨rfl, rfl⟩) rfl rfl (by kernel_rfl) rfl (fun _ => rfl) rfl ?_
  refine z0 19 (Or.inr ⟨rfl, rfl⟩) rfl rfl (by kernel_rfl) rfl (fun _ => rfl) rfl ?_
  refine uO 16 (by kernel_rfl) rfl rfl rfl (Or.inr ⟨rfl, rfl⟩) rfl ?_
  refine vr 18 (by kernel_rfl) rfl rfl (yY (t := rwT) (xs := []) (ys := x1) rfl rfl rfl rfl (.lst _ _) (by simp; omega) rfl) (Or.inr ⟨rfl, rfl⟩) rfl ?_
  refine vr 20 (by kernel_rfl) rfl rfl (yY (t := rwT) (xs := [] ++ x1) (ys := x3) rfl rfl rfl rfl (.lst _ _) (by simp; omega) rfl) (Or.inr ⟨rfl, rfl⟩) rfl ?_
  refine vr 21 (by kernel_rfl) rfl rfl (zZ rfl e4 (.cons (.same rfl) (.cons (xA rfl) .nil)) rfl) (Or.inr ⟨rfl, rfl⟩) rfl ?_
  refine z0 22 (Or.inr ⟨rfl, rfl⟩) rfl rfl (by kernel_rfl) rfl (fun _ => rfl) rfl ?_
  refine z0 23 (Or.inr ⟨rfl, rfl⟩) rfl rfl (by kernel_rfl) rfl (fun _ => rfl) rfl ?_
  refine wg 24 ⟨rfl, rfl⟩ (by kernel_rfl) rfl (by kernel_rfl) rfl (fun _ hG => uB rfl rfl hG.1 rfl rfl rfl) rfl ?_
  refine wg 25 ⟨rfl, rfl⟩ (by kernel_rfl) rfl (by kernel_rfl) rfl (fun _ hG => uB rfl rfl hG.2 rfl rfl rfl) rfl ?_
  refine wg 27 ⟨rfl, rfl⟩ (by kernel_rfl) rfl (by kernel_rfl) rfl (fun _ hG => uB rfl rfl hG.1 rfl rfl rfl) rfl ?_
  refine wg 28 ⟨rfl, rfl⟩ (by kernel_rfl) rfl (by kernel_rfl) rfl (fun _ hG => uB rfl rfl hG.2 rfl rfl rfl) rfl ?_
  refine wh 26 (Or.inr ⟨rfl, rfl⟩) rfl rfl (by kernel_rfl) rfl (fun _ => zZ rfl (xh x y) (.cons (.same rfl) (.cons (.same rfl) .nil)) rfl) rfl ?_
  refine wh 29 (Or.inr ⟨rfl, rfl⟩) rfl rfl (by kernel_rfl) rfl (fun _ => zZ rfl (v6 x y) (.cons (.same rfl) (.cons (.same rfl) .nil)) rfl) rfl ?_
  refine z0 30 (v := B true) (Or.inr ⟨rfl, rfl⟩) rfl rfl (by kernel_rfl) rfl (fun H => congrArg (fun b => some (B b, H)) h147) rfl ?_
  refine z0 31 (Or.inr ⟨rfl, rfl⟩) rfl rfl (by kernel_rfl) rfl (fun _ => rfl) rfl ?_
  refine z0 32 (Or.inr ⟨rfl, rfl⟩) rfl rfl (by kernel_rfl) rfl (fun _ => rfl) rfl ?_
  refine wg 33 ⟨rfl, rfl⟩ (by kernel_rfl) rfl (by kernel_rfl) rfl (fun _ hG => uB rfl rfl hG.1 rfl rfl rfl) rfl ?_
  refine wg 34 ⟨rfl, rfl⟩ (by kernel_rfl) rfl (by kernel_rfl) rfl (fun _ hG => uB rfl rfl hG.2 rfl rfl rfl) rfl ?_
  refine wh 35 (Or.inr ⟨rfl, rfl⟩) rfl rfl (by kernel_rfl) rfl (fun _ => zZ rfl (xh x y) (.cons (.same rfl) (.cons (.same rfl) .nil)) rfl) rfl ?_
  refine wg 36 ⟨rfl, rfl⟩ (by kernel_rfl) rfl (by kernel_rfl) rfl (fun _ hG => uB rfl rfl hG.2 rfl rfl rfl) rfl ?_
  refine wg 37 ⟨rfl, rfl⟩ (by kernel_rfl) rfl (by kernel_rfl) rfl (fun _ hG => uB rfl rfl hG.1 rfl rfl rfl) rfl ?_
  refine wh 38 (Or.inr ⟨rfl, rfl⟩) rfl rfl (by kernel_rfl) rfl (fun _ => zZ rfl (xh y x) (.cons (.same rfl) (.cons (.same rfl) .nil)) rfl) rfl ?_
  refine z0 39 (Or.inr ⟨rfl, rfl⟩) rfl rfl (by kernel_rfl) rfl (fun _ => rfl) rfl ?_
  refine z0 40 (v := B true) (Or.inr ⟨rfl, rfl⟩) rfl rfl (by kernel_rfl) rfl (fun H => congrArg (fun b => some (B b, H)) h157) rfl ?_
  refine z0 41 (Or.inr ⟨rfl, rfl⟩) rfl rfl (by kernel_rfl) rfl (fun _ => rfl) rfl ?_
  refine z0 42 (Or.inr ⟨rfl, rfl⟩) rfl rfl (by kernel_rfl) rfl (fun _ => rfl) rfl ?_
  refine z0 43 (Or.inr ⟨rfl, rfl⟩) rfl rfl (by kernel_rfl) rfl (fun _ => rfl) rfl ?_
  refine z0 44 (Or.inr ⟨rfl, rfl⟩) rfl rfl (by kernel_rfl) rfl (fun _ => rfl) rfl ?_
  refine wh 45 (Or.inr ⟨rfl, rfl⟩) rfl rfl (by kernel_rfl) rfl (fun _ => zZ rfl q1 (.cons (.same rfl) (.cons (.same rfl) .nil)) rfl) rfl ?_
  refine z0 46 (Or.inr ⟨rfl, rfl⟩) rfl rfl (by kernel_rfl) rfl (fun _ => rfl) rfl ?_
  refine z0 47 (Or.inr ⟨rfl, rfl⟩) rfl rfl (by kernel_rfl) rfl (fun _ => rfl) rfl ?_
  refine wh 48 (Or.inr ⟨rfl, rfl⟩) rfl rfl (by kernel_rfl) rfl (fun _ => zZ rfl q2 (.cons (.same rfl) (.cons (.same rfl) .nil)) rfl) rfl ?_
  refine wh 49 (Or.inr ⟨rfl, rfl⟩) rfl rfl (by kernel_rfl) rfl (fun _ => sU rfl rfl rfl (by kernel_rfl)) rfl ?_
  refine z0 50 (Or.inr ⟨rfl, rfl⟩) rfl rfl (by kernel_rfl) rfl (fun _ => rfl) rfl ?_
  refine uO 51 (by kernel_rfl) rfl rfl rfl (Or.inl (by kernel_rfl)) rfl ?_
  refine u5 (by kernel_rfl) ?_
  repeat' first | refine zJ ?_ | refine zA ?_ | refine zO [] ?_ | (refine isA ?_; refine zb rfl ?_) | (refine isL ?_; refine zU rfl (by kernel_rfl) rfl rfl ?_) | (refine za rfl ?_; refine zT rfl (by kernel_rfl) rfl rfl ?_) | exact yX rfl rfl rfl | refine zD ?_ | refine zB _ rfl (by kernel_rfl) ?_ | refine zV rfl ?_ | refine zW rfl ?_ | refine zC ?_ | with_reducible refine zM ?_ | refine zH ?_ | refine zI ?_ | (with_reducible first | refine zK ?_ | refine zL ?_ | refine zE ?_ | refine zG ?_ | refine zF ?_) | refine zN ?_
end Go.Proofs.Ytkcicbigpbdjpaa.Ab.Pr
namespace Go.Proofs.Ytkcicbigpbdjpaa.Ab
open Go.RowKit
section
variable {A : Nat → Prop} {W : World}
theorem pR {a : Option Addr} {len cap : Nat} {e : V} (h2 : zi A W [] [e] (fun i => (Value.slice a len cap).cells.toList[i]?)) : Rel A W [] e (.slice a len cap) := by
  obtain ⟨y, h3, h4⟩ := yG h2 (i := 0) (c := e) rfl
  have : y = .slice a len cap := by simpa [Value.cells] using h3.symm
  subst this
  exact h4
end
section
variable {P : Program} {β : Type} {off tot : Nat} {f : Field} {fs : List Field} {eb : β → List V} {okb : β → Prop}
end
section
variable {A : Nat → Prop} {W : World}
end
end Go.Proofs.Ytkcicbigpbdjpaa.Ab
namespace Go.Proofs.Ytkcicbigpbdjpaa.Ab
open Go.RowKit
theorem o_u8 : qy Go.Proofs.Try.prog 22 (fun l : List Int => [yy u8T l]) (okL (okI .u8)) := tt Go.Proofs.Try.underlying22 (by kernel_rfl) (pM Go.Proofs.Try.underlying5)
end Go.Proofs.Ytkcicbigpbdjpaa.Ab
