/- What the row FnReferenceJoins leans on, part 3: a walk over abstract values, and contracts proved with it. -/
import Derived.WalkKit
import Derived.Laws.Rows
import Derived.RowKit
import Derived.OrdersHeld
import Derived.Deep.RegionHeld3
import Derived.Deep.Draws
import Derived.BigCall
import Derived.KernelRfl
import Derived.Deep.Slices
import Derived.ChangeArms
import Derived.ChangeShapes
import Derived.WideShapes
import Derived.Test.YtkcicbigpbdjpaaProg
import Derived.Laws.StructEq
import Derived.Lib.Overlaps
import Derived.Laws.BytesString
import Derived.Test.YtkcicbigpbdjpaaZp1
set_option linter.unusedVariables false
set_option linter.unusedSimpArgs false
set_option maxRecDepth 20000
set_option maxHeartbeats 8000000
namespace Go.Proofs.Ytkcicbigpbdjpaa.Ab.Pr
open Go.RowKit
def vk (k : Int) : Bool := Go.Proofs.Ytkcicbigpbdjpaa.Ab.inV k 1 4
theorem l6 (k : Int) : zn Go.Proofs.Try.prog 72 [I k] [] (B (vk k)) [] false := by
  refine zj [2] Go.Proofs.Try.func72 rfl rfl ?_
  simp only [Go.Proofs.Try.ntmps72, List.length_cons, List.length_nil, Nat.reduceAdd, Nat.reduceSub, List.replicate_succ, List.replicate_zero, List.cons_append, List.nil_append]
  repeat' first | refine zJ ?_ | refine zA ?_ | refine zO [] ?_ | (refine isA ?_; refine zb rfl ?_) | (refine isL ?_; refine zU rfl (by kernel_rfl) rfl rfl ?_) | (refine za rfl ?_; refine zT rfl (by kernel_rfl) rfl rfl ?_) | (refine zq 141 ?_; refine zd rfl (zZ rfl (vg k 1 4) (.cons (.same rfl) (.cons (.same rfl) (.cons (.same rfl) .nil))) rfl) rfl ?_) | (refine zr 141 rfl ?_; refine zY rfl (by kernel_rfl) rfl (zZ rfl (vg k 1 4) (.cons (.same rfl) (.cons (.same rfl) (.cons (.same rfl) .nil))) rfl) rfl ?_) | exact yX rfl rfl rfl | refine zD ?_ | refine zB _ rfl (by kernel_rfl) ?_ | refine zV rfl ?_ | refine zW rfl ?_ | refine zC ?_ | with_reducible refine zM ?_ | refine zH ?_ | refine zI ?_ | (with_reducible first | refine zK ?_ | refine zL ?_ | refine zE ?_ | refine zG ?_ | refine zF ?_) | refine zN ?_
theorem n8 (k : Int) : zn Go.Proofs.Try.prog 73 [I k] [] (B (vk k)) [] false := by
  refine zj [2] Go.Proofs.Try.func73 rfl rfl ?_
  simp only [Go.Proofs.Try.ntmps73, List.length_cons, List.length_nil, Nat.reduceAdd, Nat.reduceSub, List.replicate_succ, List.replicate_zero, List.cons_append, List.nil_append]
  repeat' first | refine zJ ?_ | refine zA ?_ | refine zO [] ?_ | (refine isA ?_; refine zb rfl ?_) | (refine isL ?_; refine zU rfl (by kernel_rfl) rfl rfl ?_) | (refine za rfl ?_; refine zT rfl (by kernel_rfl) rfl rfl ?_) | (refine zq 114 ?_; refine zd rfl (zZ rfl (ms k 1 4) (.cons (.same rfl) (.cons (.same rfl) (.cons (.same rfl) .nil))) rfl) rfl ?_) | (refine zr 114 rfl ?_; refine zY rfl (by kernel_rfl) rfl (zZ rfl (ms k 1 4) (.cons (.same rfl) (.cons (.same rfl) (.cons (.same rfl) .nil))) rfl) rfl ?_) | exact yX rfl rfl rfl | refine zD ?_ | refine zB _ rfl (by kernel_rfl) ?_ | refine zV rfl ?_ | refine zW rfl ?_ | refine zC ?_ | with_reducible refine zM ?_ | refine zH ?_ | refine zI ?_ | (with_reducible first | refine zK ?_ | refine zL ?_ | refine zE ?_ | refine zG ?_ | refine zF ?_) | refine zN ?_
theorem mZ {l : Go.Proofs.Ytkcicbigpbdjpaa.Ab.Rw} {b : List Go.Proofs.Ytkcicbigpbdjpaa.Ab.Rw} (h : yB l b = 0) : xS l b = [] := List.eq_nil_of_length_eq_zero (by rw [wO]; exact h)
theorem one2 (b : List Go.Proofs.Ytkcicbigpbdjpaa.Ab.Rw) (l : Go.Proofs.Ytkcicbigpbdjpaa.Ab.Rw) : x5 2 b l = cond (decide ((0 : Int) < yB l b)) [yu l] [] := by
  have e1 : c6 2 (yB l b) = false := by simp [c6]
  have e2 : c13 2 (yB l b) = decide ((0 : Int) < yB l b) := by simp [c13]
  rw [x5, e1, e2]; rfl
theorem kJ (b : List Go.Proofs.Ytkcicbigpbdjpaa.Ab.Rw) (l : Go.Proofs.Ytkcicbigpbdjpaa.Ab.Rw) : x5 3 b l = cond (decide ((yB l b : Int) = 0)) [yu l] [] := by
  have e1 : c6 3 (yB l b) = false := by simp [c6]
  have e2 : c13 3 (yB l b) = decide ((yB l b : Int) = 0) := by simp [c13]
  rw [x5, e1, e2]; rfl
theorem ln {k : Int} (hk : k = 1 ∨ k = 4) (b : List Go.Proofs.Ytkcicbigpbdjpaa.Ab.Rw) (l : Go.Proofs.Ytkcicbigpbdjpaa.Ab.Rw) : x5 k b l = xS l b ++ cond (decide ((yB l b : Int) = 0) && decide (k = 4)) [yu l] [] := by
  have e2 : c13 k (yB l b) = (decide ((yB l b : Int) = 0) && decide (k = 4)) := by
    rcases hk with rfl | rfl <;> simp [c13]
  rw [x5, e2]
  congr 1
  rcases Nat.eq_zero_or_pos (yB l b) with h | h
  · rw [mZ h]; cases c6 k (yB l b) <;> rfl
  · have : c6 k (yB l b) = true := by rcases hk with rfl | rfl <;> simp [c6, h]
    rw [this]; rfl
abbrev bxQ (l : Go.Proofs.Ytkcicbigpbdjpaa.Ab.Rw) : Reg := ⟨71, 3, Go.Proofs.Ytkcicbigpbdjpaa.Ab.rwE l, 0⟩
theorem kW (k : Int) (l : Go.Proofs.Ytkcicbigpbdjpaa.Ab.Rw) (b : List Go.Proofs.Ytkcicbigpbdjpaa.Ab.Rw) (hk : vk k = true) (h2 : b.length ≤ 1000) : zn Go.Proofs.Try.prog 138 [I k, .agg (Go.Proofs.Ytkcicbigpbdjpaa.Ab.rwE l), Go.Proofs.Ytkcicbigpbdjpaa.Ab.rwL b] [] (.sl 0 0 (x5 k b l).length) [rwR (x5 k b l)] false := by
  have hkk : 1 ≤ k ∧ k ≤ 4 := by simpa [vk, inV] using hk
  have ci := mA l b (by omega)
  have hn := wl l b
  by_cases k2 : k = 2
  · subst k2
    rw [one2]
    refine zj [6] Go.Proofs.Try.func138 rfl rfl ?_
    simp only [Go.Proofs.Try.ntmps138, List.length_cons, List.length_nil, Nat.reduceAdd, Nat.reduceSub, List.replicate_succ, List.replicate_zero, List.cons_append, List.nil_append]
    repeat' first | refine zJ ?_ | refine zA ?_ | refine zO [] ?_ | (refine isA ?_; refine zb rfl ?_) | (refine isL ?_; refine zU rfl (by kernel_rfl) rfl rfl ?_) | (refine za rfl ?_; refine zT rfl (by kernel_rfl) rfl rfl ?_) | (refine zq 161 ?_; refine zd rfl (zZ rfl ci (.cons (.same rfl) (.cons (.same rfl) .nil)) rfl) rfl ?_) | (refine zr 161 rfl ?_; refine zY rfl (by kernel_rfl) rfl (zZ rfl ci (.cons (.same rfl) (.cons (.same rfl) .nil)) rfl) rfl ?_) | refine zD ?_ | refine zB _ rfl (by kernel_rfl) ?_ | refine zV rfl ?_ | refine zW rfl ?_ | refine zC ?_ | with_reducible refine zM ?_ | refine zH ?_ | refine zI ?_ | (with_reducible first | refine zK ?_ | refine zL ?_ | refine zE ?_ | refine zG ?_ | refine zF ?_) | refine zN ?_
    refine zf rfl (fun h => ?_) (fun h => ?_)
    · rw [h]
      repeat' first | refine zJ ?_ | refine zA ?_ | refine zO [] ?_ | (refine isA ?_; refine zb rfl ?_) | (refine isL ?_; refine zU rfl (by kernel_rfl) rfl rfl ?_) | (refine za rfl ?_; refine zT rfl (by kernel_rfl) rfl rfl ?_) | (refine x6 ?_; refine zd rfl (yY (t := rwT) (xs := []) (ys := [yu l]) rfl rfl rfl rfl (xJ rfl rfl rfl rfl) (by simp) rfl) rfl ?_) | (refine xv rfl ?_; refine zY rfl (by kernel_rfl) rfl (yY (t := rwT) (xs := []) (ys := [yu l]) rfl rfl rfl rfl (xJ rfl rfl rfl rfl) (by simp) rfl) rfl ?_) | exact uM (ty := rwT) rfl rfl rfl rfl rfl rfl (y4 _) | refine zD ?_ | refine zB _ rfl (by kernel_rfl) ?_ | refine zV rfl ?_ | refine zW rfl ?_ | refine zC ?_ | with_reducible refine zM ?_ | refine zH ?_ | refine zI ?_ | (with_reducible first | refine zK ?_ | refine zL ?_ | refine zE ?_ | refine zG ?_ | refine zF ?_) | refine zN ?_
    · rw [h]
      repeat' first | refine zJ ?_ | refine zA ?_ | refine zO [] ?_ | (refine isA ?_; refine zb rfl ?_) | (refine isL ?_; refine zU rfl (by kernel_rfl) rfl rfl ?_) | (refine za rfl ?_; refine zT rfl (by kernel_rfl) rfl rfl ?_) | exact uM (ty := rwT) rfl rfl rfl rfl rfl rfl (y4 _) | refine zD ?_ | refine zB _ rfl (by kernel_rfl) ?_ | refine zV rfl ?_ | refine zW rfl ?_ | refine zC ?_ | with_reducible refine zM ?_ | refine zH ?_ | refine zI ?_ | (with_reducible first | refine zK ?_ | refine zL ?_ | refine zE ?_ | refine zG ?_ | refine zF ?_) | refine zN ?_
  by_cases k3 : k = 3
  · subst k3
    rw [kJ]
    refine zj [6] Go.Proofs.Try.func138 rfl rfl ?_
    simp only [Go.Proofs.Try.ntmps138, List.length_cons, List.length_nil, Nat.reduceAdd, Nat.reduceSub, List.replicate_succ, List.replicate_zero, List.cons_append, List.nil_append]
    repeat' first | refine zJ ?_ | refine zA ?_ | refine zO [] ?_ | (refine isA ?_; refine zb rfl ?_) | (refine isL ?_; refine zU rfl (by kernel_rfl) rfl rfl ?_) | (refine za rfl ?_; refine zT rfl (by kernel_rfl) rfl rfl ?_) | (refine zq 161 ?_; refine zd rfl (zZ rfl ci (.cons (.same rfl) (.cons (.same rfl) .nil)) rfl) rfl ?_) | (refine zr 161 rfl ?_; refine zY rfl (by kernel_rfl) rfl (zZ rfl ci (.cons (.same rfl) (.cons (.same rfl) .nil)) rfl) rfl ?_) | refine zD ?_ | refine zB _ rfl (by kernel_rfl) ?_ | refine zV rfl ?_ | refine zW rfl ?_ | refine zC ?_ | with_reducible refine zM ?_ | refine zH ?_ | refine zI ?_ | (with_reducible first | refine zK ?_ | refine zL ?_ | refine zE ?_ | refine zG ?_ | refine zF ?_) | refine zN ?_
    refine zf rfl (fun h => ?_) (fun h => ?_)
    · rw [h]
      repeat' first | refine zJ ?_ | refine zA ?_ | refine zO [] ?_ | (refine isA ?_; refine zb rfl ?_) | (refine isL ?_; refine zU rfl (by kernel_rfl) rfl rfl ?_) | (refine za rfl ?_; refine zT rfl (by kernel_rfl) rfl rfl ?_) | (refine x6 ?_; refine zd rfl (yY (t := rwT) (xs := []) (ys := [yu l]) rfl rfl rfl rfl (xJ rfl rfl rfl rfl) (by simp) rfl) rfl ?_) | (refine xv rfl ?_; refine zY rfl (by kernel_rfl) rfl (yY (t := rwT) (xs := []) (ys := [yu l]) rfl rfl rfl rfl (xJ rfl rfl rfl rfl) (by simp) rfl) rfl ?_) | exact uM (ty := rwT) rfl rfl rfl rfl rfl rfl (y4 _) | refine zD ?_ | refine zB _ rfl (by kernel_rfl) ?_ | refine zV rfl ?_ | refine zW rfl ?_ | refine zC ?_ | with_reducible refine zM ?_ | refine zH ?_ | refine zI ?_ | (with_reducible first | refine zK ?_ | refine zL ?_ | refine zE ?_ | refine zG ?_ | refine zF ?_) | refine zN ?_
    · rw [h]
      repeat' first | refine zJ ?_ | refine zA ?_ | refine zO [] ?_ | (refine isA ?_; refine zb rfl ?_) | (refine isL ?_; refine zU rfl (by kernel_rfl) rfl rfl ?_) | (refine za rfl ?_; refine zT rfl (by kernel_rfl) rfl rfl ?_) | exact uM (ty := rwT) rfl rfl rfl rfl rfl rfl (y4 _) | refine zD ?_ | refine zB _ rfl (by kernel_rfl) ?_ | refine zV rfl ?_ | refine zW rfl ?_ | refine zC ?_ | with_reducible refine zM ?_ | refine zH ?_ | refine zI ?_ | (with_reducible first | refine zK ?_ | refine zL ?_ | refine zE ?_ | refine zG ?_ | refine zF ?_) | refine zN ?_
  have k14 : k = 1 ∨ k = 4 := by omega
  rw [ln k14]
  refine zj [6] Go.Proofs.Try.func138 rfl rfl ?_
  simp only [Go.Proofs.Try.ntmps138, List.length_cons, List.length_nil, Nat.reduceAdd, Nat.reduceSub, List.replicate_succ, List.replicate_zero, List.cons_append, List.nil_append]
  repeat' first | (refine zf rfl (fun h => absurd (of_decide_eq_true h) k2) (fun _ => ?_)) | (refine zf rfl (fun h => absurd (of_decide_eq_true h) k3) (fun _ => ?_)) | refine zJ ?_ | refine zA ?_ | refine zO [] ?_ | (refine isA ?_; refine zb rfl ?_) | (refine isL ?_; refine zU rfl (by kernel_rfl) rfl rfl ?_) | (refine za rfl ?_; refine zT rfl (by kernel_rfl) rfl rfl ?_) | (refine zq 161 ?_; refine zd rfl (zZ rfl ci (.cons (.same rfl) (.cons (.same rfl) .nil)) rfl) rfl ?_) | (refine zr 161 rfl ?_; refine zY rfl (by kernel_rfl) rfl (zZ rfl ci (.cons (.same rfl) (.cons (.same rfl) .nil)) rfl) rfl ?_) | refine zD ?_ | refine zB _ rfl (by kernel_rfl) ?_ | refine zV rfl ?_ | refine zW rfl ?_ | refine zC ?_ | with_reducible refine zM ?_ | refine zH ?_ | refine zI ?_ | (with_reducible first | refine zK ?_ | refine zL ?_ | refine zE ?_ | refine zG ?_ | refine zF ?_) | refine zN ?_
  refine zy (α := { p : Nat × List Rw // p.1 ≤ b.length ∧ p.2 = xS l (b.take p.1) }) (fun p => ⟨((I k) :: .any :: (Go.Proofs.Ytkcicbigpbdjpaa.Ab.rwL b) :: .any :: (.ptr 0 0) :: .any :: .any :: (.sl 1 0 p.1.2.length) :: (I (yB l b)) :: (I p.1.1) :: .any :: .any :: .any :: .any :: .any :: .any :: .any :: .any :: .any :: .any :: .any :: .any :: .any :: .any :: .any :: .any :: .any :: .any :: .any :: .any :: .any :: .any :: .any :: .any :: .any :: .any :: .any :: .any :: .any :: .any :: .any :: .any :: .any :: .any :: .any :: .any :: .any :: .any :: .any :: .any :: .any :: .any :: .any :: .any :: .any :: .any :: .any :: .any :: .any :: .any :: .any :: .any :: .any :: .any :: .any :: .any :: .any :: .any :: .any :: .any :: []), [bxQ l, rwR p.1.2], 0⟩) (fun p => b.length - p.1.1) ⟨(0, []), Nat.zero_le _, by simp [xS]⟩ ?_ ?_
  · exact yq [0, 1] rfl rfl (by decide) (.cons rfl rfl rfl rfl (zx rfl) (.cons rfl rfl rfl rfl (zg (zR _ _)) .nil)) (by repeat' first | exact zh | refine zc ?_ ?_ | exact zl | exact le_refl rfl | exact zz rfl | exact zm rfl rfl | exact zm rfl (by simp) | exact xP (by omega) (by omega))
  · rintro ⟨⟨j, u⟩, hj, hu⟩
    simp only at hj hu
    have hul : u.length ≤ 1000 := by
      rw [hu]
      have := wO l (b.take j)
      have := wl l (b.take j)
      simp only [List.length_take] at *; omega
    repeat' first | refine zJ ?_ | refine zA ?_ | refine zO [] ?_ | (refine isA ?_; refine zb rfl ?_) | (refine isL ?_; refine zU rfl (by kernel_rfl) rfl rfl ?_) | (refine za rfl ?_; refine zT rfl (by kernel_rfl) rfl rfl ?_) | refine zD ?_ | refine zB _ rfl (by kernel_rfl) ?_ | refine zV rfl ?_ | refine zW rfl ?_ | refine zC ?_ | with_reducible refine zM ?_ | refine zH ?_ | refine zI ?_ | (with_reducible first | refine zK ?_ | refine zL ?_ | refine zE ?_ | refine zG ?_ | refine zF ?_) | refine zN ?_
    refine zf rfl (fun h => ?_) (fun h => ?_)
    · have hjt : j < b.length := by simpa using h
      obtain ⟨z, hz⟩ : ∃ z, b[j]? = some z := ⟨_, List.getElem?_eq_getElem hjt⟩
      have hm := tw (l := l) hz
      repeat' first | refine zJ ?_ | refine zA ?_ | refine zO [] ?_ | (refine isA ?_; refine zb rfl ?_) | (refine isL ?_; refine zU rfl (by kernel_rfl) rfl rfl ?_) | (refine za rfl ?_; refine zT rfl (by kernel_rfl) rfl rfl ?_) | (refine yn (x := .tmp 41) ?_; refine zd rfl (yT (t := Go.Proofs.Ytkcicbigpbdjpaa.Ab.rwT) (z := z) rfl rfl rfl rfl (Int.natCast_nonneg j) hz) rfl ?_) | (refine ym (x := .tmp 41) rfl ?_; refine zY rfl (by kernel_rfl) rfl (yT (t := Go.Proofs.Ytkcicbigpbdjpaa.Ab.rwT) (z := z) rfl rfl rfl rfl (Int.natCast_nonneg j) hz) rfl ?_) | refine zD ?_ | refine zB _ rfl (by kernel_rfl) ?_ | refine zV rfl ?_ | refine zW rfl ?_ | refine zC ?_ | with_reducible refine zM ?_ | refine zH ?_ | refine zI ?_ | (with_reducible first | refine zK ?_ | refine zL ?_ | refine zE ?_ | refine zG ?_ | refine zF ?_) | refine zN ?_
      refine zf rfl (fun h1 => ?_) (fun h1 => ?_)
      · have e : hit l z = true := h1
        rw [e] at hm
        repeat' first | (refine lq rfl ?_; refine zY rfl (by kernel_rfl) rfl (xO rfl rfl rfl rfl rfl) rfl ?_) | (refine xv rfl ?_; refine lex_W rfl (by kernel_rfl) rfl (yY (t := rwT) (xs := u) (ys := [⟨l, z, true⟩]) rfl rfl rfl rfl (.lst _ _) (by simp; omega) rfl) rfl ?_) | refine zJ ?_ | refine zA ?_ | refine zO [8] ?_ | (refine isA ?_; refine zb rfl ?_) | (refine isL ?_; refine zU rfl (by kernel_rfl) rfl rfl ?_) | (refine za rfl ?_; refine zT rfl (by kernel_rfl) rfl rfl ?_) | (refine yn (x := .tmp 51) ?_; refine zd rfl (yT (t := Go.Proofs.Ytkcicbigpbdjpaa.Ab.rwT) (z := z) rfl rfl rfl rfl (Int.natCast_nonneg j) hz) rfl ?_) | (refine ym (x := .tmp 51) rfl ?_; refine zY rfl (by kernel_rfl) rfl (yT (t := Go.Proofs.Ytkcicbigpbdjpaa.Ab.rwT) (z := z) rfl rfl rfl rfl (Int.natCast_nonneg j) hz) rfl ?_) | (refine isL ?_; refine kM rfl (by kernel_rfl) rfl rfl ?_) | refine zD ?_ | refine zB _ rfl (by kernel_rfl) ?_ | refine zV rfl ?_ | refine zW rfl ?_ | refine zC ?_ | with_reducible refine zM ?_ | refine zH ?_ | refine zI ?_ | (with_reducible first | refine zK ?_ | refine zL ?_ | refine zE ?_ | refine zG ?_ | refine zF ?_) | refine zN ?_
        refine ⟨⟨(j + 1, u ++ [⟨l, z, true⟩]), hjt, by rw [hm, hu]; simp⟩, by simp only; omega, ?_⟩
        exact yq [0, 2] rfl rfl (by decide) (.cons rfl rfl rfl rfl (zx rfl) (.cons rfl rfl rfl rfl (zg (zR _ _)) .nil)) (by repeat' first | exact zh | refine zc ?_ ?_ | exact zl | exact le_refl rfl | exact zz rfl | exact zm rfl rfl | exact zm rfl (by simp) | exact xP (by omega) (by omega))
      · have e : hit l z = false := h1
        rw [e] at hm
        repeat' first | refine zJ ?_ | refine zA ?_ | refine zO [] ?_ | (refine isA ?_; refine zb rfl ?_) | (refine isL ?_; refine zU rfl (by kernel_rfl) rfl rfl ?_) | (refine za rfl ?_; refine zT rfl (by kernel_rfl) rfl rfl ?_) | refine zD ?_ | refine zB _ rfl (by kernel_rfl) ?_ | refine zV rfl ?_ | refine zW rfl ?_ | refine zC ?_ | with_reducible refine zM ?_ | refine zH ?_ | refine zI ?_ | (with_reducible first | refine zK ?_ | refine zL ?_ | refine zE ?_ | refine zG ?_ | refine zF ?_) | refine zN ?_
        refine ⟨⟨(j + 1, u), hjt, by rw [hm, hu]; simp⟩, by simp only; omega, ?_⟩
        exact yq [0, 1] rfl rfl (by decide) (.cons rfl rfl rfl rfl (zx rfl) (.cons rfl rfl rfl rfl (zg (zR _ _)) .nil)) (by repeat' first | exact zh | refine zc ?_ ?_ | exact zl | exact le_refl rfl | exact zz rfl | exact zm rfl rfl | exact zm rfl (by simp) | exact xP (by omega) (by omega))
    · have hge : j = b.length := by
        have : ¬ ((j : Int) < b.length) := by simpa using h
        omega
      subst hge
      rw [List.take_length] at hu
      subst hu
      repeat' first | (refine zf rfl (fun h9 => ?_) (fun h9 => ?_)) | refine zJ ?_ | refine zA ?_ | refine zO [] ?_ | (refine isA ?_; refine zb rfl ?_) | (refine isL ?_; refine zU rfl (by kernel_rfl) rfl rfl ?_) | (refine za rfl ?_; refine zT rfl (by kernel_rfl) rfl rfl ?_) | (refine x6 ?_; refine zd rfl (yY (t := rwT) (xs := xS l b) (ys := [yu l]) rfl rfl rfl rfl (xJ rfl rfl rfl rfl) (by simp; omega) rfl) rfl ?_) | (refine xv rfl ?_; refine zY rfl (by kernel_rfl) rfl (yY (t := rwT) (xs := xS l b) (ys := [yu l]) rfl rfl rfl rfl (xJ rfl rfl rfl rfl) (by simp; omega) rfl) rfl ?_) | refine zD ?_ | refine zB _ rfl (by kernel_rfl) ?_ | refine zV rfl ?_ | refine zW rfl ?_ | refine zC ?_ | with_reducible refine zM ?_ | refine zH ?_ | refine zI ?_ | (with_reducible first | refine zK ?_ | refine zL ?_ | refine zE ?_ | refine zG ?_ | refine zF ?_) | refine zN ?_ | (refine vY ?_; refine xi rfl rfl (fun hbr => ?_) (fun hbr => ?_) <;> (fail_if_success (with_reducible (have hx : true = true := hbr))) <;> (fail_if_success (with_reducible (have hx : false = false := hbr)))) | (refine za rfl ?_; refine yz rfl rfl rfl rfl (fun hbr => ?_) (fun hbr => ?_) <;> (fail_if_success (with_reducible (have hx : true = true := hbr))) <;> (fail_if_success (with_reducible (have hx : false = false := hbr))))
      · rw [show xS l b ++ cond (decide ((yB l b : Int) = 0) && decide (k = 4)) [yu l] [] = xS l b ++ [yu l] from by rw [hbr, h9]; rfl]
        exact uM (ty := rwT) rfl rfl rfl rfl rfl rfl (y4 _)
      · rw [show xS l b ++ cond (decide ((yB l b : Int) = 0) && decide (k = 4)) [yu l] [] = xS l b from by rw [hbr, h9]; simp]
        exact uM (ty := rwT) rfl rfl rfl rfl rfl rfl (y4 _)
      · cases h9
      · rw [show xS l b ++ cond (decide ((yB l b : Int) = 0) && decide (k = 4)) [yu l] [] = xS l b from by rw [hbr]; simp]
        exact uM (ty := rwT) rfl rfl rfl rfl rfl rfl (y4 _)
theorem pO {k : Int} (h : vk k = false) (a b : List Go.Proofs.Ytkcicbigpbdjpaa.Ab.Rw) : yE k a b = [] := by
  have hk : ¬ (1 ≤ k ∧ k ≤ 4) := by
    intro h1
    have : vk k = true := by simp [vk, inV, h1.1, h1.2]
    rw [h] at this; cases this
  have e : ∀ l n, cond (c6 k n) (xS l b) [] = [] ∧ cond (c13 k n) [yu l] [] = [] := fun l n => by
    have e1 : c6 k n = false := by simp [c6]; omega
    have e2 : c13 k n = false := by simp [c13]; omega
    rw [e1, e2]; exact ⟨rfl, rfl⟩
  rw [yE, List.flatMap_eq_nil_iff]
  intro l _
  rw [x5, (e l _).1, (e l _).2]; rfl
theorem qj (k : Int) (a b : List Go.Proofs.Ytkcicbigpbdjpaa.Ab.Rw) (h1 : a.length ≤ 1000) (h2 : b.length ≤ 1000) : zn Go.Proofs.Try.prog 69 [I k, Go.Proofs.Ytkcicbigpbdjpaa.Ab.rwL a, Go.Proofs.Ytkcicbigpbdjpaa.Ab.rwL b] [] (.sl 0 0 (yE k a b).length) [rwR (yE k a b)] false := by
  have ck := n8 k
  cases hk : vk k with
  | false =>
    rw [pO hk]
    rw [hk] at ck
    refine zj [6] Go.Proofs.Try.func69 rfl rfl ?_
    simp only [Go.Proofs.Try.ntmps69, List.length_cons, List.length_nil, Nat.reduceAdd, Nat.reduceSub, List.replicate_succ, List.replicate_zero, List.cons_append, List.nil_append]
    repeat' first | refine zJ ?_ | refine zA ?_ | refine zO [] ?_ | (refine isA ?_; refine zb rfl ?_) | (refine isL ?_; refine zU rfl (by kernel_rfl) rfl rfl ?_) | (refine za rfl ?_; refine zT rfl (by kernel_rfl) rfl rfl ?_) | refine zD ?_ | refine zB _ rfl (by kernel_rfl) ?_ | refine zV rfl ?_ | refine zW rfl ?_ | refine zC ?_ | with_reducible refine zM ?_ | refine zH ?_ | refine zI ?_ | (with_reducible first | refine zK ?_ | refine zL ?_ | refine zE ?_ | refine zG ?_ | refine zF ?_) | refine zN ?_
    refine zy (α := Unit) (fun _ => ⟨[I k, Go.Proofs.Ytkcicbigpbdjpaa.Ab.rwL a, Go.Proofs.Ytkcicbigpbdjpaa.Ab.rwL b, .any, .any, .any, .any, .sl 0 0 0, I 0, .any, .any, .any, .any, .any, .any, .any, .any, .any, .any, .any, .any, .any, .any, .any, .any, .any, .any, .any, .any, .any], [rwR []], 0⟩) (fun _ => 0) () ?_ ?_
    · exact yq [0] rfl rfl (by decide) (.cons rfl rfl rfl rfl (zg (zR _ _)) .nil) (by repeat' first | exact zh | refine zc ?_ ?_ | exact zl | exact le_refl rfl | exact zm rfl rfl | exact zz rfl)
    · rintro ⟨⟩
      repeat' first | refine zJ ?_ | refine zA ?_ | refine zO [] ?_ | (refine isA ?_; refine zb rfl ?_) | (refine isL ?_; refine zU rfl (by kernel_rfl) rfl rfl ?_) | (refine za rfl ?_; refine zT rfl (by kernel_rfl) rfl rfl ?_) | (refine zq 73 ?_; refine zd rfl (zZ rfl ck (.cons (.same rfl) .nil) rfl) rfl ?_) | (refine zr 73 rfl ?_; refine zY rfl (by kernel_rfl) rfl (zZ rfl ck (.cons (.same rfl) .nil) rfl) rfl ?_) | exact uM (ty := rwT) rfl rfl rfl rfl rfl rfl (y4 _) | refine zD ?_ | refine zB _ rfl (by kernel_rfl) ?_ | refine zV rfl ?_ | refine zW rfl ?_ | refine zC ?_ | with_reducible refine zM ?_ | refine zH ?_ | refine zI ?_ | (with_reducible first | refine zK ?_ | refine zL ?_ | refine zE ?_ | refine zG ?_ | refine zF ?_) | refine zN ?_ | (refine vY ?_; refine xi rfl rfl (fun hbr => ?_) (fun hbr => ?_) <;> (fail_if_success (with_reducible (have hx : true = true := hbr))) <;> (fail_if_success (with_reducible (have hx : false = false := hbr)))) | (refine za rfl ?_; refine yz rfl rfl rfl rfl (fun hbr => ?_) (fun hbr => ?_) <;> (fail_if_success (with_reducible (have hx : true = true := hbr))) <;> (fail_if_success (with_reducible (have hx : false = false := hbr))))
  | true =>
    rw [hk] at ck
    refine zj [6] Go.Proofs.Try.func69 rfl rfl ?_
    simp only [Go.Proofs.Try.ntmps69, List.length_cons, List.length_nil, Nat.reduceAdd, Nat.reduceSub, List.replicate_succ, List.replicate_zero, List.cons_append, List.nil_append]
    repeat' first | refine zJ ?_ | refine zA ?_ | refine zO [] ?_ | (refine isA ?_; refine zb rfl ?_) | (refine isL ?_; refine zU rfl (by kernel_rfl) rfl rfl ?_) | (refine za rfl ?_; refine zT rfl (by kernel_rfl) rfl rfl ?_) | refine zD ?_ | refine zB _ rfl (by kernel_rfl) ?_ | refine zV rfl ?_ | refine zW rfl ?_ | refine zC ?_ | with_reducible refine zM ?_ | refine zH ?_ | refine zI ?_ | (with_reducible first | refine zK ?_ | refine zL ?_ | refine zE ?_ | refine zG ?_ | refine zF ?_) | refine zN ?_
    refine zy (α := { p : Nat × List Rw // p.1 ≤ a.length ∧ p.2 = yE k (a.take p.1) b }) (fun p => ⟨[I k, Go.Proofs.Ytkcicbigpbdjpaa.Ab.rwL a, Go.Proofs.Ytkcicbigpbdjpaa.Ab.rwL b, .any, .any, .any, .any, .sl 0 0 p.1.2.length, I p.1.1, .any, .any, .any, .any, .any, .any, .any, .any, .any, .any, .any, .any, .any, .any, .any, .any, .any, .any, .any, .any, .any], [rwR p.1.2], 0⟩) (fun p => a.length - p.1.1) ⟨(0, []), Nat.zero_le _, rfl⟩ ?_ ?_
    · exact yq [0] rfl rfl (by decide) (.cons rfl rfl rfl rfl (zg (zR _ _)) .nil) (by repeat' first | exact zh | refine zc ?_ ?_ | exact zl | exact le_refl rfl | exact zm rfl rfl | exact zz rfl)
    · rintro ⟨⟨i, out⟩, hi, ho⟩
      simp only at hi ho
      repeat' first | refine zJ ?_ | refine zA ?_ | refine zO [] ?_ | (refine isA ?_; refine zb rfl ?_) | (refine isL ?_; refine zU rfl (by kernel_rfl) rfl rfl ?_) | (refine za rfl ?_; refine zT rfl (by kernel_rfl) rfl rfl ?_) | refine zD ?_ | refine zB _ rfl (by kernel_rfl) ?_ | refine zV rfl ?_ | refine zW rfl ?_ | refine zC ?_ | with_reducible refine zM ?_ | refine zH ?_ | refine zI ?_ | (with_reducible first | refine zK ?_ | refine zL ?_ | refine zE ?_ | refine zG ?_ | refine zF ?_) | refine zN ?_
      refine xi rfl rfl (fun h => ?_) (fun h => ?_)
      · have hlt : i < a.length := by simpa using h
        obtain ⟨l, hl⟩ : ∃ z, a[i]? = some z := ⟨_, List.getElem?_eq_getElem hlt⟩
        have hs := vw (k := k) (b := b) hl
        have hjl : out.length ≤ 1002000 := by
          rw [ho]
          have := wG k b (a.take i)
          have h3 : (a.take i).length ≤ 1000 := by simp; omega
          have h4 : (a.take i).length * (b.length + 1) ≤ 1000 * 1001 := Nat.mul_le_mul h3 (by omega)
          omega
        have hol := tP k b l
        have co := kW k l b hk h2
        rw [← ho] at hs
        generalize x5 k b l = u at hs hol co
        repeat' first | refine zJ ?_ | refine zA ?_ | refine zO [7, 8] ?_ | (refine isA ?_; refine zb rfl ?_) | (refine isL ?_; refine zU rfl (by kernel_rfl) rfl rfl ?_) | (refine za rfl ?_; refine zT rfl (by kernel_rfl) rfl rfl ?_) | (refine zq 73 ?_; refine zd rfl (zZ rfl ck (.cons (.same rfl) .nil) rfl) rfl ?_) | (refine zr 73 rfl ?_; refine zY rfl (by kernel_rfl) rfl (zZ rfl ck (.cons (.same rfl) .nil) rfl) rfl ?_) | (refine yn (x := .tmp 22) ?_; refine zd rfl (yT (t := Go.Proofs.Ytkcicbigpbdjpaa.Ab.rwT) (z := l) rfl rfl rfl rfl (Int.natCast_nonneg i) hl) rfl ?_) | (refine ym (x := .tmp 22) rfl ?_; refine zY rfl (by kernel_rfl) rfl (yT (t := Go.Proofs.Ytkcicbigpbdjpaa.Ab.rwT) (z := l) rfl rfl rfl rfl (Int.natCast_nonneg i) hl) rfl ?_) | (refine zq 138 ?_; refine zd rfl (yA rfl co (.cons (.same rfl) (.cons (.same rfl) (.cons (.same rfl) .nil))) (fun q hq => by simp at hq; subst hq; exact zR _ _) rfl rfl) rfl ?_) | (refine zr 138 rfl ?_; refine zY rfl (by kernel_rfl) rfl (yA rfl co (.cons (.same rfl) (.cons (.same rfl) (.cons (.same rfl) .nil))) (fun q hq => by simp at hq; subst hq; exact zR _ _) rfl rfl) rfl ?_) | (refine x6 ?_; refine zd rfl (yY (t := rwT) (xs := out) (ys := u) rfl rfl rfl rfl (xK rfl) (by omega) rfl) rfl ?_) | (refine xv rfl ?_; refine zY rfl (by kernel_rfl) rfl (yY (t := rwT) (xs := out) (ys := u) rfl rfl rfl rfl (xK rfl) (by omega) rfl) rfl ?_) | refine zD ?_ | refine zB _ rfl (by kernel_rfl) ?_ | refine zV rfl ?_ | refine zW rfl ?_ | refine zC ?_ | with_reducible refine zM ?_ | refine zH ?_ | refine zI ?_ | (with_reducible first | refine zK ?_ | refine zL ?_ | refine zE ?_ | refine zG ?_ | refine zF ?_) | refine zN ?_
        refine ⟨⟨(i + 1, out ++ u), hlt, hs.symm⟩, by simp only; omega, ?_⟩
        exact yq [2] rfl rfl (by decide) (.cons rfl rfl rfl rfl (zg (zR _ _)) .nil) (by repeat' first | exact zh | refine zc ?_ ?_ | exact zl | exact le_refl rfl | exact zz rfl | exact zm rfl rfl | exact zm rfl (by simp) | exact xP (by omega) (by omega))
      · have hge : i = a.length := by
          have : ¬ ((i : Int) < a.length) := by simpa using h
          omega
        subst hge
        rw [List.take_length] at ho
        subst ho
        repeat' first | refine zJ ?_ | refine zA ?_ | refine zO [] ?_ | (refine isA ?_; refine zb rfl ?_) | (refine isL ?_; refine zU rfl (by kernel_rfl) rfl rfl ?_) | (refine za rfl ?_; refine zT rfl (by kernel_rfl) rfl rfl ?_) | exact uM (ty := rwT) rfl rfl rfl rfl rfl rfl (y4 _) | refine zD ?_ | refine zB _ rfl (by kernel_rfl) ?_ | refine zV rfl ?_ | refine zW rfl ?_ | refine zC ?_ | with_reducible refine zM ?_ | refine zH ?_ | refine zI ?_ | (with_reducible first | refine zK ?_ | refine zL ?_ | refine zE ?_ | refine zG ?_ | refine zF ?_) | refine zN ?_
end Go.Proofs.Ytkcicbigpbdjpaa.Ab.Pr
namespace Go.Proofs.Ytkcicbigpbdjpaa.Ab.Pr
open Go.RowKit
def ub (xs : List Rw) (a b : Nat) : List Rw := xs.take a ++ (zt ((xs.drop a).take (b - a)) ++ xs.drop b)
theorem py {xs : List Rw} {a : Nat} (h : a < xs.length) : ub xs a (a + 1) = xs := by
  obtain ⟨x, hx⟩ : ∃ z, xs[a]? = some z := ⟨_, List.getElem?_eq_getElem h⟩
  have e : xs.drop a = x :: xs.drop (a + 1) := yR hx
  rw [ub, e, show a + 1 - a = 1 by omega]
  show xs.take a ++ ([x] ++ xs.drop (a + 1)) = xs
  rw [List.singleton_append, ← e, List.take_append_drop]
theorem pI {xs : List Rw} {a i : Nat} {x : Rw} (h : a ≤ i) (hx : xs[i]? = some x) : zt ((xs.drop a).take (i + 1 - a)) = xX x (zt ((xs.drop a).take (i - a))) := by
  have : (xs.drop a)[i - a]? = some x := by rw [List.getElem?_drop, show a + (i - a) = i by omega]; exact hx
  rw [show i + 1 - a = (i - a) + 1 by omega, List.take_add_one, this]
  exact wr _ _
theorem u7 {A B : List Rw} {x : Rw} (hs : Srt (A ++ B)) (hB : ∀ z ∈ B, ¬ leW z x) (hA : ∀ y A', A = A' ++ [y] → leW y x) : A ++ x :: B = xX x (A ++ B) := by
  have h := vx (k := A.length) hs (by simp) (fun j z hj hz => by
    rw [List.getElem?_append_right hj] at hz
    exact hB z (List.mem_of_getElem? hz)) (fun z h0 hz => by
    rw [List.getElem?_append_left (by omega)] at hz
    refine hA z A.dropLast ?_
    have hne : A ≠ [] := by intro e; subst e; simp at h0
    have : A.getLast hne = z := by
      rw [List.getLast_eq_getElem]
      exact (List.getElem?_eq_some_iff.1 hz).2
    rw [← this]
    exact (List.dropLast_concat_getLast hne).symm)
  rw [List.take_left', List.drop_left'] at h
  · exact h
  · rfl
  · rfl
theorem sy {U W : List Rw} {x y : Rw} {u : Nat} (hu : U.length = u) : ((U ++ y :: x :: W).set (u + 1) y).set u x = U ++ x :: y :: W := by
  subst hu
  rw [List.set_append_right _ _ (by omega), show U.length + 1 - U.length = 1 by omega]
  show (U ++ y :: y :: W).set U.length x = _
  rw [List.set_append_right _ _ (Nat.le_refl _), Nat.sub_self]
  rfl
theorem vb {l : List V} {H : List Reg} {K : List Reg} (k : Nat) (ψ : List Nat) (hfix : ∀ i, i < k → ψ[i]? = some i) (hnd : ψ.Nodup) (hH : HLes ψ H ψ K) : (Exit.normal = .ret ∨ Exit.normal = .normal) ∧ Out true (.tup []) K (uL ⟨l, H, k⟩ []) ⟨l, H, k⟩ :=
  ⟨Or.inr rfl, vt (S := ⟨l, H, k⟩) ψ hfix (vy hnd hH) (nF zh) (Or.inl rfl)⟩
theorem mD (xs : List Rw) (a b : Nat) (h1 : a < b) (h2 : b ≤ xs.length) (hl : xs.length ≤ 100000000) : zn Go.Proofs.Try.prog 166 [.sl 0 0 xs.length, I a, I b, .fn 77 []] [rwR xs] (.tup []) [rwR (ub xs a b)] true := by
  refine zj [] Go.Proofs.Try.func166 rfl rfl ?_
  simp only [Go.Proofs.Try.ntmps166, List.length_cons, List.length_nil, Nat.reduceAdd, Nat.reduceSub, List.replicate_succ, List.replicate_zero, List.cons_append, List.nil_append]
  repeat' first | refine zJ ?_ | refine zA ?_ | refine zO [] ?_ | (refine isA ?_; refine zb rfl ?_) | (refine isL ?_; refine zU rfl (by kernel_rfl) rfl rfl ?_) | (refine za rfl ?_; refine zT rfl (by kernel_rfl) rfl rfl ?_) | refine zD ?_ | refine zB _ rfl (by kernel_rfl) ?_ | refine zV rfl ?_ | refine zW rfl ?_ | refine zC ?_ | with_reducible refine zM ?_ | refine zH ?_ | refine zI ?_ | (with_reducible first | refine zK ?_ | refine zL ?_ | refine zE ?_ | refine zG ?_ | refine zF ?_) | refine zN ?_
  refine zy (α := { i : Nat // a + 1 ≤ i ∧ i ≤ b }) (fun i => ⟨[.sl 0 0 xs.length, I a, I b, .fn 77 [], .any, .any, .any, .any, I i.1, .any, .any, .any, .any, .any, .any, .any, .any, .any, .any, .any, .any, .any, .any, .any, .any, .any, .any, .any, .any, .any, .any, .any, .any, .any, .any, .any, .any, .any, .any, .any, .any, .any, .any, .any, .any, .any, .any, .any, .any, .any, .any, .any, .any], [rwR (ub xs a i.1)], 1⟩) (fun i => b - i.1) ⟨a + 1, Nat.le_refl _, h1⟩ ?_ ?_
  · exact yf 1 [0] rfl rfl yF (by decide) (.cons rfl rfl rfl rfl (yL (by rw [py (by omega)]) (zR _ _)) .nil) (by
      repeat' first | exact zh | refine zc ?_ ?_ | exact zl | exact le_refl rfl | exact zm rfl rfl | exact yP (congrArg _ (show ((a + 1 : Nat) : Int) = IntKind.i64.wrap ((a : Int) + 1) by rw [IntKind.wrap_i64]; omega)))
  · rintro ⟨i, hi0, hi1⟩
    repeat' first | refine zJ ?_ | refine zA ?_ | refine zO [] ?_ | (refine isA ?_; refine zb rfl ?_) | (refine isL ?_; refine zU rfl (by kernel_rfl) rfl rfl ?_) | (refine za rfl ?_; refine zT rfl (by kernel_rfl) rfl rfl ?_) | refine zD ?_ | refine zB _ rfl (by kernel_rfl) ?_ | refine zV rfl ?_ | refine zW rfl ?_ | refine zC ?_ | with_reducible refine zM ?_ | refine zH ?_ | refine zI ?_ | (with_reducible first | refine zK ?_ | refine zL ?_ | refine zE ?_ | refine zG ?_ | refine zF ?_) | refine zN ?_
    refine zf rfl (fun h => ?_) (fun h => ?_)
    · have hlt : i < b := by have := of_decide_eq_true h; simp only at this; omega
      obtain ⟨x, hx⟩ : ∃ z, xs[i]? = some z := ⟨_, List.getElem?_eq_getElem (by omega)⟩
      have e1 := pI (a := a) (by omega) hx
      have hso := yb ((xs.drop a).take (i - a))
      have hol : (zt ((xs.drop a).take (i - a))).length = i - a := by rw [y6]; simp; omega
      have eR : ub xs a (i + 1) = xs.take a ++ (zt ((xs.drop a).take (i + 1 - a)) ++ xs.drop (i + 1)) := rfl
      have e0 : ub xs a i = xs.take a ++ (zt ((xs.drop a).take (i - a)) ++ x :: xs.drop (i + 1)) := by rw [ub, yR hx]
      rw [e1] at eR
      generalize zt ((xs.drop a).take (i - a)) = S at e0 eR hso hol
      have hP : (xs.take a).length = a := by simp; omega
      have hR : (xs.drop (i + 1)).length = xs.length - (i + 1) := by simp
      generalize xs.take a = P at e0 eR hP
      generalize xs.drop (i + 1) = R at e0 eR hR
      repeat' first | refine zJ ?_ | refine zA ?_ | refine zO [] ?_ | (refine isA ?_; refine zb rfl ?_) | (refine isL ?_; refine zU rfl (by kernel_rfl) rfl rfl ?_) | (refine za rfl ?_; refine zT rfl (by kernel_rfl) rfl rfl ?_) | refine zD ?_ | refine zB _ rfl (by kernel_rfl) ?_ | refine zV rfl ?_ | refine zW rfl ?_ | refine zC ?_ | with_reducible refine zM ?_ | refine zH ?_ | refine zI ?_ | (with_reducible first | refine zK ?_ | refine zL ?_ | refine zE ?_ | refine zG ?_ | refine zF ?_) | refine zN ?_
      refine zy (α := { p : List Rw × List Rw // p.1 ++ p.2 = S ∧ ∀ z ∈ p.2, ¬ leW z x }) (fun p => ⟨[.sl 0 0 xs.length, I a, I b, .fn 77 [], .any, .any, .any, .any, I i, I ((a + p.1.1.length : Nat) : Int), .any, .any, .any, .any, .any, .any, .any, .any, .any, .any, .any, .any, .any, .any, .any, .any, .any, .any, .any, .any, .any, .any, .any, .any, .any, .any, .any, .any, .any, .any, .any, .any, .any, .any, .any, .any, .any, .any, .any, .any, .any, .any, .any], [rwR (P ++ p.1.1 ++ x :: p.1.2 ++ R)], 1⟩) (fun p => p.1.1.length) ⟨(S, []), List.append_nil _, fun z hz => by cases hz⟩ ?_ ?_
      · exact yf 1 [0] rfl rfl yF (by decide) (.cons rfl rfl rfl rfl (yL (by rw [e0]; show rwT.flat _ = rwT.flat _; simp) (zR _ _)) .nil) (by
          repeat' first | exact zh | refine zc ?_ ?_ | exact zl | exact le_refl rfl | exact zm rfl rfl | exact yP (congrArg _ (show ((a + S.length : Nat) : Int) = (i : Int) by omega)))
      · rintro ⟨⟨A, B⟩, hAB, hB⟩
        simp only at hAB hB
        have hlen : A.length + B.length = i - a := by rw [← hol, ← hAB, List.length_append]
        repeat' first | refine zJ ?_ | refine zA ?_ | refine zO [] ?_ | (refine isA ?_; refine zb rfl ?_) | (refine isL ?_; refine zU rfl (by kernel_rfl) rfl rfl ?_) | (refine za rfl ?_; refine zT rfl (by kernel_rfl) rfl rfl ?_) | refine zD ?_ | refine zB _ rfl (by kernel_rfl) ?_ | refine zV rfl ?_ | refine zW rfl ?_ | refine zC ?_ | with_reducible refine zM ?_ | refine zH ?_ | refine zI ?_ | (with_reducible first | refine zK ?_ | refine zL ?_ | refine zE ?_ | refine zG ?_ | refine zF ?_) | refine zN ?_
        refine yz rfl rfl rfl rfl (fun p1 => ?_) (fun p1 => ?_)
        · have q1 : 0 < A.length := by have := of_decide_eq_true p1; simp only at this; omega
          obtain ⟨A', y, rfl⟩ : ∃ A' y, A = A' ++ [y] := ⟨A.dropLast, A.getLast (by intro e; subst e; simp at q1), (List.dropLast_concat_getLast _).symm⟩
          have ej : ((a + (A' ++ [y]).length : Nat) : Int) = ((a + A'.length + 1 : Nat) : Int) := by simp; omega
          have ew : IntKind.i64.wrap (((a + (A' ++ [y]).length : Nat) : Int) - 1) = ((a + A'.length : Nat) : Int) := by rw [IntKind.wrap_i64]; simp; omega
          have hlA : (A' ++ [y]).length = A'.length + 1 := by simp
          have hds : P ++ (A' ++ [y]) ++ x :: B ++ R = (P ++ A') ++ y :: x :: (B ++ R) := by simp
          have hu : (P ++ A').length = a + A'.length := by simp [hP]
          have g1 : (P ++ (A' ++ [y]) ++ x :: B ++ R)[0 + (a + A'.length + 1)]? = some x := by
            rw [hds, List.getElem?_append_right (by omega), hu, show 0 + (a + A'.length + 1) - (a + A'.length) = 1 by omega]; rfl
          have g0 : (P ++ (A' ++ [y]) ++ x :: B ++ R)[0 + (a + A'.length)]? = some y := by
            rw [hds, List.getElem?_append_right (by omega), hu, show 0 + (a + A'.length) - (a + A'.length) = 0 by omega]; rfl
          repeat' first | refine zJ ?_ | refine zA ?_ | refine zO [] ?_ | (refine isA ?_; refine zb rfl ?_) | (refine isL ?_; refine zU rfl (by kernel_rfl) rfl rfl ?_) | (refine za rfl ?_; refine zT rfl (by kernel_rfl) rfl rfl ?_) | (refine yn (x := .tmp 23) ?_; refine zd rfl (zp (j := ((a + A'.length + 1 : Nat) : Int)) rfl rfl rfl (Nat.zero_le _) rfl (congrArg I ej) (Int.natCast_nonneg _) (by omega)) rfl ?_) | (refine ym (x := .tmp 23) rfl ?_; refine zY rfl (by kernel_rfl) rfl (zp (j := ((a + A'.length + 1 : Nat) : Int)) rfl rfl rfl (Nat.zero_le _) rfl (congrArg I ej) (Int.natCast_nonneg _) (by omega)) rfl ?_) | (refine yn (x := .tmp 27) ?_; refine zd rfl (zp (j := ((a + A'.length : Nat) : Int)) rfl rfl rfl (Nat.zero_le _) rfl (congrArg I ew) (Int.natCast_nonneg _) (by omega)) rfl ?_) | (refine ym (x := .tmp 27) rfl ?_; refine zY rfl (by kernel_rfl) rfl (zp (j := ((a + A'.length : Nat) : Int)) rfl rfl rfl (Nat.zero_le _) rfl (congrArg I ew) (Int.natCast_nonneg _) (by omega)) rfl ?_) | (refine w4 (x := .tmp 25) ?_; refine zd rfl (y7 (T := rwT) (i := 0 + (a + A'.length + 1)) (z := x) rfl rfl rfl g1) rfl ?_) | (refine vI (x := .tmp 25) rfl ?_; refine zY rfl (by kernel_rfl) rfl (y7 (T := rwT) (i := 0 + (a + A'.length + 1)) (z := x) rfl rfl rfl g1) rfl ?_) | (refine w4 (x := .tmp 30) ?_; refine zd rfl (y7 (T := rwT) (i := 0 + (a + A'.length)) (z := y) rfl rfl rfl g0) rfl ?_) | (refine vI (x := .tmp 30) rfl ?_; refine zY rfl (by kernel_rfl) rfl (y7 (T := rwT) (i := 0 + (a + A'.length)) (z := y) rfl rfl rfl g0) rfl ?_) | refine zd rfl (xb rfl rfl (xh x y) (.cons (.same rfl) (.cons (.same rfl) .nil)) rfl) rfl ?_ | refine zY rfl (by kernel_rfl) rfl (xb rfl rfl (xh x y) (.cons (.same rfl) (.cons (.same rfl) .nil)) rfl) rfl ?_ | refine zD ?_ | refine zB _ rfl (by kernel_rfl) ?_ | refine zV rfl ?_ | refine zW rfl ?_ | refine zC ?_ | with_reducible refine zM ?_ | refine zH ?_ | refine zI ?_ | (with_reducible first | refine zK ?_ | refine zL ?_ | refine zE ?_ | refine zG ?_ | refine zF ?_) | refine zN ?_
          refine zf rfl (fun p2 => ?_) (fun p2 => ?_)
          · have q2 := xk.1 (of_decide_eq_true p2)
            repeat' first | refine zJ ?_ | refine zA ?_ | (refine isA ?_; refine zb rfl ?_) | (refine isL ?_; refine zU rfl (by kernel_rfl) rfl rfl ?_) | (refine za rfl ?_; refine zT rfl (by kernel_rfl) rfl rfl ?_) | refine zD ?_ | refine zB _ rfl (by kernel_rfl) ?_ | refine zV rfl ?_ | refine zW rfl ?_ | refine zC ?_ | with_reducible refine zM ?_ | refine zH ?_ | refine zI ?_ | (with_reducible first | refine zK ?_ | refine zL ?_ | refine zE ?_ | refine zG ?_ | refine zF ?_) | refine zN ?_
            refine tb [15, 17] 18 rfl ?_
            refine z9 0 rfl (by kernel_rfl) rfl (fun _ => rfl) rfl ?_
            refine z9 1 rfl (by kernel_rfl) rfl (fun _ => rfl) rfl ?_
            refine z9 2 rfl (by kernel_rfl) rfl (fun _ => rfl) rfl ?_
            refine z9 3 rfl (by kernel_rfl) rfl (fun _ => rfl) rfl ?_
            refine z9 4 rfl (by kernel_rfl) rfl (fun _ => rfl) rfl ?_
            refine z9 5 rfl (by kernel_rfl) rfl (fun _ => rfl) rfl ?_
            refine z9 6 rfl (by kernel_rfl) rfl (fun _ => rfl) rfl ?_
            refine z9 7 rfl (by kernel_rfl) rfl (fun _ => rfl) rfl ?_
            refine yv 8 rfl (by kernel_rfl) rfl (zp (j := ((a + A'.length : Nat) : Int)) rfl rfl rfl (Nat.zero_le _) rfl (congrArg I ew) (Int.natCast_nonneg _) (by omega)) rfl ?_
            refine yv 9 rfl (by kernel_rfl) rfl (y7 (T := rwT) (i := 0 + (a + A'.length)) (z := y) rfl rfl rfl g0) rfl ?_
            refine z9 10 rfl (by kernel_rfl) rfl (fun _ => rfl) rfl ?_
            refine z9 11 rfl (by kernel_rfl) rfl (fun _ => rfl) rfl ?_
            refine yv 12 rfl (by kernel_rfl) rfl (zp (j := ((a + A'.length + 1 : Nat) : Int)) rfl rfl rfl (Nat.zero_le _) rfl (congrArg I ej) (Int.natCast_nonneg _) (by omega)) rfl ?_
            refine yv 13 rfl (by kernel_rfl) rfl (y7 (T := rwT) (i := 0 + (a + A'.length + 1)) (z := x) rfl rfl rfl g1) rfl ?_
            refine yv 14 rfl (by kernel_rfl) rfl (zp (j := ((a + A'.length + 1 : Nat) : Int)) rfl rfl rfl (Nat.zero_le _) rfl (congrArg I ej) (Int.natCast_nonneg _) (by omega)) rfl ?_
            refine uC 15 rfl (by kernel_rfl) rfl rfl (vA (T := rwT) (i := 0 + (a + A'.length + 1)) (z := y) rfl rfl rfl rfl rfl (List.getElem?_eq_some_iff.1 g1).1) rfl ?_
            refine yv 16 rfl (by kernel_rfl) rfl (zp (j := ((a + A'.length : Nat) : Int)) rfl rfl rfl (Nat.zero_le _) rfl (congrArg I ew) (Int.natCast_nonneg _) (by omega)) rfl ?_
            refine uC 17 rfl (by kernel_rfl) rfl rfl (vA (T := rwT) (i := 0 + (a + A'.length)) (z := x) rfl rfl rfl rfl rfl (by rw [List.length_set]; exact (List.getElem?_eq_some_iff.1 g0).1)) rfl ?_
            refine vT (by kernel_rfl) ?_
            repeat' first | refine zJ ?_ | refine zA ?_ | refine zO [] ?_ | (refine isA ?_; refine zb rfl ?_) | (refine isL ?_; refine zU rfl (by kernel_rfl) rfl rfl ?_) | (refine za rfl ?_; refine zT rfl (by kernel_rfl) rfl rfl ?_) | refine zD ?_ | refine zB _ rfl (by kernel_rfl) ?_ | refine zV rfl ?_ | refine zW rfl ?_ | refine zC ?_ | with_reducible refine zM ?_ | refine zH ?_ | refine zI ?_ | (with_reducible first | refine zK ?_ | refine zL ?_ | refine zE ?_ | refine zG ?_ | refine zF ?_) | refine zN ?_
            refine ⟨⟨(A', y :: B), by rw [← hAB]; simp, fun z hz => by
              rcases List.mem_cons.1 hz with rfl | hz
              · exact q2
              · exact hB z hz⟩, by simp only; omega, ?_⟩
            exact yf 1 [0] rfl rfl yF (by decide) (.cons rfl rfl rfl rfl (yL (show rwT.flat (((P ++ (A' ++ [y]) ++ x :: B ++ R).set (0 + (a + A'.length + 1)) y).set (0 + (a + A'.length)) x) = rwT.flat (P ++ A' ++ x :: (y :: B) ++ R) by rw [hds, Nat.zero_add, Nat.zero_add, sy hu]; simp) (zR _ _)) .nil) (by
              repeat' first | exact zh | refine zc ?_ ?_ | exact zl | exact le_refl rfl | exact zm rfl rfl | exact yP (congrArg _ ew.symm))
          · have q2 : leW y x := Classical.byContradiction fun hn => by have := xk.2 hn; exact absurd this (of_decide_eq_false p2)
            have hfin := u7 (x := x) (hAB ▸ hso) hB (fun z D hD => by have := List.append_inj' hD rfl; obtain ⟨_, hz⟩ := this; cases hz; exact q2)
            repeat' first | refine zJ ?_ | refine zA ?_ | refine zO [] ?_ | (refine isA ?_; refine zb rfl ?_) | (refine isL ?_; refine zU rfl (by kernel_rfl) rfl rfl ?_) | (refine za rfl ?_; refine zT rfl (by kernel_rfl) rfl rfl ?_) | refine zD ?_ | refine zB _ rfl (by kernel_rfl) ?_ | refine zV rfl ?_ | refine zW rfl ?_ | refine zC ?_ | with_reducible refine zM ?_ | refine zH ?_ | refine zI ?_ | (with_reducible first | refine zK ?_ | refine zL ?_ | refine zE ?_ | refine zG ?_ | refine zF ?_) | refine zN ?_
            refine ⟨⟨i + 1, by omega, by omega⟩, by simp only; omega, ?_⟩
            exact yf 1 [0] rfl rfl yF (by decide) (.cons rfl rfl rfl rfl (yL (show rwT.flat (P ++ (A' ++ [y]) ++ x :: B ++ R) = rwT.flat (ub xs a (i + 1)) by rw [eR, ← hAB, ← hfin]; simp) (zR _ _)) .nil) (by
              repeat' first | exact zh | refine zc ?_ ?_ | exact zl | exact le_refl rfl | exact zm rfl rfl | exact xP hlt (by omega))
        · have q1 : A.length = 0 := by have := of_decide_eq_false p1; simp only at this; omega
          obtain rfl : A = [] := List.eq_nil_of_length_eq_zero q1
          have hfin := u7 (x := x) (hAB ▸ hso) hB (fun z D hD => by simp at hD)
          repeat' first | refine zJ ?_ | refine zA ?_ | refine zO [] ?_ | (refine isA ?_; refine zb rfl ?_) | (refine isL ?_; refine zU rfl (by kernel_rfl) rfl rfl ?_) | (refine za rfl ?_; refine zT rfl (by kernel_rfl) rfl rfl ?_) | refine zD ?_ | refine zB _ rfl (by kernel_rfl) ?_ | refine zV rfl ?_ | refine zW rfl ?_ | refine zC ?_ | with_reducible refine zM ?_ | refine zH ?_ | refine zI ?_ | (with_reducible first | refine zK ?_ | refine zL ?_ | refine zE ?_ | refine zG ?_ | refine zF ?_) | refine zN ?_
          refine ⟨⟨i + 1, by omega, by omega⟩, by simp only; omega, ?_⟩
          exact yf 1 [0] rfl rfl yF (by decide) (.cons rfl rfl rfl rfl (yL (show rwT.flat (P ++ [] ++ x :: B ++ R) = rwT.flat (ub xs a (i + 1)) by rw [eR, ← hAB, ← hfin]; simp) (zR _ _)) .nil) (by
            repeat' first | exact zh | refine zc ?_ ?_ | exact zl | exact le_refl rfl | exact zm rfl rfl | exact xP hlt (by omega))
    · have hge : i = b := by have := of_decide_eq_false h; simp only at this; omega
      subst hge
      repeat' first | refine zJ ?_ | refine zA ?_ | refine zO [] ?_ | (refine isA ?_; refine zb rfl ?_) | (refine isL ?_; refine zU rfl (by kernel_rfl) rfl rfl ?_) | (refine za rfl ?_; refine zT rfl (by kernel_rfl) rfl rfl ?_) | exact vb 1 [0] yF (by decide) (.cons rfl rfl rfl rfl (zg (zR _ _)) .nil) | refine zD ?_ | refine zB _ rfl (by kernel_rfl) ?_ | refine zV rfl ?_ | refine zW rfl ?_ | refine zC ?_ | with_reducible refine zM ?_ | refine zH ?_ | refine zI ?_ | (with_reducible first | refine zK ?_ | refine zL ?_ | refine zE ?_ | refine zG ?_ | refine zF ?_) | refine zN ?_
end Go.Proofs.Ytkcicbigpbdjpaa.Ab.Pr
namespace Go.Proofs.Ytkcicbigpbdjpaa.Ab.Pr
open Go.RowKit
def w3 (P X M Y Q : List Rw) (i : Nat) : List Rw := P ++ (Y.take i ++ X.drop i) ++ M ++ (X.take i ++ Y.drop i) ++ Q
theorem mR {U V W : List Rw} {x y : Rw} {u v : Nat} (hu : U.length = u) (hv : (U ++ x :: V).length = v) : ((U ++ x :: V ++ y :: W).set u y).set v x = U ++ y :: V ++ x :: W := by
  subst hu hv
  have h1 : (U ++ x :: V ++ y :: W).set U.length y = U ++ y :: V ++ y :: W := by
    rw [List.append_assoc, List.set_append_right _ _ (Nat.le_refl _), Nat.sub_self, List.append_assoc]; rfl
  have h2 : (U ++ x :: V).length = (U ++ y :: V).length := by simp
  rw [h1, h2, List.set_append_right _ _ (Nat.le_refl _), Nat.sub_self]
  rfl
theorem mn (P X M Y Q : List Rw) (n : Nat) (hX : X.length = n) (hY : Y.length = n) (hl : (P ++ X ++ M ++ Y ++ Q).length ≤ 100000000) : zn Go.Proofs.Try.prog 185 [.sl 0 0 (P ++ X ++ M ++ Y ++ Q).length, I P.length, I (P ++ X ++ M).length, I n, .fn 77 []] [rwR (P ++ X ++ M ++ Y ++ Q)] (.tup []) [rwR (P ++ Y ++ M ++ X ++ Q)] true := by
  have hlen : (P ++ X ++ M ++ Y ++ Q).length = P.length + n + M.length + n + Q.length := by simp [hX, hY]; omega
  have hb0 : (P ++ X ++ M).length = P.length + n + M.length := by simp [hX]; omega
  refine zj [] Go.Proofs.Try.func185 rfl rfl ?_
  simp only [Go.Proofs.Try.ntmps185, List.length_cons, List.length_nil, Nat.reduceAdd, Nat.reduceSub, List.replicate_succ, List.replicate_zero, List.cons_append, List.nil_append]
  repeat' first | refine zJ ?_ | refine zA ?_ | refine zO [] ?_ | (refine isA ?_; refine zb rfl ?_) | (refine isL ?_; refine zU rfl (by kernel_rfl) rfl rfl ?_) | (refine za rfl ?_; refine zT rfl (by kernel_rfl) rfl rfl ?_) | refine zD ?_ | refine zB _ rfl (by kernel_rfl) ?_ | refine zV rfl ?_ | refine zW rfl ?_ | refine zC ?_ | with_reducible refine zM ?_ | refine zH ?_ | refine zI ?_ | (with_reducible first | refine zK ?_ | refine zL ?_ | refine zE ?_ | refine zG ?_ | refine zF ?_) | refine zN ?_
  refine zy (α := { i : Nat // i ≤ n }) (fun i => ⟨[.sl 0 0 (P ++ X ++ M ++ Y ++ Q).length, I P.length, I (P ++ X ++ M).length, I n, .any, .any, .any, .any, .any, .any, I i.1, .any, .any, .any, .any, .any, .any, .any, .any, .any, .any, .any, .any, .any, .any, .any, .any, .any, .any, .any, .any, .any, .any, .any, .any, .any, .any, .any], [rwR (w3 P X M Y Q i.1)], 1⟩) (fun i => n - i.1) ⟨0, Nat.zero_le _⟩ ?_ ?_
  · exact yf 1 [0] rfl rfl yF (by decide) (.cons rfl rfl rfl rfl (yL (show rwT.flat (P ++ X ++ M ++ Y ++ Q) = rwT.flat (w3 P X M Y Q 0) by simp [w3]) (zR _ _)) .nil) (by repeat' first | exact zh | refine zc ?_ ?_ | exact zl | exact le_refl rfl | exact zm rfl rfl | exact zz rfl)
  · rintro ⟨i, hi⟩
    repeat' first | refine zJ ?_ | refine zA ?_ | refine zO [] ?_ | (refine isA ?_; refine zb rfl ?_) | (refine isL ?_; refine zU rfl (by kernel_rfl) rfl rfl ?_) | (refine za rfl ?_; refine zT rfl (by kernel_rfl) rfl rfl ?_) | refine zD ?_ | refine zB _ rfl (by kernel_rfl) ?_ | refine zV rfl ?_ | refine zW rfl ?_ | refine zC ?_ | with_reducible refine zM ?_ | refine zH ?_ | refine zI ?_ | (with_reducible first | refine zK ?_ | refine zL ?_ | refine zE ?_ | refine zG ?_ | refine zF ?_) | refine zN ?_
    refine zf rfl (fun h => ?_) (fun h => ?_)
    · have hlt : i < n := by have := of_decide_eq_true h; simp only at this; omega
      obtain ⟨x, hx⟩ : ∃ z, X[i]? = some z := ⟨_, List.getElem?_eq_getElem (by omega)⟩
      obtain ⟨y, hy⟩ : ∃ z, Y[i]? = some z := ⟨_, List.getElem?_eq_getElem (by omega)⟩
      have hL : w3 P X M Y Q i = (P ++ Y.take i) ++ x :: (X.drop (i + 1) ++ M ++ X.take i) ++ y :: (Y.drop (i + 1) ++ Q) := by
        rw [w3, yR hx, yR hy]; simp
      have hL2 : w3 P X M Y Q (i + 1) = (P ++ Y.take i) ++ y :: (X.drop (i + 1) ++ M ++ X.take i) ++ x :: (Y.drop (i + 1) ++ Q) := by
        rw [w3, wo hx, wo hy]; simp
      have hu : (P ++ Y.take i).length = P.length + i := by simp; omega
      have hv : ((P ++ Y.take i) ++ x :: (X.drop (i + 1) ++ M ++ X.take i)).length = (P ++ X ++ M).length + i := by simp; omega
      have ea : IntKind.i64.wrap ((P.length : Int) + (i : Int)) = ((P.length + i : Nat) : Int) := by rw [IntKind.wrap_i64]; omega
      have eb : IntKind.i64.wrap (((P ++ X ++ M).length : Int) + (i : Int)) = (((P ++ X ++ M).length + i : Nat) : Int) := by rw [IntKind.wrap_i64]; omega
      have g0 : (w3 P X M Y Q i)[0 + (P.length + i)]? = some x := by
        rw [hL, List.append_assoc, List.getElem?_append_right (by omega), hu, show 0 + (P.length + i) - (P.length + i) = 0 by omega]; rfl
      have g1 : (w3 P X M Y Q i)[0 + ((P ++ X ++ M).length + i)]? = some y := by
        rw [hL, List.getElem?_append_right (by omega), hv, show 0 + ((P ++ X ++ M).length + i) - ((P ++ X ++ M).length + i) = 0 by omega]; rfl
      have g1' : ((w3 P X M Y Q i).set (0 + (P.length + i)) y).length = (w3 P X M Y Q i).length := List.length_set
      repeat' first | refine zJ ?_ | refine zA ?_ | (refine isA ?_; refine zb rfl ?_) | (refine isL ?_; refine zU rfl (by kernel_rfl) rfl rfl ?_) | (refine za rfl ?_; refine zT rfl (by kernel_rfl) rfl rfl ?_) | refine zD ?_ | refine zB _ rfl (by kernel_rfl) ?_ | refine zV rfl ?_ | refine zW rfl ?_ | refine zC ?_ | with_reducible refine zM ?_ | refine zH ?_ | refine zI ?_ | (with_reducible first | refine zK ?_ | refine zL ?_ | refine zE ?_ | refine zG ?_ | refine zF ?_) | refine zN ?_
      refine tb [21, 23] 24 rfl ?_
      refine z9 0 rfl (by kernel_rfl) rfl (fun _ => rfl) rfl ?_
      refine z9 1 rfl (by kernel_rfl) rfl (fun _ => rfl) rfl ?_
      refine z9 2 rfl (by kernel_rfl) rfl (fun _ => rfl) rfl ?_
      refine z9 3 rfl (by kernel_rfl) rfl (fun _ => rfl) rfl ?_
      refine z9 4 rfl (by kernel_rfl) rfl (fun _ => rfl) rfl ?_
      refine z9 5 rfl (by kernel_rfl) rfl (fun _ => rfl) rfl ?_
      refine z9 6 rfl (by kernel_rfl) rfl (fun _ => rfl) rfl ?_
      refine z9 7 rfl (by kernel_rfl) rfl (fun _ => rfl) rfl ?_
      refine z9 8 rfl (by kernel_rfl) rfl (fun _ => rfl) rfl ?_
      refine z9 9 rfl (by kernel_rfl) rfl (fun _ => rfl) rfl ?_
      refine z9 10 rfl (by kernel_rfl) rfl (fun _ => rfl) rfl ?_
      refine z9 11 rfl (by kernel_rfl) rfl (fun _ => rfl) rfl ?_
      refine yv 12 rfl (by kernel_rfl) rfl (zp (j := (((P ++ X ++ M).length + i : Nat) : Int)) rfl rfl rfl (Nat.zero_le _) rfl (congrArg I eb) (Int.natCast_nonneg _) (by omega)) rfl ?_
      refine yv 13 rfl (by kernel_rfl) rfl (y7 (T := rwT) (i := 0 + ((P ++ X ++ M).length + i)) (z := y) rfl rfl rfl g1) rfl ?_
      refine z9 14 rfl (by kernel_rfl) rfl (fun _ => rfl) rfl ?_
      refine z9 15 rfl (by kernel_rfl) rfl (fun _ => rfl) rfl ?_
      refine z9 16 rfl (by kernel_rfl) rfl (fun _ => rfl) rfl ?_
      refine z9 17 rfl (by kernel_rfl) rfl (fun _ => rfl) rfl ?_
      refine yv 18 rfl (by kernel_rfl) rfl (zp (j := ((P.length + i : Nat) : Int)) rfl rfl rfl (Nat.zero_le _) rfl (congrArg I ea) (Int.natCast_nonneg _) (by omega)) rfl ?_
      refine yv 19 rfl (by kernel_rfl) rfl (y7 (T := rwT) (i := 0 + (P.length + i)) (z := x) rfl rfl rfl g0) rfl ?_
      refine yv 20 rfl (by kernel_rfl) rfl (zp (j := ((P.length + i : Nat) : Int)) rfl rfl rfl (Nat.zero_le _) rfl (congrArg I ea) (Int.natCast_nonneg _) (by omega)) rfl ?_
      refine uC 21 rfl (by kernel_rfl) rfl rfl (vA (T := rwT) (i := 0 + (P.length + i)) (z := y) rfl rfl rfl rfl rfl (List.getElem?_eq_some_iff.1 g0).1) rfl ?_
      refine yv 22 rfl (by kernel_rfl) rfl (zp (j := (((P ++ X ++ M).length + i : Nat) : Int)) rfl rfl rfl (Nat.zero_le _) rfl (congrArg I eb) (Int.natCast_nonneg _) (by omega)) rfl ?_
      refine uC 23 rfl (by kernel_rfl) rfl rfl (vA (T := rwT) (i := 0 + ((P ++ X ++ M).length + i)) (z := x) rfl rfl rfl rfl rfl (by rw [List.length_set]; exact (List.getElem?_eq_some_iff.1 g1).1)) rfl ?_
      refine vT (by kernel_rfl) ?_
      repeat' first | refine zJ ?_ | refine zA ?_ | refine zO [] ?_ | (refine isA ?_; refine zb rfl ?_) | (refine isL ?_; refine zU rfl (by kernel_rfl) rfl rfl ?_) | (refine za rfl ?_; refine zT rfl (by kernel_rfl) rfl rfl ?_) | refine zD ?_ | refine zB _ rfl (by kernel_rfl) ?_ | refine zV rfl ?_ | refine zW rfl ?_ | refine zC ?_ | with_reducible refine zM ?_ | refine zH ?_ | refine zI ?_ | (with_reducible first | refine zK ?_ | refine zL ?_ | refine zE ?_ | refine zG ?_ | refine zF ?_) | refine zN ?_
      refine ⟨⟨i + 1, hlt⟩, by simp only; omega, ?_⟩
      exact yf 1 [0] rfl rfl yF (by decide) (.cons rfl rfl rfl rfl (yL (show rwT.flat (((w3 P X M Y Q i).set (0 + (P.length + i)) y).set (0 + ((P ++ X ++ M).length + i)) x) = rwT.flat (w3 P X M Y Q (i + 1)) by rw [hL, Nat.zero_add, Nat.zero_add, mR hu hv, hL2]) (zR _ _)) .nil) (by
        repeat' first | exact zh | refine zc ?_ ?_ | exact zl | exact le_refl rfl | exact zm rfl rfl | exact xP hlt (by omega))
    · have hge : i = n := by have := of_decide_eq_false h; simp only at this; omega
      subst hge
      have e : w3 P X M Y Q i = P ++ Y ++ M ++ X ++ Q := by
        rw [w3, List.take_of_length_le (by omega), List.take_of_length_le (by omega), List.drop_of_length_le (by omega), List.drop_of_length_le (by omega)]; simp
      repeat' first | refine zJ ?_ | refine zA ?_ | refine zO [] ?_ | (refine isA ?_; refine zb rfl ?_) | (refine isL ?_; refine zU rfl (by kernel_rfl) rfl rfl ?_) | (refine za rfl ?_; refine zT rfl (by kernel_rfl) rfl rfl ?_) | exact vb 1 [0] yF (by decide) (.cons rfl rfl rfl rfl (yL (show rwT.flat (w3 P X M Y Q i) = rwT.flat (P ++ Y ++ M ++ X ++ Q) by rw [e]) (zR _ _)) .nil) | refine zD ?_ | refine zB _ rfl (by kernel_rfl) ?_ | refine zV rfl ?_ | refine zW rfl ?_ | refine zC ?_ | with_reducible refine zM ?_ | refine zH ?_ | refine zI ?_ | (with_reducible first | refine zK ?_ | refine zL ?_ | refine zE ?_ | refine zG ?_ | refine zF ?_) | refine zN ?_
end Go.Proofs.Ytkcicbigpbdjpaa.Ab.Pr
namespace Go.Proofs.Ytkcicbigpbdjpaa.Ab.Pr
open Go.RowKit
theorem tZ {ds : List Rw} {L : Nat} {a b n : Int} (P X M Y Q : List Rw) (hd : ds = P ++ X ++ M ++ Y ++ Q) (hL : L = ds.length) (hl : L ≤ 100000000) (ha : a = (P.length : Int)) (hb : b = ((P ++ X ++ M).length : Int)) (hn : n = (X.length : Int)) (hY : Y.length = X.length) :
    zn Go.Proofs.Try.prog 185 [.sl 0 0 L, I a, I b, I n, .fn 77 []] [rwR ds] (.tup []) [rwR (P ++ Y ++ M ++ X ++ Q)] true := by
  subst hd hL ha hb hn
  exact mn P X M Y Q X.length rfl hY hl
structure RotI (m : Nat) (T : List Rw) (p : List Rw × List Rw × List Rw × List Rw) : Prop where
  m : p.1.length + p.2.1.length = m
  t : p.1 ++ p.2.2.1 ++ p.2.1 ++ p.2.2.2 = T
  x : 0 < p.2.1.length
  y : 0 < p.2.2.1.length
theorem RotI.len {m : Nat} {T : List Rw} {p : List Rw × List Rw × List Rw × List Rw} (h : RotI m T p) : (p.1 ++ p.2.1 ++ p.2.2.1 ++ p.2.2.2).length = T.length := by
  rw [← h.t]; simp; omega
theorem mB (P X Y Q : List Rw) (hx : 0 < X.length) (hy : 0 < Y.length) (hl : (P ++ X ++ Y ++ Q).length ≤ 100000000) : zn Go.Proofs.Try.prog 179 [.sl 0 0 (P ++ X ++ Y ++ Q).length, I P.length, I (P ++ X).length, I (P ++ X ++ Y).length, .fn 77 []] [rwR (P ++ X ++ Y ++ Q)] (.tup []) [rwR (P ++ Y ++ X ++ Q)] true := by
  obtain ⟨T, hT⟩ : ∃ T, T = P ++ Y ++ X ++ Q := ⟨_, rfl⟩
  have hTl : (P ++ X ++ Y ++ Q).length = T.length := by rw [hT]; simp; omega
  have l1 : (P ++ X).length = P.length + X.length := by simp
  have l2 : (P ++ X ++ Y).length = P.length + X.length + Y.length := by simp; omega
  have l3 : (P ++ X ++ Y ++ Q).length = P.length + X.length + Y.length + Q.length := by simp; omega
  have I0 : RotI (P ++ X).length T (P, X, Y, Q) := ⟨l1.symm, hT.symm, hx, hy⟩
  rw [← hT]
  generalize hm : (P ++ X).length = m at I0 l1 ⊢
  generalize hL : (P ++ X ++ Y ++ Q).length = L at hl hTl l3 ⊢
  refine zj [] Go.Proofs.Try.func179 rfl rfl ?_
  simp only [Go.Proofs.Try.ntmps179, List.length_cons, List.length_nil, Nat.reduceAdd, Nat.reduceSub, List.replicate_succ, List.replicate_zero, List.cons_append, List.nil_append]
  repeat' first | refine zJ ?_ | refine zA ?_ | refine zO [] ?_ | (refine isA ?_; refine zb rfl ?_) | (refine isL ?_; refine zU rfl (by kernel_rfl) rfl rfl ?_) | (refine za rfl ?_; refine zT rfl (by kernel_rfl) rfl rfl ?_) | refine zD ?_ | refine zB _ rfl (by kernel_rfl) ?_ | refine zV rfl ?_ | refine zW rfl ?_ | refine zC ?_ | with_reducible refine zM ?_ | refine zH ?_ | refine zI ?_ | (with_reducible first | refine zK ?_ | refine zL ?_ | refine zE ?_ | refine zG ?_ | refine zF ?_) | refine zN ?_
  refine zy (α := { p : List Rw × List Rw × List Rw × List Rw // RotI m T p }) (fun p => ⟨[.sl 0 0 L, .any, I m, .any, .fn 77 [], .any, .any, .any, .any, .any, I p.1.2.1.length, I p.1.2.2.1.length, .any, .any, .any, .any, .any, .any, .any, .any, .any, .any, .any, .any, .any, .any, .any, .any, .any, .any, .any, .any, .any, .any, .any, .any, .any, .any, .any, .any, .any, .any, .any, .any, .any, .any, .any, .any, .any, .any, .any, .any, .any, .any, .any, .any, .any, .any], [rwR (p.1.1 ++ p.1.2.1 ++ p.1.2.2.1 ++ p.1.2.2.2)], 1⟩) (fun p => p.1.2.1.length + p.1.2.2.1.length) ⟨(P, X, Y, Q), I0⟩ ?_ ?_
  · exact yf 1 [0] rfl rfl yF (by decide) (.cons rfl rfl rfl rfl (zg (zR _ _)) .nil) (by
      repeat' first | exact zh | refine zc ?_ ?_ | exact zl | exact le_refl rfl | exact zm rfl rfl | exact yP (congrArg _ (show (X.length : Int) = IntKind.i64.wrap ((m : Int) - (P.length : Int)) by rw [IntKind.wrap_i64]; omega)) | exact yP (congrArg _ (show (Y.length : Int) = IntKind.i64.wrap (((P ++ X ++ Y).length : Int) - (m : Int)) by rw [IntKind.wrap_i64]; omega)))
  · rintro ⟨⟨A, C, D, E⟩, J⟩
    have j1 : A.length + C.length = m := J.m
    have j2 : A ++ D ++ C ++ E = T := J.t
    have j3 : 0 < C.length := J.x
    have j4 : 0 < D.length := J.y
    have j5 : (A ++ C ++ D ++ E).length = T.length := J.len
    have j6 : A.length + C.length + D.length + E.length = T.length := by rw [← j5]; simp; omega
    have e1 : IntKind.i64.wrap ((m : Int) - (C.length : Int)) = (A.length : Int) := by rw [IntKind.wrap_i64]; omega
    repeat' first | refine zJ ?_ | refine zA ?_ | refine zO [] ?_ | (refine isA ?_; refine zb rfl ?_) | (refine isL ?_; refine zU rfl (by kernel_rfl) rfl rfl ?_) | (refine za rfl ?_; refine zT rfl (by kernel_rfl) rfl rfl ?_) | refine zD ?_ | refine zB _ rfl (by kernel_rfl) ?_ | refine zV rfl ?_ | refine zW rfl ?_ | refine zC ?_ | with_reducible refine zM ?_ | refine zH ?_ | refine zI ?_ | (with_reducible first | refine zK ?_ | refine zL ?_ | refine zE ?_ | refine zG ?_ | refine zF ?_) | refine zN ?_
    refine zf rfl (fun h => ?_) (fun h => ?_)
    · have hne : C.length ≠ D.length := by intro e; simp [e] at h
      repeat' first | refine zJ ?_ | refine zA ?_ | refine zO [] ?_ | (refine isA ?_; refine zb rfl ?_) | (refine isL ?_; refine zU rfl (by kernel_rfl) rfl rfl ?_) | (refine za rfl ?_; refine zT rfl (by kernel_rfl) rfl rfl ?_) | refine zD ?_ | refine zB _ rfl (by kernel_rfl) ?_ | refine zV rfl ?_ | refine zW rfl ?_ | refine zC ?_ | with_reducible refine zM ?_ | refine zH ?_ | refine zI ?_ | (with_reducible first | refine zK ?_ | refine zL ?_ | refine zE ?_ | refine zG ?_ | refine zF ?_) | refine zN ?_
      refine zf rfl (fun q => ?_) (fun q => ?_)
      · have hgt : D.length < C.length := by have := of_decide_eq_true q; simp only at this; omega
        have t1 : (C.take D.length).length = D.length := by simp; omega
        have t2 : C.take D.length ++ C.drop D.length = C := List.take_append_drop _ _
        have sw := tZ (ds := A ++ C ++ D ++ E) (L := L) (a := IntKind.i64.wrap ((m : Int) - (C.length : Int))) (b := (m : Int)) (n := (D.length : Int)) A (C.take D.length) (C.drop D.length) D E (by have q : A ++ (C.take D.length ++ C.drop D.length) ++ D ++ E = A ++ C.take D.length ++ C.drop D.length ++ D ++ E := (by simp only [List.append_assoc]); rw [t2] at q; exact q) (by omega) (by omega) e1 (by rw [List.append_assoc A, t2, List.length_append]; omega) (by omega) (by omega)
        repeat' first | refine zJ ?_ | refine zA ?_ | refine zO [] ?_ | (refine isA ?_; refine zb rfl ?_) | (refine isL ?_; refine zU rfl (by kernel_rfl) rfl rfl ?_) | (refine za rfl ?_; refine zT rfl (by kernel_rfl) rfl rfl ?_) | (refine zq 185 ?_; refine zd rfl (zS (K := []) (Rs' := [_]) [0] (by decide) rfl sw (.cons rfl rfl rfl (zR _ _) (zR _ _) .nil) (.cons (.sl rfl) (.cons (.same rfl) (.cons (.same rfl) (.cons (.same rfl) (.cons (.same rfl) .nil))))) (fun q hq => by cases hq) rfl) rfl ?_) | (refine zr 185 rfl ?_; refine zY rfl (by kernel_rfl) rfl (zS (K := []) (Rs' := [_]) [0] (by decide) rfl sw (.cons rfl rfl rfl (zR _ _) (zR _ _) .nil) (.cons (.sl rfl) (.cons (.same rfl) (.cons (.same rfl) (.cons (.same rfl) (.cons (.same rfl) .nil))))) (fun q hq => by cases hq) rfl) rfl ?_) | refine zD ?_ | refine zB _ rfl (by kernel_rfl) ?_ | refine zV rfl ?_ | refine zW rfl ?_ | refine zC ?_ | with_reducible refine zM ?_ | refine zH ?_ | refine zI ?_ | (with_reducible first | refine zK ?_ | refine zL ?_ | refine zE ?_ | refine zG ?_ | refine zF ?_) | refine zN ?_
        refine ⟨⟨(A ++ D, C.drop D.length, C.take D.length, E), ⟨by simp; omega, by rw [← j2]; simp only [List.append_assoc]; rw [← List.append_assoc (C.take D.length), t2], by simp; omega, by simp; omega⟩⟩, by simp only [List.length_drop, t1]; omega, ?_⟩
        exact yf 1 [0] rfl rfl yF (by decide) (.cons rfl rfl rfl rfl (zg (zR _ _)) .nil) (by
          repeat' first | exact zh | refine zc ?_ ?_ | exact zl | exact le_refl rfl | exact zm rfl rfl | exact yP (congrArg _ (show ((C.take D.length).length : Int) = (D.length : Int) by omega)) | exact yP (congrArg _ (show ((C.drop D.length).length : Int) = IntKind.i64.wrap ((C.length : Int) - (D.length : Int)) by rw [IntKind.wrap_i64, List.length_drop]; omega)))
      · have hlt : C.length < D.length := by have := of_decide_eq_false q; simp only at this; omega
        have t1 : (D.drop (D.length - C.length)).length = C.length := by simp; omega
        have t2 : D.take (D.length - C.length) ++ D.drop (D.length - C.length) = D := List.take_append_drop _ _
        have t3 : (D.take (D.length - C.length)).length = D.length - C.length := by simp
        have sw := tZ (ds := A ++ C ++ D ++ E) (L := L) (a := IntKind.i64.wrap ((m : Int) - (C.length : Int))) (b := IntKind.i64.wrap (IntKind.i64.wrap ((m : Int) + (D.length : Int)) - (C.length : Int))) (n := (C.length : Int)) A C (D.take (D.length - C.length)) (D.drop (D.length - C.length)) E (by have q : A ++ C ++ (D.take (D.length - C.length) ++ D.drop (D.length - C.length)) ++ E = A ++ C ++ D.take (D.length - C.length) ++ D.drop (D.length - C.length) ++ E := (by simp only [List.append_assoc]); rw [t2] at q; exact q) (by omega) (by omega) e1 (by
          rw [show IntKind.i64.wrap ((m : Int) + (D.length : Int)) = (m : Int) + D.length by rw [IntKind.wrap_i64]; omega, IntKind.wrap_i64, List.length_append, List.length_append, t3]; omega) rfl t1
        repeat' first | refine zJ ?_ | refine zA ?_ | refine zO [] ?_ | (refine isA ?_; refine zb rfl ?_) | (refine isL ?_; refine zU rfl (by kernel_rfl) rfl rfl ?_) | (refine za rfl ?_; refine zT rfl (by kernel_rfl) rfl rfl ?_) | (refine zq 185 ?_; refine zd rfl (zS (K := []) (Rs' := [_]) [0] (by decide) rfl sw (.cons rfl rfl rfl (zR _ _) (zR _ _) .nil) (.cons (.sl rfl) (.cons (.same rfl) (.cons (.same rfl) (.cons (.same rfl) (.cons (.same rfl) .nil))))) (fun q hq => by cases hq) rfl) rfl ?_) | (refine zr 185 rfl ?_; refine zY rfl (by kernel_rfl) rfl (zS (K := []) (Rs' := [_]) [0] (by decide) rfl sw (.cons rfl rfl rfl (zR _ _) (zR _ _) .nil) (.cons (.sl rfl) (.cons (.same rfl) (.cons (.same rfl) (.cons (.same rfl) (.cons (.same rfl) .nil))))) (fun q hq => by cases hq) rfl) rfl ?_) | refine zD ?_ | refine zB _ rfl (by kernel_rfl) ?_ | refine zV rfl ?_ | refine zW rfl ?_ | refine zC ?_ | with_reducible refine zM ?_ | refine zH ?_ | refine zI ?_ | (with_reducible first | refine zK ?_ | refine zL ?_ | refine zE ?_ | refine zG ?_ | refine zF ?_) | refine zN ?_
        refine ⟨⟨(A, D.drop (D.length - C.length), D.take (D.length - C.length), C ++ E), ⟨by simp only; omega, by rw [← j2]; simp only [List.append_assoc]; rw [← List.append_assoc (D.take (D.length - C.length)), t2], by simp only; omega, by simp only; omega⟩⟩, by simp only [t1, t3]; omega, ?_⟩
        exact yf 1 [0] rfl rfl yF (by decide) (.cons rfl rfl rfl rfl (yL (congrArg rwT.flat (by simp)) (zR _ _)) .nil) (by
          repeat' first | exact zh | refine zc ?_ ?_ | exact zl | exact le_refl rfl | exact zm rfl rfl | exact yP (congrArg _ (show ((D.drop (D.length - C.length)).length : Int) = (C.length : Int) by omega)) | exact yP (congrArg _ (show ((D.take (D.length - C.length)).length : Int) = IntKind.i64.wrap ((D.length : Int) - (C.length : Int)) by rw [IntKind.wrap_i64, t3]; omega)))
    · have heq : C.length = D.length := by have : (C.length : Int) = D.length := (by simpa using h); omega
      have sw := tZ (ds := A ++ C ++ D ++ E) (L := L) (a := IntKind.i64.wrap ((m : Int) - (C.length : Int))) (b := (m : Int)) (n := (C.length : Int)) A C [] D E (by simp) (by omega) (by omega) e1 (by simp; omega) rfl heq.symm
      repeat' first | refine zJ ?_ | refine zA ?_ | refine zO [] ?_ | (refine isA ?_; refine zb rfl ?_) | (refine isL ?_; refine zU rfl (by kernel_rfl) rfl rfl ?_) | (refine za rfl ?_; refine zT rfl (by kernel_rfl) rfl rfl ?_) | (refine zq 185 ?_; refine zd rfl (zS (K := []) (Rs' := [_]) [0] (by decide) rfl sw (.cons rfl rfl rfl (zR _ _) (zR _ _) .nil) (.cons (.sl rfl) (.cons (.same rfl) (.cons (.same rfl) (.cons (.same rfl) (.cons (.same rfl) .nil))))) (fun q hq => by cases hq) rfl) rfl ?_) | (refine zr 185 rfl ?_; refine zY rfl (by kernel_rfl) rfl (zS (K := []) (Rs' := [_]) [0] (by decide) rfl sw (.cons rfl rfl rfl (zR _ _) (zR _ _) .nil) (.cons (.sl rfl) (.cons (.same rfl) (.cons (.same rfl) (.cons (.same rfl) (.cons (.same rfl) .nil))))) (fun q hq => by cases hq) rfl) rfl ?_) | exact vb 1 [0] yF (by decide) (.cons rfl rfl rfl rfl (yL (congrArg rwT.flat (by rw [← j2]; simp)) (zR _ _)) .nil) | refine zD ?_ | refine zB _ rfl (by kernel_rfl) ?_ | refine zV rfl ?_ | refine zW rfl ?_ | refine zC ?_ | with_reducible refine zM ?_ | refine zH ?_ | refine zI ?_ | (with_reducible first | refine zK ?_ | refine zL ?_ | refine zE ?_ | refine zG ?_ | refine zF ?_) | refine zN ?_
end Go.Proofs.Ytkcicbigpbdjpaa.Ab.Pr
namespace Go.Proofs.Ytkcicbigpbdjpaa.Ab.Pr
open Go.RowKit
theorem uy {xs : List Rw} (h : Srt xs) (u : Nat) : ∀ x ∈ xs.take u, ∀ y ∈ xs.drop u, leW x y := by
  have h' : Srt (xs.take u ++ xs.drop u) := by rw [List.take_append_drop]; exact h
  exact (List.pairwise_append.1 h').2.2
theorem tY {A B : List Rw} {u v : Nat} (hA : Srt A) (hB : Srt B) (hu : u ≤ A.length) (h : ∀ x y, 0 < u → A[u - 1]? = some x → B[v]? = some y → leW x y) : ∀ x ∈ A.take u, ∀ y ∈ B.drop v, leW x y := fun x hx y hy => by
  obtain ⟨i, hi⟩ := List.getElem?_of_mem hx
  obtain ⟨j, hj⟩ := List.getElem?_of_mem hy
  have hlt : i < u := by
    have := (List.getElem?_eq_some_iff.1 hi).1
    simp at this
    omega
  rw [List.getElem?_take_of_lt hlt] at hi
  rw [List.getElem?_drop] at hj
  have hvl := (List.getElem?_eq_some_iff.1 hj).1
  obtain ⟨x', hx'⟩ : ∃ z, A[u - 1]? = some z := ⟨_, List.getElem?_eq_getElem (by omega)⟩
  obtain ⟨y', hy'⟩ : ∃ z, B[v]? = some z := ⟨_, List.getElem?_eq_getElem (by omega)⟩
  exact xW (ua hA (show i ≤ u - 1 by omega) hi hx') (xW (h x' y' (by omega) hx' hy') (ua hB (Nat.le_add_right v j) hy' hj))
theorem sx {A B : List Rw} {u v : Nat} (hA : Srt A) (hB : Srt B) (hu : u ≤ A.length) (hv : v ≤ B.length) (h1 : ∀ x y, 0 < u → A[u - 1]? = some x → B[v]? = some y → leW x y) (h2 : ∀ y x, 0 < v → B[v - 1]? = some y → A[u]? = some x → leW y x) :
    zt (A.take u ++ B.take v) ++ zt (A.drop u ++ B.drop v) = zt (A ++ B) := by
  refine wM ?_ ?_
  · refine List.pairwise_append.2 ⟨yb _, yb _, fun x hx y hy => ?_⟩
    have hx' := (z1 _).mem_iff.1 hx
    have hy' := (z1 _).mem_iff.1 hy
    rcases List.mem_append.1 hx' with hx' | hx' <;> rcases List.mem_append.1 hy' with hy' | hy'
    · exact uy hA u x hx' y hy'
    · exact tY hA hB hu h1 x hx' y hy'
    · exact tY hB hA hv h2 x hx' y hy'
    · exact uy hB v x hx' y hy'
  · refine ((z1 _).append (z1 _)).trans ?_
    have e : (A ++ B).Perm ((A.take u ++ A.drop u) ++ (B.take v ++ B.drop v)) := by rw [List.take_append_drop, List.take_append_drop]
    refine List.Perm.trans ?_ e.symm
    rw [List.append_assoc, List.append_assoc]
    refine List.Perm.append_left _ ?_
    rw [← List.append_assoc, ← List.append_assoc]
    exact List.Perm.append_right _ List.perm_append_comm
end Go.Proofs.Ytkcicbigpbdjpaa.Ab.Pr
namespace Go.Proofs.Ytkcicbigpbdjpaa.Ab.Pr
open Go.RowKit
inductive Blk (s : Nat) : List Rw → Prop where
  | last {X : List Rw} (hl : X.length ≤ s) (h : Srt X) : Blk s X
  | cons {X Y : List Rw} (hl : X.length = s) (h : Srt X) (t : Blk s Y) : Blk s (X ++ Y)
def st (s : Nat) (U : List Rw) : Prop := ∀ Z, Blk s Z → Blk s (U ++ Z)
theorem t8 {s : Nat} : st s [] := fun Z h => h
theorem u9 {s : Nat} {U X : List Rw} (hU : st s U) (hl : X.length = s) (h : Srt X) : st s (U ++ X) := fun Z hZ => by
  rw [List.append_assoc]; exact hU _ (.cons hl h hZ)
theorem v3 {s : Nat} {U X : List Rw} (hU : st s U) (hl : X.length ≤ s) (h : Srt X) : Blk s (U ++ X) := hU _ (.last hl h)
theorem uT {s : Nat} {V : List Rw} (h : Blk s V) (hl : V.length ≤ s) : Srt V := by
  cases h with
  | last _ h => exact h
  | @cons X Y hX h t =>
    have : Y = [] := List.eq_nil_of_length_eq_zero (by rw [List.length_append] at hl; omega)
    subst this
    rw [List.append_nil]
    exact h
theorem ta {s : Nat} {V : List Rw} (h : Blk s V) (hl : s < V.length) : ∃ X Y, V = X ++ Y ∧ X.length = s ∧ Srt X ∧ Blk s Y := by
  cases h with
  | last q h => omega
  | @cons X Y hX h t => exact ⟨X, Y, rfl, hX, h, t⟩
theorem mv {s : Nat} {V : List Rw} (hs : 0 < s) (h : Blk s V) (hl : 2 * s ≤ V.length) : ∃ X Y Z, V = X ++ Y ++ Z ∧ X.length = s ∧ Y.length = s ∧ Srt X ∧ Srt Y ∧ Blk s Z := by
  obtain ⟨X, W, rfl, hX, sX, hW⟩ := ta h (by omega)
  rw [List.length_append] at hl
  rcases Nat.lt_or_ge s W.length with hlt | hge
  · obtain ⟨Y, Z, rfl, hY, sY, hZ⟩ := ta hW hlt
    exact ⟨X, Y, Z, by rw [List.append_assoc], hX, hY, sX, sY, hZ⟩
  · exact ⟨X, W, [], by simp, hX, by omega, sX, uT hW hge, .last (Nat.zero_le _) List.Pairwise.nil⟩
theorem mL {s : Nat} {V : List Rw} (h : Blk s V) (hl : s < V.length) (h2 : V.length < 2 * s) : ∃ X Y, V = X ++ Y ∧ X.length = s ∧ Srt X ∧ Srt Y ∧ 0 < Y.length := by
  obtain ⟨X, Y, rfl, hX, sX, hY⟩ := ta h hl
  rw [List.length_append] at hl h2
  exact ⟨X, Y, rfl, hX, sX, uT hY (by omega), by omega⟩
theorem s5 {xs : List Rw} (h : Srt xs) : zt xs = xs := (wM h (.refl _)).symm
end Go.Proofs.Ytkcicbigpbdjpaa.Ab.Pr
namespace Go.Proofs.Ytkcicbigpbdjpaa.Ab.Pr
open Go.RowKit
structure CutI (A B : List Rw) (w : Nat) (p : Nat × Nat) : Prop where
  lo : w - B.length ≤ p.1
  le : p.1 ≤ p.2
  hi : p.2 ≤ min A.length w
  hlo : ∀ x y, w - B.length < p.1 → A[p.1 - 1]? = some x → B[w - p.1]? = some y → leW x y
  hhi : ∀ y x, p.2 < min A.length w → B[w - 1 - p.2]? = some y → A[p.2]? = some x → leW y x
theorem cut0 {A B : List Rw} {w : Nat} (hw : w = (A.length + B.length) / 2) : CutI A B w (w - B.length, min A.length w) :=
  ⟨Nat.le_refl _, by simp only; omega, Nat.le_refl _, fun _ _ h => absurd h (Nat.lt_irrefl _), fun _ _ h => absurd h (Nat.lt_irrefl _)⟩
theorem ml {A B : List Rw} {w u : Nat} (hw : w = (A.length + B.length) / 2) (hA : Srt A) (hB : Srt B) (h : CutI A B w (u, u)) :
    u ≤ A.length ∧ u ≤ w ∧ w - u ≤ B.length ∧ zt (A.take u ++ B.take (w - u)) ++ zt (A.drop u ++ B.drop (w - u)) = zt (A ++ B) := by
  obtain ⟨h1, h2, h3, h4, h5⟩ := h
  simp only at h1 h2 h3 h4 h5
  refine ⟨by omega, by omega, by omega, sx hA hB (by omega) (by omega) (fun x y h0 hx hy => ?_) (fun y x h0 hy hx => ?_)⟩
  · refine h4 x y ?_ hx hy
    have := (List.getElem?_eq_some_iff.1 hy).1
    omega
  · refine h5 y x ?_ ?_ hx
    · have := (List.getElem?_eq_some_iff.1 hx).1
      omega
    · rw [show w - 1 - u = w - u - 1 by omega]; exact hy
end Go.Proofs.Ytkcicbigpbdjpaa.Ab.Pr
namespace Go.Proofs.Ytkcicbigpbdjpaa.Ab
open Go.RowKit
theorem pz {v : Int} (h0 : 0 ≤ v) : wS .u64 v 1 = v / 2 := by
  unfold wS
  show v.fdiv 2 = v / 2
  exact Int.fdiv_eq_ediv_of_nonneg v (by omega)
theorem vZ {i j : Nat} (h : i + j ≤ 1000000000000) : IntKind.i64.wrap (wS .u64 (IntKind.u64.wrap (IntKind.i64.wrap ((i : Int) + (j : Int)))) 1) = (((i + j) / 2 : Nat) : Int) := by
  have e1 : IntKind.i64.wrap ((i : Int) + (j : Int)) = ((i + j : Nat) : Int) := by rw [IntKind.wrap_i64]; omega
  have e2 : IntKind.u64.wrap (((i + j : Nat) : Int)) = ((i + j : Nat) : Int) := by
    unfold IntKind.wrap
    simp [IntKind.bits, IntKind.signed]
    omega
  rw [e1, e2, pz (by omega), IntKind.wrap_i64]
  omega
end Go.Proofs.Ytkcicbigpbdjpaa.Ab
namespace Go.Proofs.Ytkcicbigpbdjpaa.Ab.Pr
open Go.RowKit
theorem uz {x : Rw} {B : List Rw} {u : Nat} (hB : Srt B) (hu : u ≤ B.length) (h1 : ∀ z, 0 < u → B[u - 1]? = some z → leW z x) (h2 : ∀ z, B[u]? = some z → leW x z) : B.take u ++ x :: B.drop u = zt ([x] ++ B) := by
  have h := sx (A := [x]) (B := B) (u := 0) (v := u) (List.pairwise_singleton _ _) hB (Nat.zero_le _) hu (fun _ _ h => absurd h (Nat.lt_irrefl 0)) (fun y z h0 hy hz => by
    simp at hz
    subst hz
    exact h1 y h0 hy)
  refine wM ?_ ?_
  · have hs : Srt (B.take u ++ B.drop u) := by rw [List.take_append_drop]; exact hB
    obtain ⟨q1, q2, q3⟩ := List.pairwise_append.1 hs
    have hlo := tY (A := B) (B := [x]) (u := u) (v := 0) hB (List.pairwise_singleton _ _) hu (fun z y h0 hz hy => by simp at hy; subst hy; exact h1 z h0 hz)
    have hhi := tY (A := [x]) (B := B) (u := 1) (v := u) (List.pairwise_singleton _ _) hB (by simp) (fun z y _ hz hy => by simp at hz; subst hz; exact h2 y hy)
    refine List.pairwise_append.2 ⟨q1, List.pairwise_cons.2 ⟨fun y hy => hhi x (by simp) y hy, q2⟩, fun a ha c hc => ?_⟩
    rcases List.mem_cons.1 hc with rfl | hc
    · exact hlo a ha _ (by simp)
    · exact q3 a ha c hc
  · exact List.perm_middle.trans (by rw [List.take_append_drop]; exact .refl _)
theorem px {x : Rw} {A : List Rw} {u : Nat} (hA : Srt A) (hu : u ≤ A.length) (h1 : ∀ z, 0 < u → A[u - 1]? = some z → leW z x) (h2 : ∀ z, A[u]? = some z → leW x z) : A.take u ++ x :: A.drop u = zt (A ++ [x]) := by
  rw [uz hA hu h1 h2]
  exact wM (yb _) ((z1 _).trans List.perm_append_comm)
theorem nT {l : List V} {H : List Reg} {K : List Reg} (k : Nat) (ψ : List Nat) (hfix : ∀ i, i < k → ψ[i]? = some i) (hnd : ψ.Nodup) (hH : HLes ψ H ψ K) : (Exit.ret = .ret ∨ Exit.ret = .normal) ∧ Out true (.tup []) K (uL ⟨l, H, k⟩ []) ⟨l, H, k⟩ :=
  ⟨Or.inl rfl, vt (S := ⟨l, H, k⟩) ψ hfix (vy hnd hH) (nF zh) (Or.inl rfl)⟩
theorem mS {U W : List Rw} {x y : Rw} {u : Nat} (hu : U.length = u) : ((U ++ x :: y :: W).set u y).set (u + 1) x = U ++ y :: x :: W := by
  subst hu
  have h1 : (U ++ x :: y :: W).set U.length y = U ++ y :: y :: W := by rw [List.set_append_right _ _ (Nat.le_refl _), Nat.sub_self]; rfl
  rw [h1, List.set_append_right _ _ (by omega), show U.length + 1 - U.length = 1 by omega]
  rfl
def upL (P B Q : List Rw) (x : Rw) (t : Nat) : List Rw := P ++ B.take t ++ x :: (B.drop t ++ Q)
theorem kV (P B Q : List Rw) (x : Rw) (hB : Srt B) (h0 : 0 < B.length) (hl : (P ++ [x] ++ B ++ Q).length ≤ 100000000) : zn Go.Proofs.Try.prog 167 [.sl 0 0 (P ++ [x] ++ B ++ Q).length, I P.length, I (P ++ [x]).length, I (P ++ [x] ++ B).length, .fn 77 []] [rwR (P ++ [x] ++ B ++ Q)] (.tup []) [rwR (P ++ zt ([x] ++ B) ++ Q)] true := by
  have l1 : (P ++ [x]).length = P.length + 1 := by simp
  have l2 : (P ++ [x] ++ B).length = P.length + 1 + B.length := by simp; omega
  have l3 : (P ++ [x] ++ B ++ Q).length = P.length + 1 + B.length + Q.length := by simp; omega
  generalize hm : (P ++ [x]).length = m at l1 ⊢
  generalize hb : (P ++ [x] ++ B).length = b at l2 ⊢
  generalize hL : (P ++ [x] ++ B ++ Q).length = L at hl l3 ⊢
  refine zj [] Go.Proofs.Try.func167 rfl rfl ?_
  simp only [Go.Proofs.Try.ntmps167, List.length_cons, List.length_nil, Nat.reduceAdd, Nat.reduceSub, List.replicate_succ, List.replicate_zero, List.cons_append, List.nil_append]
  repeat' first | refine zJ ?_ | refine zA ?_ | refine zO [] ?_ | (refine isA ?_; refine zb rfl ?_) | (refine isL ?_; refine zU rfl (by kernel_rfl) rfl rfl ?_) | (refine za rfl ?_; refine zT rfl (by kernel_rfl) rfl rfl ?_) | refine zD ?_ | refine zB _ rfl (by kernel_rfl) ?_ | refine zV rfl ?_ | refine zW rfl ?_ | refine zC ?_ | with_reducible refine zM ?_ | refine zH ?_ | refine zI ?_ | (with_reducible first | refine zK ?_ | refine zL ?_ | refine zE ?_ | refine zG ?_ | refine zF ?_) | refine zN ?_
  refine zf rfl (fun _ => ?_) (fun h => absurd (of_decide_eq_false h) (by rw [IntKind.wrap_i64]; omega))
  repeat' first | refine zJ ?_ | refine zA ?_ | refine zO [] ?_ | (refine isA ?_; refine zb rfl ?_) | (refine isL ?_; refine zU rfl (by kernel_rfl) rfl rfl ?_) | (refine za rfl ?_; refine zT rfl (by kernel_rfl) rfl rfl ?_) | refine zD ?_ | refine zB _ rfl (by kernel_rfl) ?_ | refine zV rfl ?_ | refine zW rfl ?_ | refine zC ?_ | with_reducible refine zM ?_ | refine zH ?_ | refine zI ?_ | (with_reducible first | refine zK ?_ | refine zL ?_ | refine zE ?_ | refine zG ?_ | refine zF ?_) | refine zN ?_
  refine zy (α := { p : Nat × Nat // p.1 ≤ p.2 ∧ p.2 ≤ B.length ∧ (∀ z, 0 < p.1 → B[p.1 - 1]? = some z → leW z x) ∧ (∀ z, B[p.2]? = some z → leW x z) }) (fun p => ⟨((.sl 0 0 L) :: (I P.length) :: (I m) :: (I b) :: (.fn 77 []) :: .any :: .any :: .any :: .any :: .any :: (I ((m + p.1.1 : Nat) : Int)) :: (I ((m + p.1.2 : Nat) : Int)) :: .any :: .any :: .any :: .any :: .any :: .any :: .any :: .any :: .any :: .any :: .any :: .any :: .any :: .any :: .any :: .any :: .any :: .any :: .any :: .any :: .any :: .any :: .any :: .any :: .any :: .any :: .any :: .any :: .any :: .any :: .any :: .any :: .any :: .any :: .any :: .any :: .any :: .any :: .any :: .any :: .any :: .any :: .any :: .any :: .any :: .any :: .any :: .any :: .any :: .any :: .any :: .any :: .any :: .any :: .any :: .any :: .any :: .any :: .any :: .any :: .any :: .any :: .any :: .any :: .any :: .any :: .any :: .any :: .any :: .any :: .any :: .any :: .any :: .any :: .any :: .any :: .any :: .any :: .any :: .any :: .any :: .any :: .any :: .any :: .any :: .any :: .any :: .any :: .any :: .any :: .any :: .any :: .any :: .any :: .any :: .any :: .any :: .any :: .any :: .any :: .any :: .any :: .any :: .any :: .any :: .any :: .any :: .any :: .any :: .any :: .any :: .any :: .any :: .any :: .any :: .any :: .any :: .any :: .any :: .any :: .any :: .any :: .any :: .any :: .any :: .any :: .any :: .any :: .any :: .any :: .any :: .any :: .any :: .any :: .any :: .any :: .any :: .any :: .any :: .any :: .any :: .any :: .any :: .any :: .any :: .any :: .any :: .any :: .any :: .any :: .any :: .any :: .any :: .any :: .any :: .any :: .any :: .any :: .any :: .any :: .any :: .any :: .any :: .any :: .any :: .any :: .any :: .any :: .any :: .any :: .any :: .any :: .any :: .any :: .any :: .any :: .any :: .any :: .any :: .any :: .any :: .any :: .any :: .any :: .any :: .any :: .any :: .any :: .any :: .any :: .any :: .any :: .any :: .any :: .any :: .any :: .any :: .any :: .any :: .any :: .any :: .any :: .any :: .any :: .any :: .any :: .any :: .any :: []), [rwR (P ++ [x] ++ B ++ Q)], 1⟩) (fun p => p.1.2 - p.1.1) ⟨(0, B.length), Nat.zero_le _, Nat.le_refl _, fun _ h => absurd h (Nat.lt_irrefl 0), fun z hz => absurd (List.getElem?_eq_some_iff.1 hz).1 (Nat.lt_irrefl _)⟩ ?_ ?_
  · exact yf 1 [0] rfl rfl yF (by decide) (.cons rfl rfl rfl rfl (zg (zR _ _)) .nil) (by
      repeat' first | exact zh | refine zc ?_ ?_ | exact zl | exact le_refl rfl | exact zm rfl rfl | exact yP (congrArg _ (show ((m + B.length : Nat) : Int) = (b : Int) by omega)))
  · rintro ⟨⟨i, j⟩, hij, hj, hlo, hhi⟩
    simp only at hij hj hlo hhi
    repeat' first | refine zJ ?_ | refine zA ?_ | refine zO [] ?_ | (refine isA ?_; refine zb rfl ?_) | (refine isL ?_; refine zU rfl (by kernel_rfl) rfl rfl ?_) | (refine za rfl ?_; refine zT rfl (by kernel_rfl) rfl rfl ?_) | refine zD ?_ | refine zB _ rfl (by kernel_rfl) ?_ | refine zV rfl ?_ | refine zW rfl ?_ | refine zC ?_ | with_reducible refine zM ?_ | refine zH ?_ | refine zI ?_ | (with_reducible first | refine zK ?_ | refine zL ?_ | refine zE ?_ | refine zG ?_ | refine zF ?_) | refine zN ?_
    refine zf rfl (fun h => ?_) (fun h => ?_)
    · have hlt : i < j := by have := of_decide_eq_true h; simp only at this; omega
      obtain ⟨k, hk⟩ : ∃ k, k = (i + j) / 2 := ⟨_, rfl⟩
      have k1 : i ≤ k ∧ k < j := by omega
      have hv : IntKind.i64.wrap (wS .u64 (IntKind.u64.wrap (IntKind.i64.wrap (((m + i : Nat) : Int) + ((m + j : Nat) : Int)))) 1) = ((m + k : Nat) : Int) := by
        rw [vZ (by omega)]; omega
      obtain ⟨y, hy⟩ : ∃ z, B[k]? = some z := ⟨_, List.getElem?_eq_getElem (by omega)⟩
      have gy : (P ++ [x] ++ B ++ Q)[0 + (m + k)]? = some y := by
        rw [List.getElem?_append_left (by omega), List.getElem?_append_right (by omega), hm, show 0 + (m + k) - m = k by omega]; exact hy
      have gx : (P ++ [x] ++ B ++ Q)[0 + P.length]? = some x := by
        rw [Nat.zero_add, List.append_assoc, List.append_assoc, List.getElem?_append_right (Nat.le_refl _), Nat.sub_self]; rfl
      repeat' first | refine zJ ?_ | refine zA ?_ | refine zO [] ?_ | (refine isA ?_; refine zb rfl ?_) | (refine isL ?_; refine zU rfl (by kernel_rfl) rfl rfl ?_) | (refine za rfl ?_; refine zT rfl (by kernel_rfl) rfl rfl ?_) | refine zd rfl (y5 (n := 1) rfl rfl rfl) rfl ?_ | refine zY rfl (by kernel_rfl) rfl (y5 (n := 1) rfl rfl rfl) rfl ?_ | (refine yn (x := .tmp 41) ?_; refine zd rfl (zp (j := ((m + k : Nat) : Int)) rfl rfl rfl (Nat.zero_le _) rfl (congrArg I hv) (Int.natCast_nonneg _) (by omega)) rfl ?_) | (refine ym (x := .tmp 41) rfl ?_; refine zY rfl (by kernel_rfl) rfl (zp (j := ((m + k : Nat) : Int)) rfl rfl rfl (Nat.zero_le _) rfl (congrArg I hv) (Int.natCast_nonneg _) (by omega)) rfl ?_) | (refine yn (x := .tmp 45) ?_; refine zd rfl (zp (j := (P.length : Int)) rfl rfl rfl (Nat.zero_le _) rfl rfl (Int.natCast_nonneg _) (by omega)) rfl ?_) | (refine ym (x := .tmp 45) rfl ?_; refine zY rfl (by kernel_rfl) rfl (zp (j := (P.length : Int)) rfl rfl rfl (Nat.zero_le _) rfl rfl (Int.natCast_nonneg _) (by omega)) rfl ?_) | (refine w4 (x := .tmp 43) ?_; refine zd rfl (y7 (T := rwT) (i := 0 + (m + k)) (z := y) rfl rfl rfl gy) rfl ?_) | (refine vI (x := .tmp 43) rfl ?_; refine zY rfl (by kernel_rfl) rfl (y7 (T := rwT) (i := 0 + (m + k)) (z := y) rfl rfl rfl gy) rfl ?_) | (refine w4 (x := .tmp 47) ?_; refine zd rfl (y7 (T := rwT) (i := 0 + P.length) (z := x) rfl rfl rfl gx) rfl ?_) | (refine vI (x := .tmp 47) rfl ?_; refine zY rfl (by kernel_rfl) rfl (y7 (T := rwT) (i := 0 + P.length) (z := x) rfl rfl rfl gx) rfl ?_) | refine zd rfl (xb rfl rfl (xh y x) (.cons (.same rfl) (.cons (.same rfl) .nil)) rfl) rfl ?_ | refine zY rfl (by kernel_rfl) rfl (xb rfl rfl (xh y x) (.cons (.same rfl) (.cons (.same rfl) .nil)) rfl) rfl ?_ | refine zD ?_ | refine zB _ rfl (by kernel_rfl) ?_ | refine zV rfl ?_ | refine zW rfl ?_ | refine zC ?_ | with_reducible refine zM ?_ | refine zH ?_ | refine zI ?_ | (with_reducible first | refine zK ?_ | refine zL ?_ | refine zE ?_ | refine zG ?_ | refine zF ?_) | refine zN ?_
      refine zf rfl (fun p => ?_) (fun p => ?_)
      · have q := xj (xk.1 (of_decide_eq_true p))
        repeat' first | refine zJ ?_ | refine zA ?_ | refine zO [] ?_ | (refine isA ?_; refine zb rfl ?_) | (refine isL ?_; refine zU rfl (by kernel_rfl) rfl rfl ?_) | (refine za rfl ?_; refine zT rfl (by kernel_rfl) rfl rfl ?_) | refine zD ?_ | refine zB _ rfl (by kernel_rfl) ?_ | refine zV rfl ?_ | refine zW rfl ?_ | refine zC ?_ | with_reducible refine zM ?_ | refine zH ?_ | refine zI ?_ | (with_reducible first | refine zK ?_ | refine zL ?_ | refine zE ?_ | refine zG ?_ | refine zF ?_) | refine zN ?_
        refine ⟨⟨(k + 1, j), by simp only; omega, hj, fun z _ hz => by simp only [Nat.add_sub_cancel] at hz; rw [hy] at hz; cases hz; exact q, hhi⟩, by simp only; omega, ?_⟩
        exact yf 1 [0] rfl rfl yF (by decide) (.cons rfl rfl rfl rfl (zg (zR _ _)) .nil) (by
          repeat' first | exact zh | refine zc ?_ ?_ | exact zl | exact le_refl rfl | exact zm rfl rfl | exact yP (congrArg _ (show ((m + (k + 1) : Nat) : Int) = IntKind.i64.wrap (IntKind.i64.wrap (wS .u64 (IntKind.u64.wrap (IntKind.i64.wrap (((m + i : Nat) : Int) + ((m + j : Nat) : Int)))) 1) + 1) by rw [hv, IntKind.wrap_i64]; omega)))
      · have q : leW x y := Classical.byContradiction fun hn => absurd (xk.2 hn) (of_decide_eq_false p)
        repeat' first | refine zJ ?_ | refine zA ?_ | refine zO [] ?_ | (refine isA ?_; refine zb rfl ?_) | (refine isL ?_; refine zU rfl (by kernel_rfl) rfl rfl ?_) | (refine za rfl ?_; refine zT rfl (by kernel_rfl) rfl rfl ?_) | refine zD ?_ | refine zB _ rfl (by kernel_rfl) ?_ | refine zV rfl ?_ | refine zW rfl ?_ | refine zC ?_ | with_reducible refine zM ?_ | refine zH ?_ | refine zI ?_ | (with_reducible first | refine zK ?_ | refine zL ?_ | refine zE ?_ | refine zG ?_ | refine zF ?_) | refine zN ?_
        refine ⟨⟨(i, k), k1.1, by simp only; omega, hlo, fun z hz => by rw [hy] at hz; cases hz; exact q⟩, by simp only; omega, ?_⟩
        exact yf 1 [0] rfl rfl yF (by decide) (.cons rfl rfl rfl rfl (zg (zR _ _)) .nil) (by
          repeat' first | exact zh | refine zc ?_ ?_ | exact zl | exact le_refl rfl | exact zm rfl rfl | exact yP (congrArg _ hv.symm))
    · have e : i = j := by have := of_decide_eq_false h; simp only at this; omega
      subst e
      have hfin := uz hB hj hlo hhi
      have e1 : IntKind.i64.wrap (((m + i : Nat) : Int) - 1) = ((P.length + i : Nat) : Int) := by rw [IntKind.wrap_i64]; omega
      repeat' first | refine zJ ?_ | refine zA ?_ | refine zO [] ?_ | (refine isA ?_; refine zb rfl ?_) | (refine isL ?_; refine zU rfl (by kernel_rfl) rfl rfl ?_) | (refine za rfl ?_; refine zT rfl (by kernel_rfl) rfl rfl ?_) | refine zD ?_ | refine zB _ rfl (by kernel_rfl) ?_ | refine zV rfl ?_ | refine zW rfl ?_ | refine zC ?_ | with_reducible refine zM ?_ | refine zH ?_ | refine zI ?_ | (with_reducible first | refine zK ?_ | refine zL ?_ | refine zE ?_ | refine zG ?_ | refine zF ?_) | refine zN ?_
      refine zy (α := { t : Nat // t ≤ i }) (fun t => ⟨((.sl 0 0 L) :: .any :: .any :: .any :: .any :: .any :: .any :: .any :: .any :: .any :: (I ((m + i : Nat) : Int)) :: .any :: .any :: (I ((P.length + t.1 : Nat) : Int)) :: .any :: .any :: .any :: .any :: .any :: .any :: .any :: .any :: .any :: .any :: .any :: .any :: .any :: .any :: .any :: .any :: .any :: .any :: .any :: .any :: .any :: .any :: .any :: .any :: .any :: .any :: .any :: .any :: .any :: .any :: .any :: .any :: .any :: .any :: .any :: .any :: .any :: .any :: .any :: .any :: .any :: .any :: .any :: .any :: .any :: .any :: .any :: .any :: .any :: .any :: .any :: .any :: .any :: .any :: .any :: .any :: .any :: .any :: .any :: .any :: .any :: .any :: .any :: .any :: .any :: .any :: .any :: .any :: .any :: .any :: .any :: .any :: .any :: .any :: .any :: .any :: .any :: .any :: .any :: .any :: .any :: .any :: .any :: .any :: .any :: .any :: .any :: .any :: .any :: .any :: .any :: .any :: .any :: .any :: .any :: .any :: .any :: .any :: .any :: .any :: .any :: .any :: .any :: .any :: .any :: .any :: .any :: .any :: .any :: .any :: .any :: .any :: .any :: .any :: .any :: .any :: .any :: .any :: .any :: .any :: .any :: .any :: .any :: .any :: .any :: .any :: .any :: .any :: .any :: .any :: .any :: .any :: .any :: .any :: .any :: .any :: .any :: .any :: .any :: .any :: .any :: .any :: .any :: .any :: .any :: .any :: .any :: .any :: .any :: .any :: .any :: .any :: .any :: .any :: .any :: .any :: .any :: .any :: .any :: .any :: .any :: .any :: .any :: .any :: .any :: .any :: .any :: .any :: .any :: .any :: .any :: .any :: .any :: .any :: .any :: .any :: .any :: .any :: .any :: .any :: .any :: .any :: .any :: .any :: .any :: .any :: .any :: .any :: .any :: .any :: .any :: .any :: .any :: .any :: .any :: .any :: .any :: .any :: .any :: .any :: .any :: .any :: .any :: .any :: .any :: .any :: []), [rwR (upL P B Q x t.1)], 1⟩) (fun t => i - t.1) ⟨0, Nat.zero_le _⟩ ?_ ?_
      · exact yf 1 [0] rfl rfl yF (by decide) (.cons rfl rfl rfl rfl (yL (congrArg rwT.flat (by simp [upL])) (zR _ _)) .nil) (by repeat' first | exact zh | refine zc ?_ ?_ | exact zl | exact le_refl rfl | exact zm rfl rfl | exact zz rfl)
      · rintro ⟨t, ht⟩
        repeat' first | refine zJ ?_ | refine zA ?_ | refine zO [] ?_ | (refine isA ?_; refine zb rfl ?_) | (refine isL ?_; refine zU rfl (by kernel_rfl) rfl rfl ?_) | (refine za rfl ?_; refine zT rfl (by kernel_rfl) rfl rfl ?_) | refine zD ?_ | refine zB _ rfl (by kernel_rfl) ?_ | refine zV rfl ?_ | refine zW rfl ?_ | refine zC ?_ | with_reducible refine zM ?_ | refine zH ?_ | refine zI ?_ | (with_reducible first | refine zK ?_ | refine zL ?_ | refine zE ?_ | refine zG ?_ | refine zF ?_) | refine zN ?_
        refine zf rfl (fun q => ?_) (fun q => ?_)
        · have hlt : t < i := by have := of_decide_eq_true q; simp only [e1] at this; omega
          obtain ⟨y, hy⟩ : ∃ z, B[t]? = some z := ⟨_, List.getElem?_eq_getElem (by omega)⟩
          have hL1 : upL P B Q x t = (P ++ B.take t) ++ x :: y :: (B.drop (t + 1) ++ Q) := by rw [upL, yR hy]; rfl
          have hL2 : upL P B Q x (t + 1) = (P ++ B.take t) ++ y :: x :: (B.drop (t + 1) ++ Q) := by rw [upL, wo hy]; simp
          have hu : (P ++ B.take t).length = P.length + t := by simp; omega
          have e2 : IntKind.i64.wrap (((P.length + t : Nat) : Int) + 1) = ((P.length + t + 1 : Nat) : Int) := by rw [IntKind.wrap_i64]; omega
          have g0 : (upL P B Q x t)[0 + (P.length + t)]? = some x := by rw [hL1, List.getElem?_append_right (by omega), hu, show 0 + (P.length + t) - (P.length + t) = 0 by omega]; rfl
          have g1 : (upL P B Q x t)[0 + (P.length + t + 1)]? = some y := by rw [hL1, List.getElem?_append_right (by omega), hu, show 0 + (P.length + t + 1) - (P.length + t) = 1 by omega]; rfl
          repeat' first | refine zJ ?_ | refine zA ?_ | (refine isA ?_; refine zb rfl ?_) | (refine isL ?_; refine zU rfl (by kernel_rfl) rfl rfl ?_) | (refine za rfl ?_; refine zT rfl (by kernel_rfl) rfl rfl ?_) | refine zD ?_ | refine zB _ rfl (by kernel_rfl) ?_ | refine zV rfl ?_ | refine zW rfl ?_ | refine zC ?_ | with_reducible refine zM ?_ | refine zH ?_ | refine zI ?_ | (with_reducible first | refine zK ?_ | refine zL ?_ | refine zE ?_ | refine zG ?_ | refine zF ?_) | refine zN ?_
          refine tb [15, 17] 18 rfl ?_
          refine z9 0 rfl (by kernel_rfl) rfl (fun _ => rfl) rfl ?_
          refine z9 1 rfl (by kernel_rfl) rfl (fun _ => rfl) rfl ?_
          refine z9 2 rfl (by kernel_rfl) rfl (fun _ => rfl) rfl ?_
          refine z9 3 rfl (by kernel_rfl) rfl (fun _ => rfl) rfl ?_
          refine z9 4 rfl (by kernel_rfl) rfl (fun _ => rfl) rfl ?_
          refine z9 5 rfl (by kernel_rfl) rfl (fun _ => rfl) rfl ?_
          refine z9 6 rfl (by kernel_rfl) rfl (fun _ => rfl) rfl ?_
          refine z9 7 rfl (by kernel_rfl) rfl (fun _ => rfl) rfl ?_
          refine yv 8 rfl (by kernel_rfl) rfl (zp (j := ((P.length + t + 1 : Nat) : Int)) rfl rfl rfl (Nat.zero_le _) rfl (congrArg I e2) (Int.natCast_nonneg _) (by omega)) rfl ?_
          refine yv 9 rfl (by kernel_rfl) rfl (y7 (T := rwT) (i := 0 + (P.length + t + 1)) (z := y) rfl rfl rfl g1) rfl ?_
          refine z9 10 rfl (by kernel_rfl) rfl (fun _ => rfl) rfl ?_
          refine z9 11 rfl (by kernel_rfl) rfl (fun _ => rfl) rfl ?_
          refine yv 12 rfl (by kernel_rfl) rfl (zp (j := ((P.length + t : Nat) : Int)) rfl rfl rfl (Nat.zero_le _) rfl rfl (Int.natCast_nonneg _) (by omega)) rfl ?_
          refine yv 13 rfl (by kernel_rfl) rfl (y7 (T := rwT) (i := 0 + (P.length + t)) (z := x) rfl rfl rfl g0) rfl ?_
          refine yv 14 rfl (by kernel_rfl) rfl (zp (j := ((P.length + t : Nat) : Int)) rfl rfl rfl (Nat.zero_le _) rfl rfl (Int.natCast_nonneg _) (by omega)) rfl ?_
          refine uC 15 rfl (by kernel_rfl) rfl rfl (vA (T := rwT) (i := 0 + (P.length + t)) (z := y) rfl rfl rfl rfl rfl (List.getElem?_eq_some_iff.1 g0).1) rfl ?_
          refine yv 16 rfl (by kernel_rfl) rfl (zp (j := ((P.length + t + 1 : Nat) : Int)) rfl rfl rfl (Nat.zero_le _) rfl (congrArg I e2) (Int.natCast_nonneg _) (by omega)) rfl ?_
          refine uC 17 rfl (by kernel_rfl) rfl rfl (vA (T := rwT) (i := 0 + (P.length + t + 1)) (z := x) rfl rfl rfl rfl rfl (by rw [List.length_set]; exact (List.getElem?_eq_some_iff.1 g1).1)) rfl ?_
          refine vT (by kernel_rfl) ?_
          repeat' first | refine zJ ?_ | refine zA ?_ | refine zO [] ?_ | (refine isA ?_; refine zb rfl ?_) | (refine isL ?_; refine zU rfl (by kernel_rfl) rfl rfl ?_) | (refine za rfl ?_; refine zT rfl (by kernel_rfl) rfl rfl ?_) | refine zD ?_ | refine zB _ rfl (by kernel_rfl) ?_ | refine zV rfl ?_ | refine zW rfl ?_ | refine zC ?_ | with_reducible refine zM ?_ | refine zH ?_ | refine zI ?_ | (with_reducible first | refine zK ?_ | refine zL ?_ | refine zE ?_ | refine zG ?_ | refine zF ?_) | refine zN ?_
          refine ⟨⟨t + 1, hlt⟩, by simp only; omega, ?_⟩
          exact yf 1 [0] rfl rfl yF (by decide) (.cons rfl rfl rfl rfl (yL (show rwT.flat (((upL P B Q x t).set (0 + (P.length + t)) y).set (0 + (P.length + t + 1)) x) = rwT.flat (upL P B Q x (t + 1)) by rw [hL1, Nat.zero_add, Nat.zero_add, mS hu, hL2]) (zR _ _)) .nil) (by
            repeat' first | exact zh | refine zc ?_ ?_ | exact zl | exact le_refl rfl | exact zm rfl rfl | exact yP (congrArg _ (show ((P.length + (t + 1) : Nat) : Int) = IntKind.i64.wrap (((P.length + t : Nat) : Int) + 1) by rw [e2]; omega)))
        · have hge : t = i := by have := of_decide_eq_false q; simp only [e1] at this; omega
          subst hge
          have e3 : upL P B Q x t = P ++ zt ([x] ++ B) ++ Q := by rw [← hfin, upL]; simp
          repeat' first | refine zJ ?_ | refine zA ?_ | refine zO [] ?_ | (refine isA ?_; refine zb rfl ?_) | (refine isL ?_; refine zU rfl (by kernel_rfl) rfl rfl ?_) | (refine za rfl ?_; refine zT rfl (by kernel_rfl) rfl rfl ?_) | exact nT 1 [0] yF (by decide) (.cons rfl rfl rfl rfl (yL (congrArg rwT.flat e3) (zR _ _)) .nil) | refine zD ?_ | refine zB _ rfl (by kernel_rfl) ?_ | refine zV rfl ?_ | refine zW rfl ?_ | refine zC ?_ | with_reducible refine zM ?_ | refine zH ?_ | refine zI ?_ | (with_reducible first | refine zK ?_ | refine zL ?_ | refine zE ?_ | refine zG ?_ | refine zF ?_) | refine zN ?_
end Go.Proofs.Ytkcicbigpbdjpaa.Ab.Pr
namespace Go.Proofs.Ytkcicbigpbdjpaa.Ab.Pr
open Go.RowKit
theorem kU (P A Q : List Rw) (x : Rw) (hA : Srt A) (h0 : 2 ≤ A.length) (hl : (P ++ A ++ [x] ++ Q).length ≤ 100000000) : zn Go.Proofs.Try.prog 167 [.sl 0 0 (P ++ A ++ [x] ++ Q).length, I P.length, I (P ++ A).length, I (P ++ A ++ [x]).length, .fn 77 []] [rwR (P ++ A ++ [x] ++ Q)] (.tup []) [rwR (P ++ zt (A ++ [x]) ++ Q)] true := by
  have l1 : (P ++ A).length = P.length + A.length := by simp
  have l2 : (P ++ A ++ [x]).length = P.length + A.length + 1 := by simp; omega
  have l3 : (P ++ A ++ [x] ++ Q).length = P.length + A.length + 1 + Q.length := by simp; omega
  generalize hm : (P ++ A).length = m at l1 ⊢
  generalize hb : (P ++ A ++ [x]).length = b at l2 ⊢
  generalize hL : (P ++ A ++ [x] ++ Q).length = L at hl l3 ⊢
  refine zj [] Go.Proofs.Try.func167 rfl rfl ?_
  simp only [Go.Proofs.Try.ntmps167, List.length_cons, List.length_nil, Nat.reduceAdd, Nat.reduceSub, List.replicate_succ, List.replicate_zero, List.cons_append, List.nil_append]
  repeat' first | refine zJ ?_ | refine zA ?_ | refine zO [] ?_ | (refine isA ?_; refine zb rfl ?_) | (refine isL ?_; refine zU rfl (by kernel_rfl) rfl rfl ?_) | (refine za rfl ?_; refine zT rfl (by kernel_rfl) rfl rfl ?_) | refine zD ?_ | refine zB _ rfl (by kernel_rfl) ?_ | refine zV rfl ?_ | refine zW rfl ?_ | refine zC ?_ | with_reducible refine zM ?_ | refine zH ?_ | refine zI ?_ | (with_reducible first | refine zK ?_ | refine zL ?_ | refine zE ?_ | refine zG ?_ | refine zF ?_) | refine zN ?_
  refine zf rfl (fun h => absurd (of_decide_eq_true h) (by rw [IntKind.wrap_i64]; omega)) (fun _ => ?_)
  repeat' first | refine zJ ?_ | refine zA ?_ | refine zO [] ?_ | (refine isA ?_; refine zb rfl ?_) | (refine isL ?_; refine zU rfl (by kernel_rfl) rfl rfl ?_) | (refine za rfl ?_; refine zT rfl (by kernel_rfl) rfl rfl ?_) | refine zD ?_ | refine zB _ rfl (by kernel_rfl) ?_ | refine zV rfl ?_ | refine zW rfl ?_ | refine zC ?_ | with_reducible refine zM ?_ | refine zH ?_ | refine zI ?_ | (with_reducible first | refine zK ?_ | refine zL ?_ | refine zE ?_ | refine zG ?_ | refine zF ?_) | refine zN ?_
  refine zf rfl (fun _ => ?_) (fun h => absurd (of_decide_eq_false h) (by rw [IntKind.wrap_i64]; omega))
  repeat' first | refine zJ ?_ | refine zA ?_ | refine zO [] ?_ | (refine isA ?_; refine zb rfl ?_) | (refine isL ?_; refine zU rfl (by kernel_rfl) rfl rfl ?_) | (refine za rfl ?_; refine zT rfl (by kernel_rfl) rfl rfl ?_) | refine zD ?_ | refine zB _ rfl (by kernel_rfl) ?_ | refine zV rfl ?_ | refine zW rfl ?_ | refine zC ?_ | with_reducible refine zM ?_ | refine zH ?_ | refine zI ?_ | (with_reducible first | refine zK ?_ | refine zL ?_ | refine zE ?_ | refine zG ?_ | refine zF ?_) | refine zN ?_
  refine zy (α := { p : Nat × Nat // p.1 ≤ p.2 ∧ p.2 ≤ A.length ∧ (∀ z, 0 < p.1 → A[p.1 - 1]? = some z → leW z x) ∧ (∀ z, A[p.2]? = some z → leW x z) }) (fun p => ⟨((.sl 0 0 L) :: (I P.length) :: (I m) :: (I b) :: (.fn 77 []) :: .any :: .any :: .any :: .any :: .any :: .any :: .any :: .any :: .any :: (I ((P.length + p.1.1 : Nat) : Int)) :: (I ((P.length + p.1.2 : Nat) : Int)) :: .any :: .any :: .any :: .any :: .any :: .any :: .any :: .any :: .any :: .any :: .any :: .any :: .any :: .any :: .any :: .any :: .any :: .any :: .any :: .any :: .any :: .any :: .any :: .any :: .any :: .any :: .any :: .any :: .any :: .any :: .any :: .any :: .any :: .any :: .any :: .any :: .any :: .any :: .any :: .any :: .any :: .any :: .any :: .any :: .any :: .any :: .any :: .any :: .any :: .any :: .any :: .any :: .any :: .any :: .any :: .any :: .any :: .any :: .any :: .any :: .any :: .any :: .any :: .any :: .any :: .any :: .any :: .any :: .any :: .any :: .any :: .any :: .any :: .any :: .any :: .any :: .any :: .any :: .any :: .any :: .any :: .any :: .any :: .any :: .any :: .any :: .any :: .any :: .any :: .any :: .any :: .any :: .any :: .any :: .any :: .any :: .any :: .any :: .any :: .any :: .any :: .any :: .any :: .any :: .any :: .any :: .any :: .any :: .any :: .any :: .any :: .any :: .any :: .any :: .any :: .any :: .any :: .any :: .any :: .any :: .any :: .any :: .any :: .any :: .any :: .any :: .any :: .any :: .any :: .any :: .any :: .any :: .any :: .any :: .any :: .any :: .any :: .any :: .any :: .any :: .any :: .any :: .any :: .any :: .any :: .any :: .any :: .any :: .any :: .any :: .any :: .any :: .any :: .any :: .any :: .any :: .any :: .any :: .any :: .any :: .any :: .any :: .any :: .any :: .any :: .any :: .any :: .any :: .any :: .any :: .any :: .any :: .any :: .any :: .any :: .any :: .any :: .any :: .any :: .any :: .any :: .any :: .any :: .any :: .any :: .any :: .any :: .any :: .any :: .any :: .any :: .any :: .any :: .any :: .any :: .any :: .any :: .any :: .any :: .any :: .any :: .any :: .any :: .any :: []), [rwR (P ++ A ++ [x] ++ Q)], 1⟩) (fun p => p.1.2 - p.1.1) ⟨(0, A.length), Nat.zero_le _, Nat.le_refl _, fun _ h => absurd h (Nat.lt_irrefl 0), fun z hz => absurd (List.getElem?_eq_some_iff.1 hz).1 (Nat.lt_irrefl _)⟩ ?_ ?_
  · exact yf 1 [0] rfl rfl yF (by decide) (.cons rfl rfl rfl rfl (zg (zR _ _)) .nil) (by
          repeat' first | exact zh | refine zc ?_ ?_ | exact zl | exact le_refl rfl | exact zm rfl rfl | exact yP (congrArg _ (show ((P.length + A.length : Nat) : Int) = (m : Int) by omega)))
  · rintro ⟨⟨i, j⟩, hij, hj, hlo, hhi⟩
    simp only at hij hj hlo hhi
    repeat' first | refine zJ ?_ | refine zA ?_ | refine zO [] ?_ | (refine isA ?_; refine zb rfl ?_) | (refine isL ?_; refine zU rfl (by kernel_rfl) rfl rfl ?_) | (refine za rfl ?_; refine zT rfl (by kernel_rfl) rfl rfl ?_) | refine zD ?_ | refine zB _ rfl (by kernel_rfl) ?_ | refine zV rfl ?_ | refine zW rfl ?_ | refine zC ?_ | with_reducible refine zM ?_ | refine zH ?_ | refine zI ?_ | (with_reducible first | refine zK ?_ | refine zL ?_ | refine zE ?_ | refine zG ?_ | refine zF ?_) | refine zN ?_
    refine zf rfl (fun h => ?_) (fun h => ?_)
    · have hlt : i < j := by have := of_decide_eq_true h; simp only at this; omega
      obtain ⟨k, hk⟩ : ∃ k, k = (i + j) / 2 := ⟨_, rfl⟩
      have k1 : i ≤ k ∧ k < j := by omega
      have hv : IntKind.i64.wrap (wS .u64 (IntKind.u64.wrap (IntKind.i64.wrap (((P.length + i : Nat) : Int) + ((P.length + j : Nat) : Int)))) 1) = ((P.length + k : Nat) : Int) := by
        rw [vZ (by omega)]; omega
      obtain ⟨y, hy⟩ : ∃ z, A[k]? = some z := ⟨_, List.getElem?_eq_getElem (by omega)⟩
      have gy : (P ++ A ++ [x] ++ Q)[0 + (P.length + k)]? = some y := by
        rw [List.append_assoc, List.getElem?_append_left (by omega), List.getElem?_append_right (by omega), show 0 + (P.length + k) - P.length = k by omega]; exact hy
      have gx : (P ++ A ++ [x] ++ Q)[0 + m]? = some x := by
        rw [List.append_assoc, List.getElem?_append_right (by omega), hm, show 0 + m - m = 0 by omega]; rfl
      repeat' first | refine zJ ?_ | refine zA ?_ | refine zO [] ?_ | (refine isA ?_; refine zb rfl ?_) | (refine isL ?_; refine zU rfl (by kernel_rfl) rfl rfl ?_) | (refine za rfl ?_; refine zT rfl (by kernel_rfl) rfl rfl ?_) | refine zd rfl (y5 (n := 1) rfl rfl rfl) rfl ?_ | refine zY rfl (by kernel_rfl) rfl (y5 (n := 1) rfl rfl rfl) rfl ?_ | (refine yn (x := .tmp 97) ?_; refine zd rfl (zp (j := ((P.length + k : Nat) : Int)) rfl rfl rfl (Nat.zero_le _) rfl (congrArg I hv) (Int.natCast_nonneg _) (by omega)) rfl ?_) | (refine ym (x := .tmp 97) rfl ?_; refine zY rfl (by kernel_rfl) rfl (zp (j := ((P.length + k : Nat) : Int)) rfl rfl rfl (Nat.zero_le _) rfl (congrArg I hv) (Int.natCast_nonneg _) (by omega)) rfl ?_) | (refine yn (x := .tmp 93) ?_; refine zd rfl (zp (j := (m : Int)) rfl rfl rfl (Nat.zero_le _) rfl rfl (Int.natCast_nonneg _) (by omega)) rfl ?_) | (refine ym (x := .tmp 93) rfl ?_; refine zY rfl (by kernel_rfl) rfl (zp (j := (m : Int)) rfl rfl rfl (Nat.zero_le _) rfl rfl (Int.natCast_nonneg _) (by omega)) rfl ?_) | (refine w4 (x := .tmp 99) ?_; refine zd rfl (y7 (T := rwT) (i := 0 + (P.length + k)) (z := y) rfl rfl rfl gy) rfl ?_) | (refine vI (x := .tmp 99) rfl ?_; refine zY rfl (by kernel_rfl) rfl (y7 (T := rwT) (i := 0 + (P.length + k)) (z := y) rfl rfl rfl gy) rfl ?_) | (refine w4 (x := .tmp 95) ?_; refine zd rfl (y7 (T := rwT) (i := 0 + m) (z := x) rfl rfl rfl gx) rfl ?_) | (refine vI (x := .tmp 95) rfl ?_; refine zY rfl (by kernel_rfl) rfl (y7 (T := rwT) (i := 0 + m) (z := x) rfl rfl rfl gx) rfl ?_) | refine zd rfl (xb rfl rfl (xh x y) (.cons (.same rfl) (.cons (.same rfl) .nil)) rfl) rfl ?_ | refine zY rfl (by kernel_rfl) rfl (xb rfl rfl (xh x y) (.cons (.same rfl) (.cons (.same rfl) .nil)) rfl) rfl ?_ | refine zD ?_ | refine zB _ rfl (by kernel_rfl) ?_ | refine zV rfl ?_ | refine zW rfl ?_ | refine zC ?_ | with_reducible refine zM ?_ | refine zH ?_ | refine zI ?_ | (with_reducible first | refine zK ?_ | refine zL ?_ | refine zE ?_ | refine zG ?_ | refine zF ?_) | refine zN ?_
      refine zf rfl (fun p => ?_) (fun p => ?_)
      · have p' : decide (yM x y < 0) = false := by simpa using p
        have q : leW y x := Classical.byContradiction fun hn => absurd (xk.2 hn) (of_decide_eq_false p')
        repeat' first | refine zJ ?_ | refine zA ?_ | refine zO [] ?_ | (refine isA ?_; refine zb rfl ?_) | (refine isL ?_; refine zU rfl (by kernel_rfl) rfl rfl ?_) | (refine za rfl ?_; refine zT rfl (by kernel_rfl) rfl rfl ?_) | refine zD ?_ | refine zB _ rfl (by kernel_rfl) ?_ | refine zV rfl ?_ | refine zW rfl ?_ | refine zC ?_ | with_reducible refine zM ?_ | refine zH ?_ | refine zI ?_ | (with_reducible first | refine zK ?_ | refine zL ?_ | refine zE ?_ | refine zG ?_ | refine zF ?_) | refine zN ?_
        refine ⟨⟨(k + 1, j), by simp only; omega, hj, fun z _ hz => by simp only [Nat.add_sub_cancel] at hz; rw [hy] at hz; cases hz; exact q, hhi⟩, by simp only; omega, ?_⟩
        exact yf 1 [0] rfl rfl yF (by decide) (.cons rfl rfl rfl rfl (zg (zR _ _)) .nil) (by
          repeat' first | exact zh | refine zc ?_ ?_ | exact zl | exact le_refl rfl | exact zm rfl rfl | exact yP (congrArg _ (show ((P.length + (k + 1) : Nat) : Int) = IntKind.i64.wrap (IntKind.i64.wrap (wS .u64 (IntKind.u64.wrap (IntKind.i64.wrap (((P.length + i : Nat) : Int) + ((P.length + j : Nat) : Int)))) 1) + 1) by rw [hv, IntKind.wrap_i64]; omega)))
      · have p' : decide (yM x y < 0) = true := by simpa using p
        have q := xj (xk.1 (of_decide_eq_true p'))
        repeat' first | refine zJ ?_ | refine zA ?_ | refine zO [] ?_ | (refine isA ?_; refine zb rfl ?_) | (refine isL ?_; refine zU rfl (by kernel_rfl) rfl rfl ?_) | (refine za rfl ?_; refine zT rfl (by kernel_rfl) rfl rfl ?_) | refine zD ?_ | refine zB _ rfl (by kernel_rfl) ?_ | refine zV rfl ?_ | refine zW rfl ?_ | refine zC ?_ | with_reducible refine zM ?_ | refine zH ?_ | refine zI ?_ | (with_reducible first | refine zK ?_ | refine zL ?_ | refine zE ?_ | refine zG ?_ | refine zF ?_) | refine zN ?_
        refine ⟨⟨(i, k), k1.1, by simp only; omega, hlo, fun z hz => by rw [hy] at hz; cases hz; exact q⟩, by simp only; omega, ?_⟩
        exact yf 1 [0] rfl rfl yF (by decide) (.cons rfl rfl rfl rfl (zg (zR _ _)) .nil) (by
          repeat' first | exact zh | refine zc ?_ ?_ | exact zl | exact le_refl rfl | exact zm rfl rfl | exact yP (congrArg _ hv.symm))
    · have e : i = j := by have := of_decide_eq_false h; simp only at this; omega
      subst e
      have hfin := px hA hj hlo hhi
      repeat' first | refine zJ ?_ | refine zA ?_ | refine zO [] ?_ | (refine isA ?_; refine zb rfl ?_) | (refine isL ?_; refine zU rfl (by kernel_rfl) rfl rfl ?_) | (refine za rfl ?_; refine zT rfl (by kernel_rfl) rfl rfl ?_) | refine zD ?_ | refine zB _ rfl (by kernel_rfl) ?_ | refine zV rfl ?_ | refine zW rfl ?_ | refine zC ?_ | with_reducible refine zM ?_ | refine zH ?_ | refine zI ?_ | (with_reducible first | refine zK ?_ | refine zL ?_ | refine zE ?_ | refine zG ?_ | refine zF ?_) | refine zN ?_
      refine zy (α := { t : Nat // i ≤ t ∧ t ≤ A.length }) (fun t => ⟨((.sl 0 0 L) :: .any :: .any :: .any :: .any :: .any :: .any :: .any :: .any :: .any :: .any :: .any :: .any :: .any :: (I ((P.length + i : Nat) : Int)) :: .any :: .any :: (I ((P.length + t.1 : Nat) : Int)) :: .any :: .any :: .any :: .any :: .any :: .any :: .any :: .any :: .any :: .any :: .any :: .any :: .any :: .any :: .any :: .any :: .any :: .any :: .any :: .any :: .any :: .any :: .any :: .any :: .any :: .any :: .any :: .any :: .any :: .any :: .any :: .any :: .any :: .any :: .any :: .any :: .any :: .any :: .any :: .any :: .any :: .any :: .any :: .any :: .any :: .any :: .any :: .any :: .any :: .any :: .any :: .any :: .any :: .any :: .any :: .any :: .any :: .any :: .any :: .any :: .any :: .any :: .any :: .any :: .any :: .any :: .any :: .any :: .any :: .any :: .any :: .any :: .any :: .any :: .any :: .any :: .any :: .any :: .any :: .any :: .any :: .any :: .any :: .any :: .any :: .any :: .any :: .any :: .any :: .any :: .any :: .any :: .any :: .any :: .any :: .any :: .any :: .any :: .any :: .any :: .any :: .any :: .any :: .any :: .any :: .any :: .any :: .any :: .any :: .any :: .any :: .any :: .any :: .any :: .any :: .any :: .any :: .any :: .any :: .any :: .any :: .any :: .any :: .any :: .any :: .any :: .any :: .any :: .any :: .any :: .any :: .any :: .any :: .any :: .any :: .any :: .any :: .any :: .any :: .any :: .any :: .any :: .any :: .any :: .any :: .any :: .any :: .any :: .any :: .any :: .any :: .any :: .any :: .any :: .any :: .any :: .any :: .any :: .any :: .any :: .any :: .any :: .any :: .any :: .any :: .any :: .any :: .any :: .any :: .any :: .any :: .any :: .any :: .any :: .any :: .any :: .any :: .any :: .any :: .any :: .any :: .any :: .any :: .any :: .any :: .any :: .any :: .any :: .any :: .any :: .any :: .any :: .any :: .any :: .any :: .any :: .any :: .any :: .any :: .any :: .any :: .any :: []), [rwR (upL P A Q x t.1)], 1⟩) (fun t => t.1) ⟨A.length, hj, Nat.le_refl _⟩ ?_ ?_
      · exact yf 1 [0] rfl rfl yF (by decide) (.cons rfl rfl rfl rfl (yL (congrArg rwT.flat (by simp [upL])) (zR _ _)) .nil) (by
          repeat' first | exact zh | refine zc ?_ ?_ | exact zl | exact le_refl rfl | exact zm rfl rfl | exact yP (congrArg _ (show ((P.length + A.length : Nat) : Int) = (m : Int) by omega)))
      · rintro ⟨t', ht1, ht2⟩
        repeat' first | refine zJ ?_ | refine zA ?_ | refine zO [] ?_ | (refine isA ?_; refine zb rfl ?_) | (refine isL ?_; refine zU rfl (by kernel_rfl) rfl rfl ?_) | (refine za rfl ?_; refine zT rfl (by kernel_rfl) rfl rfl ?_) | refine zD ?_ | refine zB _ rfl (by kernel_rfl) ?_ | refine zV rfl ?_ | refine zW rfl ?_ | refine zC ?_ | with_reducible refine zM ?_ | refine zH ?_ | refine zI ?_ | (with_reducible first | refine zK ?_ | refine zL ?_ | refine zE ?_ | refine zG ?_ | refine zF ?_) | refine zN ?_
        refine zf rfl (fun q => ?_) (fun q => ?_)
        · have hlt : i < t' := by have := of_decide_eq_true q; simp only at this; omega
          obtain ⟨t, rfl⟩ : ∃ t, t' = t + 1 := ⟨t' - 1, by omega⟩
          obtain ⟨y, hy⟩ : ∃ z, A[t]? = some z := ⟨_, List.getElem?_eq_getElem (by omega)⟩
          have hL1 : upL P A Q x (t + 1) = (P ++ A.take t) ++ y :: x :: (A.drop (t + 1) ++ Q) := by rw [upL, wo hy]; simp
          have hL2 : upL P A Q x t = (P ++ A.take t) ++ x :: y :: (A.drop (t + 1) ++ Q) := by rw [upL, yR hy]; rfl
          have hu : (P ++ A.take t).length = P.length + t := by simp; omega
          have ew : IntKind.i64.wrap (((P.length + (t + 1) : Nat) : Int) - 1) = ((P.length + t : Nat) : Int) := by rw [IntKind.wrap_i64]; omega
          have g0 : (upL P A Q x (t + 1))[0 + (P.length + t)]? = some y := by rw [hL1, List.getElem?_append_right (by omega), hu, show 0 + (P.length + t) - (P.length + t) = 0 by omega]; rfl
          have g1 : (upL P A Q x (t + 1))[0 + (P.length + t + 1)]? = some x := by rw [hL1, List.getElem?_append_right (by omega), hu, show 0 + (P.length + t + 1) - (P.length + t) = 1 by omega]; rfl
          repeat' first | refine zJ ?_ | refine zA ?_ | (refine isA ?_; refine zb rfl ?_) | (refine isL ?_; refine zU rfl (by kernel_rfl) rfl rfl ?_) | (refine za rfl ?_; refine zT rfl (by kernel_rfl) rfl rfl ?_) | refine zD ?_ | refine zB _ rfl (by kernel_rfl) ?_ | refine zV rfl ?_ | refine zW rfl ?_ | refine zC ?_ | with_reducible refine zM ?_ | refine zH ?_ | refine zI ?_ | (with_reducible first | refine zK ?_ | refine zL ?_ | refine zE ?_ | refine zG ?_ | refine zF ?_) | refine zN ?_
          refine tb [15, 17] 18 rfl ?_
          refine z9 0 rfl (by kernel_rfl) rfl (fun _ => rfl) rfl ?_
          refine z9 1 rfl (by kernel_rfl) rfl (fun _ => rfl) rfl ?_
          refine z9 2 rfl (by kernel_rfl) rfl (fun _ => rfl) rfl ?_
          refine z9 3 rfl (by kernel_rfl) rfl (fun _ => rfl) rfl ?_
          refine z9 4 rfl (by kernel_rfl) rfl (fun _ => rfl) rfl ?_
          refine z9 5 rfl (by kernel_rfl) rfl (fun _ => rfl) rfl ?_
          refine z9 6 rfl (by kernel_rfl) rfl (fun _ => rfl) rfl ?_
          refine z9 7 rfl (by kernel_rfl) rfl (fun _ => rfl) rfl ?_
          refine yv 8 rfl (by kernel_rfl) rfl (zp (j := ((P.length + t : Nat) : Int)) rfl rfl rfl (Nat.zero_le _) rfl (congrArg I ew) (Int.natCast_nonneg _) (by omega)) rfl ?_
          refine yv 9 rfl (by kernel_rfl) rfl (y7 (T := rwT) (i := 0 + (P.length + t)) (z := y) rfl rfl rfl g0) rfl ?_
          refine z9 10 rfl (by kernel_rfl) rfl (fun _ => rfl) rfl ?_
          refine z9 11 rfl (by kernel_rfl) rfl (fun _ => rfl) rfl ?_
          refine yv 12 rfl (by kernel_rfl) rfl (zp (j := ((P.length + t + 1 : Nat) : Int)) rfl rfl rfl (Nat.zero_le _) rfl rfl (Int.natCast_nonneg _) (by omega)) rfl ?_
          refine yv 13 rfl (by kernel_rfl) rfl (y7 (T := rwT) (i := 0 + (P.length + t + 1)) (z := x) rfl rfl rfl g1) rfl ?_
          refine yv 14 rfl (by kernel_rfl) rfl (zp (j := ((P.length + t + 1 : Nat) : Int)) rfl rfl rfl (Nat.zero_le _) rfl rfl (Int.natCast_nonneg _) (by omega)) rfl ?_
          refine uC 15 rfl (by kernel_rfl) rfl rfl (vA (T := rwT) (i := 0 + (P.length + t + 1)) (z := y) rfl rfl rfl rfl rfl (List.getElem?_eq_some_iff.1 g1).1) rfl ?_
          refine yv 16 rfl (by kernel_rfl) rfl (zp (j := ((P.length + t : Nat) : Int)) rfl rfl rfl (Nat.zero_le _) rfl (congrArg I ew) (Int.natCast_nonneg _) (by omega)) rfl ?_
          refine uC 17 rfl (by kernel_rfl) rfl rfl (vA (T := rwT) (i := 0 + (P.length + t)) (z := x) rfl rfl rfl rfl rfl (by rw [List.length_set]; exact (List.getElem?_eq_some_iff.1 g0).1)) rfl ?_
          refine vT (by kernel_rfl) ?_
          repeat' first | refine zJ ?_ | refine zA ?_ | refine zO [] ?_ | (refine isA ?_; refine zb rfl ?_) | (refine isL ?_; refine zU rfl (by kernel_rfl) rfl rfl ?_) | (refine za rfl ?_; refine zT rfl (by kernel_rfl) rfl rfl ?_) | refine zD ?_ | refine zB _ rfl (by kernel_rfl) ?_ | refine zV rfl ?_ | refine zW rfl ?_ | refine zC ?_ | with_reducible refine zM ?_ | refine zH ?_ | refine zI ?_ | (with_reducible first | refine zK ?_ | refine zL ?_ | refine zE ?_ | refine zG ?_ | refine zF ?_) | refine zN ?_
          refine ⟨⟨t, by omega, by omega⟩, by simp only; omega, ?_⟩
          exact yf 1 [0] rfl rfl yF (by decide) (.cons rfl rfl rfl rfl (yL (show rwT.flat (((upL P A Q x (t + 1)).set (0 + (P.length + t + 1)) y).set (0 + (P.length + t)) x) = rwT.flat (upL P A Q x t) by rw [hL1, Nat.zero_add, Nat.zero_add, sy hu, hL2]) (zR _ _)) .nil) (by
          repeat' first | exact zh | refine zc ?_ ?_ | exact zl | exact le_refl rfl | exact zm rfl rfl | exact yP (congrArg _ ew.symm))
        · have hge : t' = i := by have := of_decide_eq_false q; simp only at this; omega
          subst hge
          have e3 : upL P A Q x t' = P ++ zt (A ++ [x]) ++ Q := by rw [← hfin, upL]; simp
          repeat' first | refine zJ ?_ | refine zA ?_ | refine zO [] ?_ | (refine isA ?_; refine zb rfl ?_) | (refine isL ?_; refine zU rfl (by kernel_rfl) rfl rfl ?_) | (refine za rfl ?_; refine zT rfl (by kernel_rfl) rfl rfl ?_) | exact nT 1 [0] yF (by decide) (.cons rfl rfl rfl rfl (yL (congrArg rwT.flat e3) (zR _ _)) .nil) | refine zD ?_ | refine zB _ rfl (by kernel_rfl) ?_ | refine zV rfl ?_ | refine zW rfl ?_ | refine zC ?_ | with_reducible refine zM ?_ | refine zH ?_ | refine zI ?_ | (with_reducible first | refine zK ?_ | refine zL ?_ | refine zE ?_ | refine zG ?_ | refine zF ?_) | refine zN ?_
end Go.Proofs.Ytkcicbigpbdjpaa.Ab.Pr
namespace Go.Proofs.Ytkcicbigpbdjpaa.Ab.Pr
open Go.RowKit
theorem v8 {P : Program} (id : Nat) {ops : Array Oper} {b : Bool} {c y : Code} {Q : Exit → St → Prop} {S : St} (T : St) (h : AW P (.seq (.region id ops b) c) (fun e S' => e = .normal ∧ Sub T S') S) (k : AW P y Q T) : AW P (.seq (.seq (.region id ops b) c) y) Q S :=
  zJ ⟨fun C φ a w hI => wp_mono (h.out C φ a w hI) fun e a' w' hq => by
    obtain ⟨S', φ1, hI', he, hs⟩ := hq
    subst he
    obtain ⟨φ2, h2⟩ := hs C φ1 a' w' hI'
    exact ⟨T, φ2, h2, k⟩⟩
theorem kX {ds rs : List Rw} {L : Nat} {a m b : Int} (P X Y Q : List Rw) (hd : ds = P ++ X ++ Y ++ Q) (hL : L = ds.length) (hl : L ≤ 100000000) (ha : a = (P.length : Int)) (hm : m = ((P ++ X).length : Int)) (hb : b = ((P ++ X ++ Y).length : Int)) (hx : 0 < X.length) (hy : 0 < Y.length) (hr : rs = P ++ Y ++ X ++ Q) :
    zn Go.Proofs.Try.prog 179 [.sl 0 0 L, I a, I m, I b, .fn 77 []] [rwR ds] (.tup []) [rwR rs] true := by
  subst hd hL ha hm hb hr
  exact mB P X Y Q hx hy hl
def pV (P A B Q : List Rw) : Prop := zn Go.Proofs.Try.prog 167 [.sl 0 0 (P ++ A ++ B ++ Q).length, I P.length, I (P ++ A).length, I (P ++ A ++ B).length, .fn 77 []] [rwR (P ++ A ++ B ++ Q)] (.tup []) [rwR (P ++ zt (A ++ B) ++ Q)] true
theorem pV.x {ds rs : List Rw} {L : Nat} {a m b : Int} {P A B Q : List Rw} (h : pV P A B Q) (hd : ds = P ++ A ++ B ++ Q) (hL : L = ds.length) (ha : a = (P.length : Int)) (hm : m = ((P ++ A).length : Int)) (hb : b = ((P ++ A ++ B).length : Int)) (hr : rs = P ++ zt (A ++ B) ++ Q) :
    zn Go.Proofs.Try.prog 167 [.sl 0 0 L, I a, I m, I b, .fn 77 []] [rwR ds] (.tup []) [rwR rs] true := by
  subst hd hL ha hm hb hr
  exact h
theorem wq {A B : List Rw} (hA : Srt A) (hB : Srt B) (h : A.length = 0 ∨ B.length = 0) : A ++ B = zt (A ++ B) := by
  rcases h with h | h
  · rw [List.eq_nil_of_length_eq_zero h, List.nil_append, s5 hB]
  · rw [List.eq_nil_of_length_eq_zero h, List.append_nil, s5 hA]
theorem kT (P A B Q : List Rw) (hA : Srt A) (hB : Srt B) (h0 : 2 ≤ A.length) (h1 : 2 ≤ B.length) (hl : (P ++ A ++ B ++ Q).length ≤ 100000000)
    (IH : ∀ P' A' B' Q', A'.length + B'.length < A.length + B.length → Srt A' → Srt B' → 0 < A'.length → 0 < B'.length → (P' ++ A' ++ B' ++ Q').length ≤ 100000000 → pV P' A' B' Q') : pV P A B Q := by
  unfold pV
  have l1 : (P ++ A).length = P.length + A.length := by simp
  have l2 : (P ++ A ++ B).length = P.length + A.length + B.length := by simp; omega
  have l3 : (P ++ A ++ B ++ Q).length = P.length + A.length + B.length + Q.length := by simp; omega
  obtain ⟨w, hw⟩ : ∃ w, w = (A.length + B.length) / 2 := ⟨_, rfl⟩
  have hds : ∀ k x, A[k]? = some x → (P ++ A ++ B ++ Q)[0 + (P.length + k)]? = some x := fun k x hx => by
    have := (List.getElem?_eq_some_iff.1 hx).1
    rw [List.getElem?_append_left (by omega), List.getElem?_append_left (by omega), List.getElem?_append_right (by omega), show 0 + (P.length + k) - P.length = k by omega]; exact hx
  have hdb : ∀ k x, B[k]? = some x → (P ++ A ++ B ++ Q)[0 + (P.length + A.length + k)]? = some x := fun k x hx => by
    have := (List.getElem?_eq_some_iff.1 hx).1
    rw [List.getElem?_append_left (by omega), List.getElem?_append_right (by omega), l1, show 0 + (P.length + A.length + k) - (P.length + A.length) = k by omega]; exact hx
  have eds : P ++ A ++ B ++ Q = P ++ A ++ B ++ Q := rfl
  generalize hm : (P ++ A).length = m at l1 ⊢
  generalize hb : (P ++ A ++ B).length = b at l2 ⊢
  generalize hL : (P ++ A ++ B ++ Q).length = L at hl l3 ⊢
  generalize hD : P ++ A ++ B ++ Q = D at hds hdb hL ⊢
  generalize ha : P.length = a at hds hdb l1 l2 l3 ⊢
  have hv : IntKind.i64.wrap (wS .u64 (IntKind.u64.wrap (IntKind.i64.wrap ((a : Int) + (b : Int)))) 1) = ((a + w : Nat) : Int) := by rw [vZ (by omega)]; omega
  refine zj [] Go.Proofs.Try.func167 rfl rfl ?_
  simp only [Go.Proofs.Try.ntmps167, List.length_cons, List.length_nil, Nat.reduceAdd, Nat.reduceSub, List.replicate_succ, List.replicate_zero, List.cons_append, List.nil_append]
  repeat' first | refine zJ ?_ | refine zA ?_ | refine zO [] ?_ | (refine isA ?_; refine zb rfl ?_) | (refine isL ?_; refine zU rfl (by kernel_rfl) rfl rfl ?_) | (refine za rfl ?_; refine zT rfl (by kernel_rfl) rfl rfl ?_) | refine zD ?_ | refine zB _ rfl (by kernel_rfl) ?_ | refine zV rfl ?_ | refine zW rfl ?_ | refine zC ?_ | with_reducible refine zM ?_ | refine zH ?_ | refine zI ?_ | (with_reducible first | refine zK ?_ | refine zL ?_ | refine zE ?_ | refine zG ?_ | refine zF ?_) | refine zN ?_
  refine zf rfl (fun h => absurd (of_decide_eq_true h) (by rw [IntKind.wrap_i64]; omega)) (fun _ => ?_)
  repeat' first | refine zJ ?_ | refine zA ?_ | refine zO [] ?_ | (refine isA ?_; refine zb rfl ?_) | (refine isL ?_; refine zU rfl (by kernel_rfl) rfl rfl ?_) | (refine za rfl ?_; refine zT rfl (by kernel_rfl) rfl rfl ?_) | refine zD ?_ | refine zB _ rfl (by kernel_rfl) ?_ | refine zV rfl ?_ | refine zW rfl ?_ | refine zC ?_ | with_reducible refine zM ?_ | refine zH ?_ | refine zI ?_ | (with_reducible first | refine zK ?_ | refine zL ?_ | refine zE ?_ | refine zG ?_ | refine zF ?_) | refine zN ?_
  refine zf rfl (fun h => absurd (of_decide_eq_true h) (by rw [IntKind.wrap_i64]; omega)) (fun _ => ?_)
  repeat' first | (refine v8 27 ⟨((.sl 0 0 L) :: (I a) :: (I m) :: (I b) :: (.fn 77 []) :: .any :: .any :: .any :: .any :: .any :: .any :: .any :: .any :: .any :: .any :: .any :: .any :: .any :: (I ((a + w : Nat) : Int)) :: (I ((a + w + m : Nat) : Int)) :: (I ((a + (w - B.length) : Nat) : Int)) :: (I ((a + min A.length w : Nat) : Int)) :: .any :: .any :: .any :: .any :: .any :: .any :: .any :: .any :: .any :: .any :: .any :: .any :: .any :: .any :: .any :: .any :: .any :: .any :: .any :: .any :: .any :: .any :: .any :: .any :: .any :: .any :: .any :: .any :: .any :: .any :: .any :: .any :: .any :: .any :: .any :: .any :: .any :: .any :: .any :: .any :: .any :: .any :: .any :: .any :: .any :: .any :: .any :: .any :: .any :: .any :: .any :: .any :: .any :: .any :: .any :: .any :: .any :: .any :: .any :: .any :: .any :: .any :: .any :: .any :: .any :: .any :: .any :: .any :: .any :: .any :: .any :: .any :: .any :: .any :: .any :: .any :: .any :: .any :: .any :: .any :: .any :: .any :: .any :: .any :: .any :: .any :: .any :: .any :: .any :: .any :: .any :: .any :: .any :: .any :: .any :: .any :: .any :: .any :: .any :: .any :: .any :: .any :: .any :: .any :: .any :: .any :: .any :: .any :: .any :: .any :: .any :: .any :: .any :: .any :: .any :: .any :: .any :: .any :: .any :: .any :: .any :: .any :: .any :: .any :: .any :: .any :: .any :: .any :: .any :: .any :: .any :: .any :: .any :: .any :: .any :: .any :: .any :: .any :: .any :: .any :: .any :: .any :: .any :: .any :: .any :: .any :: .any :: .any :: .any :: .any :: .any :: .any :: .any :: .any :: .any :: .any :: .any :: .any :: .any :: .any :: .any :: .any :: .any :: .any :: .any :: .any :: .any :: .any :: .any :: .any :: .any :: .any :: .any :: .any :: .any :: .any :: .any :: .any :: .any :: .any :: .any :: .any :: .any :: .any :: .any :: .any :: .any :: .any :: .any :: .any :: .any :: .any :: .any :: .any :: .any :: .any :: .any :: .any :: []), [rwR D], 1⟩ ?_ ?_) | refine zJ ?_ | refine zA ?_ | refine zO [] ?_ | (refine isA ?_; refine zb rfl ?_) | (refine isL ?_; refine zU rfl (by kernel_rfl) rfl rfl ?_) | (refine za rfl ?_; refine zT rfl (by kernel_rfl) rfl rfl ?_) | refine zd rfl (y5 (n := 1) rfl rfl rfl) rfl ?_ | refine zY rfl (by kernel_rfl) rfl (y5 (n := 1) rfl rfl rfl) rfl ?_ | refine zD ?_ | refine zB _ rfl (by kernel_rfl) ?_ | refine zV rfl ?_ | refine zW rfl ?_ | refine zC ?_ | with_reducible refine zM ?_ | refine zH ?_ | refine zI ?_ | (with_reducible first | refine zK ?_ | refine zL ?_ | refine zE ?_ | refine zG ?_ | refine zF ?_) | refine zN ?_
  · have lk : ∀ x y z : Int, (x = ((a + w : Nat) : Int)) → y = ((a + w + m : Nat) : Int) → True := fun _ _ _ _ _ => trivial
    refine zf rfl (fun h => ?_) (fun h => ?_)
    · have q : a + w < m := by have := of_decide_eq_true h; simp only [hv] at this; omega
      repeat' first | refine zJ ?_ | refine zA ?_ | refine zO [] ?_ | (refine isA ?_; refine zb rfl ?_) | (refine isL ?_; refine zU rfl (by kernel_rfl) rfl rfl ?_) | (refine za rfl ?_; refine zT rfl (by kernel_rfl) rfl rfl ?_) | refine zD ?_ | refine zB _ rfl (by kernel_rfl) ?_ | refine zV rfl ?_ | refine zW rfl ?_ | refine zC ?_ | with_reducible refine zM ?_ | refine zH ?_ | refine zI ?_ | (with_reducible first | refine zK ?_ | refine zL ?_ | refine zE ?_ | refine zG ?_ | refine zF ?_) | refine zN ?_
      refine ⟨rfl, yf 1 [0] rfl rfl yF (by decide) (.cons rfl rfl rfl rfl (zg (zR _ _)) .nil) (by
        repeat' first | exact zh | refine zc ?_ ?_ | exact zl | exact le_refl rfl | exact zm rfl rfl | exact yP (congrArg _ hv.symm) | exact yP (congrArg _ (show ((a + w + m : Nat) : Int) = IntKind.i64.wrap (IntKind.i64.wrap (wS .u64 (IntKind.u64.wrap (IntKind.i64.wrap ((a : Int) + (b : Int)))) 1) + m) by rw [hv, IntKind.wrap_i64]; omega)) | exact yP (congrArg _ (show ((a + (w - B.length) : Nat) : Int) = IntKind.i64.wrap (IntKind.i64.wrap (IntKind.i64.wrap (wS .u64 (IntKind.u64.wrap (IntKind.i64.wrap ((a : Int) + (b : Int)))) 1) + m) - b) by rw [hv, show IntKind.i64.wrap (((a + w : Nat) : Int) + m) = ((a + w + m : Nat) : Int) by rw [IntKind.wrap_i64]; omega, IntKind.wrap_i64]; omega)) | exact yP (congrArg _ (show ((a + min A.length w : Nat) : Int) = IntKind.i64.wrap (wS .u64 (IntKind.u64.wrap (IntKind.i64.wrap ((a : Int) + (b : Int)))) 1) by rw [hv, Nat.min_eq_right (by omega)])))⟩
    · have q : m ≤ a + w := by have := of_decide_eq_false h; simp only [hv] at this; omega
      repeat' first | refine zJ ?_ | refine zA ?_ | refine zO [] ?_ | (refine isA ?_; refine zb rfl ?_) | (refine isL ?_; refine zU rfl (by kernel_rfl) rfl rfl ?_) | (refine za rfl ?_; refine zT rfl (by kernel_rfl) rfl rfl ?_) | refine zD ?_ | refine zB _ rfl (by kernel_rfl) ?_ | refine zV rfl ?_ | refine zW rfl ?_ | refine zC ?_ | with_reducible refine zM ?_ | refine zH ?_ | refine zI ?_ | (with_reducible first | refine zK ?_ | refine zL ?_ | refine zE ?_ | refine zG ?_ | refine zF ?_) | refine zN ?_
      refine ⟨rfl, yf 1 [0] rfl rfl yF (by decide) (.cons rfl rfl rfl rfl (zg (zR _ _)) .nil) (by
        repeat' first | exact zh | refine zc ?_ ?_ | exact zl | exact le_refl rfl | exact zm rfl rfl | exact yP (congrArg _ hv.symm) | exact yP (congrArg _ (show ((a + w + m : Nat) : Int) = IntKind.i64.wrap (IntKind.i64.wrap (wS .u64 (IntKind.u64.wrap (IntKind.i64.wrap ((a : Int) + (b : Int)))) 1) + m) by rw [hv, IntKind.wrap_i64]; omega)) | exact yP (congrArg _ (show ((a + (w - B.length) : Nat) : Int) = (a : Int) by omega)) | exact yP (congrArg _ (show ((a + min A.length w : Nat) : Int) = (m : Int) by rw [Nat.min_eq_left (by omega)]; omega)))⟩
  · have ep : IntKind.i64.wrap (((a + w + m : Nat) : Int) - 1) = ((a + w + m - 1 : Nat) : Int) := by rw [IntKind.wrap_i64]; omega
    refine zy (α := { p : Nat × Nat // CutI A B w p }) (fun p => ⟨((.sl 0 0 L) :: (I a) :: (I m) :: (I b) :: (.fn 77 []) :: .any :: .any :: .any :: .any :: .any :: .any :: .any :: .any :: .any :: .any :: .any :: .any :: .any :: (I ((a + w : Nat) : Int)) :: (I ((a + w + m : Nat) : Int)) :: (I ((a + p.1.1 : Nat) : Int)) :: (I ((a + p.1.2 : Nat) : Int)) :: (I ((a + w + m - 1 : Nat) : Int)) :: .any :: .any :: .any :: .any :: .any :: .any :: .any :: .any :: .any :: .any :: .any :: .any :: .any :: .any :: .any :: .any :: .any :: .any :: .any :: .any :: .any :: .any :: .any :: .any :: .any :: .any :: .any :: .any :: .any :: .any :: .any :: .any :: .any :: .any :: .any :: .any :: .any :: .any :: .any :: .any :: .any :: .any :: .any :: .any :: .any :: .any :: .any :: .any :: .any :: .any :: .any :: .any :: .any :: .any :: .any :: .any :: .any :: .any :: .any :: .any :: .any :: .any :: .any :: .any :: .any :: .any :: .any :: .any :: .any :: .any :: .any :: .any :: .any :: .any :: .any :: .any :: .any :: .any :: .any :: .any :: .any :: .any :: .any :: .any :: .any :: .any :: .any :: .any :: .any :: .any :: .any :: .any :: .any :: .any :: .any :: .any :: .any :: .any :: .any :: .any :: .any :: .any :: .any :: .any :: .any :: .any :: .any :: .any :: .any :: .any :: .any :: .any :: .any :: .any :: .any :: .any :: .any :: .any :: .any :: .any :: .any :: .any :: .any :: .any :: .any :: .any :: .any :: .any :: .any :: .any :: .any :: .any :: .any :: .any :: .any :: .any :: .any :: .any :: .any :: .any :: .any :: .any :: .any :: .any :: .any :: .any :: .any :: .any :: .any :: .any :: .any :: .any :: .any :: .any :: .any :: .any :: .any :: .any :: .any :: .any :: .any :: .any :: .any :: .any :: .any :: .any :: .any :: .any :: .any :: .any :: .any :: .any :: .any :: .any :: .any :: .any :: .any :: .any :: .any :: .any :: .any :: .any :: .any :: .any :: .any :: .any :: .any :: .any :: .any :: .any :: .any :: .any :: .any :: .any :: .any :: .any :: .any :: []), [rwR D], 1⟩) (fun p => p.1.2 - p.1.1) ⟨(w - B.length, min A.length w), cut0 hw⟩ ?_ ?_
    · exact yf 1 [0] rfl rfl yF (by decide) (.cons rfl rfl rfl rfl (zg (zR _ _)) .nil) (by
        repeat' first | exact zh | refine zc ?_ ?_ | exact zl | exact le_refl rfl | exact zm rfl rfl | exact yP (congrArg _ ep.symm))
    · rintro ⟨⟨i, j⟩, J⟩
      have j1 : w - B.length ≤ i := J.lo
      have j2 : i ≤ j := J.le
      have j3 : j ≤ min A.length w := J.hi
      repeat' first | refine zJ ?_ | refine zA ?_ | refine zO [] ?_ | (refine isA ?_; refine zb rfl ?_) | (refine isL ?_; refine zU rfl (by kernel_rfl) rfl rfl ?_) | (refine za rfl ?_; refine zT rfl (by kernel_rfl) rfl rfl ?_) | refine zD ?_ | refine zB _ rfl (by kernel_rfl) ?_ | refine zV rfl ?_ | refine zW rfl ?_ | refine zC ?_ | with_reducible refine zM ?_ | refine zH ?_ | refine zI ?_ | (with_reducible first | refine zK ?_ | refine zL ?_ | refine zE ?_ | refine zG ?_ | refine zF ?_) | refine zN ?_
      refine zf rfl (fun h => ?_) (fun h => ?_)
      · have hlt : i < j := by have := of_decide_eq_true h; simp only at this; omega
        obtain ⟨k, hk⟩ : ∃ k, k = (i + j) / 2 := ⟨_, rfl⟩
        have k1 : i ≤ k ∧ k < j := by omega
        have hc : IntKind.i64.wrap (wS .u64 (IntKind.u64.wrap (IntKind.i64.wrap (((a + i : Nat) : Int) + ((a + j : Nat) : Int)))) 1) = ((a + k : Nat) : Int) := by
          rw [vZ (by omega)]; omega
        have hpc : IntKind.i64.wrap (((a + w + m - 1 : Nat) : Int) - IntKind.i64.wrap (wS .u64 (IntKind.u64.wrap (IntKind.i64.wrap (((a + i : Nat) : Int) + ((a + j : Nat) : Int)))) 1)) = ((a + A.length + (w - 1 - k) : Nat) : Int) := by
          rw [hc, IntKind.wrap_i64]; omega
        obtain ⟨x, hx⟩ : ∃ z, A[k]? = some z := ⟨_, List.getElem?_eq_getElem (by omega)⟩
        obtain ⟨y, hy⟩ : ∃ z, B[w - 1 - k]? = some z := ⟨_, List.getElem?_eq_getElem (by omega)⟩
        have gx := hds k x hx
        have gy := hdb (w - 1 - k) y hy
        repeat' first | refine zJ ?_ | refine zA ?_ | refine zO [] ?_ | (refine isA ?_; refine zb rfl ?_) | (refine isL ?_; refine zU rfl (by kernel_rfl) rfl rfl ?_) | (refine za rfl ?_; refine zT rfl (by kernel_rfl) rfl rfl ?_) | refine zd rfl (y5 (n := 1) rfl rfl rfl) rfl ?_ | refine zY rfl (by kernel_rfl) rfl (y5 (n := 1) rfl rfl rfl) rfl ?_ | (refine yn (x := .tmp 159) ?_; refine zd rfl (zp (j := ((a + A.length + (w - 1 - k) : Nat) : Int)) rfl rfl rfl (Nat.zero_le _) rfl (congrArg I hpc) (Int.natCast_nonneg _) (by omega)) rfl ?_) | (refine ym (x := .tmp 159) rfl ?_; refine zY rfl (by kernel_rfl) rfl (zp (j := ((a + A.length + (w - 1 - k) : Nat) : Int)) rfl rfl rfl (Nat.zero_le _) rfl (congrArg I hpc) (Int.natCast_nonneg _) (by omega)) rfl ?_) | (refine yn (x := .tmp 165) ?_; refine zd rfl (zp (j := ((a + k : Nat) : Int)) rfl rfl rfl (Nat.zero_le _) rfl (congrArg I hc) (Int.natCast_nonneg _) (by omega)) rfl ?_) | (refine ym (x := .tmp 165) rfl ?_; refine zY rfl (by kernel_rfl) rfl (zp (j := ((a + k : Nat) : Int)) rfl rfl rfl (Nat.zero_le _) rfl (congrArg I hc) (Int.natCast_nonneg _) (by omega)) rfl ?_) | (refine w4 (x := .tmp 163) ?_; refine zd rfl (y7 (T := rwT) (i := 0 + (a + A.length + (w - 1 - k))) (z := y) rfl rfl rfl gy) rfl ?_) | (refine vI (x := .tmp 163) rfl ?_; refine zY rfl (by kernel_rfl) rfl (y7 (T := rwT) (i := 0 + (a + A.length + (w - 1 - k))) (z := y) rfl rfl rfl gy) rfl ?_) | (refine w4 (x := .tmp 167) ?_; refine zd rfl (y7 (T := rwT) (i := 0 + (a + k)) (z := x) rfl rfl rfl gx) rfl ?_) | (refine vI (x := .tmp 167) rfl ?_; refine zY rfl (by kernel_rfl) rfl (y7 (T := rwT) (i := 0 + (a + k)) (z := x) rfl rfl rfl gx) rfl ?_) | refine zd rfl (xb rfl rfl (xh y x) (.cons (.same rfl) (.cons (.same rfl) .nil)) rfl) rfl ?_ | refine zY rfl (by kernel_rfl) rfl (xb rfl rfl (xh y x) (.cons (.same rfl) (.cons (.same rfl) .nil)) rfl) rfl ?_ | refine zD ?_ | refine zB _ rfl (by kernel_rfl) ?_ | refine zV rfl ?_ | refine zW rfl ?_ | refine zC ?_ | with_reducible refine zM ?_ | refine zH ?_ | refine zI ?_ | (with_reducible first | refine zK ?_ | refine zL ?_ | refine zE ?_ | refine zG ?_ | refine zF ?_) | refine zN ?_
        refine zf rfl (fun p => ?_) (fun p => ?_)
        · have q : leW x y := Classical.byContradiction fun hn => by
            have := xk.2 hn
            simp [this] at p
          repeat' first | refine zJ ?_ | refine zA ?_ | refine zO [] ?_ | (refine isA ?_; refine zb rfl ?_) | (refine isL ?_; refine zU rfl (by kernel_rfl) rfl rfl ?_) | (refine za rfl ?_; refine zT rfl (by kernel_rfl) rfl rfl ?_) | refine zD ?_ | refine zB _ rfl (by kernel_rfl) ?_ | refine zV rfl ?_ | refine zW rfl ?_ | refine zC ?_ | with_reducible refine zM ?_ | refine zH ?_ | refine zI ?_ | (with_reducible first | refine zK ?_ | refine zL ?_ | refine zE ?_ | refine zG ?_ | refine zF ?_) | refine zN ?_
          refine ⟨⟨(k + 1, j), ⟨by simp only; omega, by simp only; omega, j3, fun x' y' _ hx' hy' => ?_, J.hhi⟩⟩, by simp only; omega, ?_⟩
          · simp only [Nat.add_sub_cancel] at hx'
            rw [hx] at hx'
            cases hx'
            rw [show w - (k + 1, j).1 = w - 1 - k by simp only; omega, hy] at hy'
            cases hy'
            exact q
          · exact yf 1 [0] rfl rfl yF (by decide) (.cons rfl rfl rfl rfl (zg (zR _ _)) .nil) (by
              repeat' first | exact zh | refine zc ?_ ?_ | exact zl | exact le_refl rfl | exact zm rfl rfl | exact yP (congrArg _ (show ((a + (k + 1) : Nat) : Int) = IntKind.i64.wrap (IntKind.i64.wrap (wS .u64 (IntKind.u64.wrap (IntKind.i64.wrap (((a + i : Nat) : Int) + ((a + j : Nat) : Int)))) 1) + 1) by rw [hc, IntKind.wrap_i64]; omega)))
        · have q : leW y x := xj (xk.1 (by simpa using p))
          repeat' first | refine zJ ?_ | refine zA ?_ | refine zO [] ?_ | (refine isA ?_; refine zb rfl ?_) | (refine isL ?_; refine zU rfl (by kernel_rfl) rfl rfl ?_) | (refine za rfl ?_; refine zT rfl (by kernel_rfl) rfl rfl ?_) | refine zD ?_ | refine zB _ rfl (by kernel_rfl) ?_ | refine zV rfl ?_ | refine zW rfl ?_ | refine zC ?_ | with_reducible refine zM ?_ | refine zH ?_ | refine zI ?_ | (with_reducible first | refine zK ?_ | refine zL ?_ | refine zE ?_ | refine zG ?_ | refine zF ?_) | refine zN ?_
          refine ⟨⟨(i, k), ⟨j1, k1.1, by simp only; omega, J.hlo, fun y' x' _ hy' hx' => ?_⟩⟩, by simp only; omega, ?_⟩
          · rw [hx] at hx'
            cases hx'
            rw [hy] at hy'
            cases hy'
            exact q
          · exact yf 1 [0] rfl rfl yF (by decide) (.cons rfl rfl rfl rfl (zg (zR _ _)) .nil) (by
              repeat' first | exact zh | refine zc ?_ ?_ | exact zl | exact le_refl rfl | exact zm rfl rfl | exact yP (congrArg _ hc.symm))
      · obtain rfl : i = j := by have := of_decide_eq_false h; simp only at this; omega
        obtain ⟨u1, u2, u3, u4⟩ := ml hw hA hB J
        have ea : A.take i ++ A.drop i = A := List.take_append_drop _ _
        have eb : B.take (w - i) ++ B.drop (w - i) = B := List.take_append_drop _ _
        have sA1 : Srt (A.take i) := hA.sublist (List.take_sublist _ _)
        have sA2 : Srt (A.drop i) := hA.sublist (List.drop_sublist _ _)
        have sB1 : Srt (B.take (w - i)) := hB.sublist (List.take_sublist _ _)
        have sB2 : Srt (B.drop (w - i)) := hB.sublist (List.drop_sublist _ _)
        have nA1 : (A.take i).length = i := by simp; omega
        have nA2 : (A.drop i).length = A.length - i := by simp
        have nB1 : (B.take (w - i)).length = w - i := by simp; omega
        have nB2 : (B.drop (w - i)).length = B.length - (w - i) := by simp
        have hD' : D = P ++ A.take i ++ A.drop i ++ B.take (w - i) ++ B.drop (w - i) ++ Q := by
          rw [← hD]; simp only [List.append_assoc]; rw [← List.append_assoc (A.take i), ea, ← List.append_assoc (B.take (w - i)), eb]
        generalize A.take i = A1 at *
        generalize A.drop i = A2 at *
        generalize B.take (w - i) = B1 at *
        generalize B.drop (w - i) = B2 at *
        have ee : IntKind.i64.wrap (((a + w + m : Nat) : Int) - ((a + i : Nat) : Int)) = ((m + (w - i) : Nat) : Int) := by rw [IntKind.wrap_i64]; omega
        have r1 : P ++ A1 ++ A2 ++ B1 ++ B2 ++ Q = P ++ A1 ++ B1 ++ A2 ++ B2 ++ Q ∨ (0 < A2.length ∧ 0 < B1.length) := by
          rcases Nat.eq_zero_or_pos A2.length with h | h
          · left; rw [List.eq_nil_of_length_eq_zero h]; simp
          · rcases Nat.eq_zero_or_pos B1.length with k | k
            · left; rw [List.eq_nil_of_length_eq_zero k]; simp
            · exact Or.inr ⟨h, k⟩
        have dl : P.length = a := ha
        have sl1 := y6 (A1 ++ B1)
        rw [List.length_append] at sl1
        have hLs : L = a + A1.length + A2.length + B1.length + B2.length + Q.length := by omega
        repeat' first | (refine v8 39 ⟨((.sl 0 0 L) :: (I a) :: (I m) :: (I b) :: (.fn 77 []) :: .any :: .any :: .any :: .any :: .any :: .any :: .any :: .any :: .any :: .any :: .any :: .any :: .any :: (I ((a + w : Nat) : Int)) :: .any :: (I ((a + i : Nat) : Int)) :: .any :: .any :: .any :: (I ((m + (w - i) : Nat) : Int)) :: .any :: .any :: .any :: .any :: .any :: .any :: .any :: .any :: .any :: .any :: .any :: .any :: .any :: .any :: .any :: .any :: .any :: .any :: .any :: .any :: .any :: .any :: .any :: .any :: .any :: .any :: .any :: .any :: .any :: .any :: .any :: .any :: .any :: .any :: .any :: .any :: .any :: .any :: .any :: .any :: .any :: .any :: .any :: .any :: .any :: .any :: .any :: .any :: .any :: .any :: .any :: .any :: .any :: .any :: .any :: .any :: .any :: .any :: .any :: .any :: .any :: .any :: .any :: .any :: .any :: .any :: .any :: .any :: .any :: .any :: .any :: .any :: .any :: .any :: .any :: .any :: .any :: .any :: .any :: .any :: .any :: .any :: .any :: .any :: .any :: .any :: .any :: .any :: .any :: .any :: .any :: .any :: .any :: .any :: .any :: .any :: .any :: .any :: .any :: .any :: .any :: .any :: .any :: .any :: .any :: .any :: .any :: .any :: .any :: .any :: .any :: .any :: .any :: .any :: .any :: .any :: .any :: .any :: .any :: .any :: .any :: .any :: .any :: .any :: .any :: .any :: .any :: .any :: .any :: .any :: .any :: .any :: .any :: .any :: .any :: .any :: .any :: .any :: .any :: .any :: .any :: .any :: .any :: .any :: .any :: .any :: .any :: .any :: .any :: .any :: .any :: .any :: .any :: .any :: .any :: .any :: .any :: .any :: .any :: .any :: .any :: .any :: .any :: .any :: .any :: .any :: .any :: .any :: .any :: .any :: .any :: .any :: .any :: .any :: .any :: .any :: .any :: .any :: .any :: .any :: .any :: .any :: .any :: .any :: .any :: .any :: .any :: .any :: .any :: .any :: .any :: .any :: .any :: .any :: .any :: []), [rwR (P ++ A1 ++ B1 ++ A2 ++ B2 ++ Q)], 1⟩ ?_ ?_) | (refine v8 41 ⟨((.sl 0 0 L) :: (I a) :: (I m) :: (I b) :: (.fn 77 []) :: .any :: .any :: .any :: .any :: .any :: .any :: .any :: .any :: .any :: .any :: .any :: .any :: .any :: (I ((a + w : Nat) : Int)) :: .any :: (I ((a + i : Nat) : Int)) :: .any :: .any :: .any :: (I ((m + (w - i) : Nat) : Int)) :: .any :: .any :: .any :: .any :: .any :: .any :: .any :: .any :: .any :: .any :: .any :: .any :: .any :: .any :: .any :: .any :: .any :: .any :: .any :: .any :: .any :: .any :: .any :: .any :: .any :: .any :: .any :: .any :: .any :: .any :: .any :: .any :: .any :: .any :: .any :: .any :: .any :: .any :: .any :: .any :: .any :: .any :: .any :: .any :: .any :: .any :: .any :: .any :: .any :: .any :: .any :: .any :: .any :: .any :: .any :: .any :: .any :: .any :: .any :: .any :: .any :: .any :: .any :: .any :: .any :: .any :: .any :: .any :: .any :: .any :: .any :: .any :: .any :: .any :: .any :: .any :: .any :: .any :: .any :: .any :: .any :: .any :: .any :: .any :: .any :: .any :: .any :: .any :: .any :: .any :: .any :: .any :: .any :: .any :: .any :: .any :: .any :: .any :: .any :: .any :: .any :: .any :: .any :: .any :: .any :: .any :: .any :: .any :: .any :: .any :: .any :: .any :: .any :: .any :: .any :: .any :: .any :: .any :: .any :: .any :: .any :: .any :: .any :: .any :: .any :: .any :: .any :: .any :: .any :: .any :: .any :: .any :: .any :: .any :: .any :: .any :: .any :: .any :: .any :: .any :: .any :: .any :: .any :: .any :: .any :: .any :: .any :: .any :: .any :: .any :: .any :: .any :: .any :: .any :: .any :: .any :: .any :: .any :: .any :: .any :: .any :: .any :: .any :: .any :: .any :: .any :: .any :: .any :: .any :: .any :: .any :: .any :: .any :: .any :: .any :: .any :: .any :: .any :: .any :: .any :: .any :: .any :: .any :: .any :: .any :: .any :: .any :: .any :: .any :: .any :: .any :: .any :: .any :: .any :: .any :: []), [rwR (P ++ zt (A1 ++ B1) ++ A2 ++ B2 ++ Q)], 1⟩ ?_ ?_) | refine zJ ?_ | refine zA ?_ | refine zO [] ?_ | (refine isA ?_; refine zb rfl ?_) | (refine isL ?_; refine zU rfl (by kernel_rfl) rfl rfl ?_) | (refine za rfl ?_; refine zT rfl (by kernel_rfl) rfl rfl ?_) | refine zD ?_ | refine zB _ rfl (by kernel_rfl) ?_ | refine zV rfl ?_ | refine zW rfl ?_ | refine zC ?_ | with_reducible refine zM ?_ | refine zH ?_ | refine zI ?_ | (with_reducible first | refine zK ?_ | refine zL ?_ | refine zE ?_ | refine zG ?_ | refine zF ?_) | refine zN ?_ | refine zf rfl (fun hbr => ?_) (fun hbr => ?_) | (refine vY ?_; refine xi rfl rfl (fun hbr => ?_) (fun hbr => ?_) <;> (fail_if_success (with_reducible (have hx : true = true := hbr))) <;> (fail_if_success (with_reducible (have hx : false = false := hbr)))) | (refine za rfl ?_; refine yz rfl rfl rfl rfl (fun hbr => ?_) (fun hbr => ?_) <;> (fail_if_success (with_reducible (have hx : true = true := hbr))) <;> (fail_if_success (with_reducible (have hx : false = false := hbr))))
        · rename_i h1
          have h1 := of_decide_eq_true h1
          have h2 := of_decide_eq_true hbr
          simp only at h1 h2
          rw [ee] at h2
          have c1 := kX (ds := D) (rs := P ++ A1 ++ B1 ++ A2 ++ B2 ++ Q) (L := L) (a := ((a + i : Nat) : Int)) (m := (m : Int)) (b := IntKind.i64.wrap (((a + w + m : Nat) : Int) - ((a + i : Nat) : Int))) (P ++ A1) A2 B1 (B2 ++ Q) (by rw [hD']; simp only [List.append_assoc]) hL.symm hl (by simp only [List.length_append]; omega) (by simp only [List.length_append]; omega) (by rw [ee]; simp only [List.length_append]; omega) (by omega) (by omega) (by simp only [List.append_assoc])
          repeat' first | refine zJ ?_ | refine zA ?_ | refine zO [] ?_ | (refine isA ?_; refine zb rfl ?_) | (refine isL ?_; refine zU rfl (by kernel_rfl) rfl rfl ?_) | (refine za rfl ?_; refine zT rfl (by kernel_rfl) rfl rfl ?_) | (refine zq 179 ?_; refine zd rfl (zS (K := []) (Rs' := [_]) [0] (by decide) rfl c1 (.cons rfl rfl rfl (zR _ _) (zR _ _) .nil) (.cons (.sl rfl) (.cons (.same rfl) (.cons (.same rfl) (.cons (.same rfl) (.cons (.same rfl) .nil))))) (fun q hq => by cases hq) rfl) rfl ?_) | (refine zr 179 rfl ?_; refine zY rfl (by kernel_rfl) rfl (zS (K := []) (Rs' := [_]) [0] (by decide) rfl c1 (.cons rfl rfl rfl (zR _ _) (zR _ _) .nil) (.cons (.sl rfl) (.cons (.same rfl) (.cons (.same rfl) (.cons (.same rfl) (.cons (.same rfl) .nil))))) (fun q hq => by cases hq) rfl) rfl ?_) | refine zD ?_ | refine zB _ rfl (by kernel_rfl) ?_ | refine zV rfl ?_ | refine zW rfl ?_ | refine zC ?_ | with_reducible refine zM ?_ | refine zH ?_ | refine zI ?_ | (with_reducible first | refine zK ?_ | refine zL ?_ | refine zE ?_ | refine zG ?_ | refine zF ?_) | refine zN ?_
          exact ⟨rfl, yf 1 [0] rfl rfl yF (by decide) (.cons rfl rfl rfl rfl (zg (zR _ _)) .nil) (by
            repeat' first | exact zh | refine zc ?_ ?_ | exact zl | exact le_refl rfl | exact zm rfl rfl | exact yP (congrArg _ ee.symm))⟩
        · have h2 := of_decide_eq_false hbr
          simp only at h2
          rw [ee] at h2
          have e := r1.resolve_right (fun h => by omega)
          rw [← hD'] at e
          exact ⟨rfl, yf 1 [0] rfl rfl yF (by decide) (.cons rfl rfl rfl rfl (yL (congrArg rwT.flat e) (zR _ _)) .nil) (by
            repeat' first | exact zh | refine zc ?_ ?_ | exact zl | exact le_refl rfl | exact zm rfl rfl | exact yP (congrArg _ ee.symm))⟩
        · have h2 := of_decide_eq_false hbr
          simp only at h2
          have e := r1.resolve_right (fun h => by omega)
          rw [← hD'] at e
          exact ⟨rfl, yf 1 [0] rfl rfl yF (by decide) (.cons rfl rfl rfl rfl (yL (congrArg rwT.flat e) (zR _ _)) .nil) (by
            repeat' first | exact zh | refine zc ?_ ?_ | exact zl | exact le_refl rfl | exact zm rfl rfl | exact yP (congrArg _ ee.symm))⟩
        · rename_i h1
          have h1 := of_decide_eq_true h1
          have h2 := of_decide_eq_true hbr
          have c1 := (IH P A1 B1 (A2 ++ B2 ++ Q) (by omega) sA1 sB1 (by omega) (by omega) (by simp only [List.length_append]; omega)).x (ds := P ++ A1 ++ B1 ++ A2 ++ B2 ++ Q) (rs := P ++ zt (A1 ++ B1) ++ A2 ++ B2 ++ Q) (L := L) (a := (a : Int)) (m := ((a + i : Nat) : Int)) (b := ((a + w : Nat) : Int)) (by simp only [List.append_assoc]) (by simp only [List.length_append]; omega) (by omega) (by simp only [List.length_append]; omega) (by simp only [List.length_append]; omega) (by simp only [List.append_assoc])
          repeat' first | refine zJ ?_ | refine zA ?_ | refine zO [] ?_ | (refine isA ?_; refine zb rfl ?_) | (refine isL ?_; refine zU rfl (by kernel_rfl) rfl rfl ?_) | (refine za rfl ?_; refine zT rfl (by kernel_rfl) rfl rfl ?_) | (refine zq 167 ?_; refine zd rfl (zS (K := []) (Rs' := [_]) [0] (by decide) rfl c1 (.cons rfl rfl rfl (zR _ _) (zR _ _) .nil) (.cons (.sl rfl) (.cons (.same rfl) (.cons (.same rfl) (.cons (.same rfl) (.cons (.same rfl) .nil))))) (fun q hq => by cases hq) rfl) rfl ?_) | (refine zr 167 rfl ?_; refine zY rfl (by kernel_rfl) rfl (zS (K := []) (Rs' := [_]) [0] (by decide) rfl c1 (.cons rfl rfl rfl (zR _ _) (zR _ _) .nil) (.cons (.sl rfl) (.cons (.same rfl) (.cons (.same rfl) (.cons (.same rfl) (.cons (.same rfl) .nil))))) (fun q hq => by cases hq) rfl) rfl ?_) | refine zD ?_ | refine zB _ rfl (by kernel_rfl) ?_ | refine zV rfl ?_ | refine zW rfl ?_ | refine zC ?_ | with_reducible refine zM ?_ | refine zH ?_ | refine zI ?_ | (with_reducible first | refine zK ?_ | refine zL ?_ | refine zE ?_ | refine zG ?_ | refine zF ?_) | refine zN ?_
          exact ⟨rfl, yf 1 [0] rfl rfl yF (by decide) (.cons rfl rfl rfl rfl (zg (zR _ _)) .nil) (by
            repeat' first | exact zh | refine zc ?_ ?_ | exact zl | exact le_refl rfl | exact zm rfl rfl)⟩
        · have h2 := of_decide_eq_false hbr
          have e := wq sA1 sB1 (by omega)
          exact ⟨rfl, yf 1 [0] rfl rfl yF (by decide) (.cons rfl rfl rfl rfl (yL (congrArg rwT.flat (show P ++ A1 ++ B1 ++ A2 ++ B2 ++ Q = P ++ zt (A1 ++ B1) ++ A2 ++ B2 ++ Q by rw [← e]; simp only [List.append_assoc])) (zR _ _)) .nil) (by
            repeat' first | exact zh | refine zc ?_ ?_ | exact zl | exact le_refl rfl | exact zm rfl rfl)⟩
        · have h2 := of_decide_eq_false hbr
          have e := wq sA1 sB1 (by omega)
          exact ⟨rfl, yf 1 [0] rfl rfl yF (by decide) (.cons rfl rfl rfl rfl (yL (congrArg rwT.flat (show P ++ A1 ++ B1 ++ A2 ++ B2 ++ Q = P ++ zt (A1 ++ B1) ++ A2 ++ B2 ++ Q by rw [← e]; simp only [List.append_assoc])) (zR _ _)) .nil) (by
            repeat' first | exact zh | refine zc ?_ ?_ | exact zl | exact le_refl rfl | exact zm rfl rfl)⟩
        · rename_i h1
          have h1 := of_decide_eq_true h1
          have h2 := of_decide_eq_true hbr
          have c1 := (IH (P ++ zt (A1 ++ B1)) A2 B2 Q (by omega) sA2 sB2 (by omega) (by omega) (by simp only [List.length_append]; omega)).x (ds := P ++ zt (A1 ++ B1) ++ A2 ++ B2 ++ Q) (rs := P ++ zt (A ++ B) ++ Q) (L := L) (a := ((a + w : Nat) : Int)) (m := ((m + (w - i) : Nat) : Int)) (b := (b : Int)) rfl (by simp only [List.length_append]; omega) (by simp only [List.length_append]; omega) (by simp only [List.length_append]; omega) (by simp only [List.length_append]; omega) (by rw [← u4]; simp only [List.append_assoc])
          repeat' first | refine zJ ?_ | refine zA ?_ | refine zO [] ?_ | (refine isA ?_; refine zb rfl ?_) | (refine isL ?_; refine zU rfl (by kernel_rfl) rfl rfl ?_) | (refine za rfl ?_; refine zT rfl (by kernel_rfl) rfl rfl ?_) | (refine zq 167 ?_; refine zd rfl (zS (K := []) (Rs' := [_]) [0] (by decide) rfl c1 (.cons rfl rfl rfl (zR _ _) (zR _ _) .nil) (.cons (.sl rfl) (.cons (.same rfl) (.cons (.same rfl) (.cons (.same rfl) (.cons (.same rfl) .nil))))) (fun q hq => by cases hq) rfl) rfl ?_) | (refine zr 167 rfl ?_; refine zY rfl (by kernel_rfl) rfl (zS (K := []) (Rs' := [_]) [0] (by decide) rfl c1 (.cons rfl rfl rfl (zR _ _) (zR _ _) .nil) (.cons (.sl rfl) (.cons (.same rfl) (.cons (.same rfl) (.cons (.same rfl) (.cons (.same rfl) .nil))))) (fun q hq => by cases hq) rfl) rfl ?_) | exact vb 1 [0] yF (by decide) (.cons rfl rfl rfl rfl (zg (zR _ _)) .nil) | refine zD ?_ | refine zB _ rfl (by kernel_rfl) ?_ | refine zV rfl ?_ | refine zW rfl ?_ | refine zC ?_ | with_reducible refine zM ?_ | refine zH ?_ | refine zI ?_ | (with_reducible first | refine zK ?_ | refine zL ?_ | refine zE ?_ | refine zG ?_ | refine zF ?_) | refine zN ?_
        · have h2 := of_decide_eq_false hbr
          have e := wq sA2 sB2 (by omega)
          exact vb 1 [0] yF (by decide) (.cons rfl rfl rfl rfl (yL (congrArg rwT.flat (show P ++ zt (A1 ++ B1) ++ A2 ++ B2 ++ Q = P ++ zt (A ++ B) ++ Q by rw [← u4, ← e]; simp only [List.append_assoc])) (zR _ _)) .nil)
        · have h2 := of_decide_eq_false hbr
          have e := wq sA2 sB2 (by omega)
          exact vb 1 [0] yF (by decide) (.cons rfl rfl rfl rfl (yL (congrArg rwT.flat (show P ++ zt (A1 ++ B1) ++ A2 ++ B2 ++ Q = P ++ zt (A ++ B) ++ Q by rw [← u4, ← e]; simp only [List.append_assoc])) (zR _ _)) .nil)
theorem n7 : ∀ (N : Nat) (P A B Q : List Rw), A.length + B.length ≤ N → Srt A → Srt B → 0 < A.length → 0 < B.length → (P ++ A ++ B ++ Q).length ≤ 100000000 → pV P A B Q
  | 0, P, A, B, Q, hn, hA, hB, h0, h1, hl => by omega
  | N + 1, P, A, B, Q, hn, hA, hB, h0, h1, hl => by
    rcases Nat.lt_or_ge A.length 2 with hx | hx
    · obtain ⟨x, rfl⟩ := List.length_eq_one_iff.1 (show A.length = 1 by omega)
      exact kV P B Q x hB h1 hl
    · rcases Nat.lt_or_ge B.length 2 with hy | hy
      · obtain ⟨x, rfl⟩ := List.length_eq_one_iff.1 (show B.length = 1 by omega)
        exact kU P A Q x hA hx hl
      · exact kT P A B Q hA hB hx hy hl (fun P' A' B' Q' h => n7 N P' A' B' Q' (by omega))
end Go.Proofs.Ytkcicbigpbdjpaa.Ab.Pr
namespace Go.Proofs.Ytkcicbigpbdjpaa.Ab.Pr
open Go.RowKit
theorem pP (xs : List Rw) (a : Nat) (h2 : a ≤ xs.length) (hl : xs.length ≤ 100000000) : zn Go.Proofs.Try.prog 166 [.sl 0 0 xs.length, I a, I a, .fn 77 []] [rwR xs] (.tup []) [rwR xs] true := by
  refine zj [] Go.Proofs.Try.func166 rfl rfl ?_
  simp only [Go.Proofs.Try.ntmps166, List.length_cons, List.length_nil, Nat.reduceAdd, Nat.reduceSub, List.replicate_succ, List.replicate_zero, List.cons_append, List.nil_append]
  repeat' first | refine zJ ?_ | refine zA ?_ | refine zO [] ?_ | (refine isA ?_; refine zb rfl ?_) | (refine isL ?_; refine zU rfl (by kernel_rfl) rfl rfl ?_) | (refine za rfl ?_; refine zT rfl (by kernel_rfl) rfl rfl ?_) | refine zD ?_ | refine zB _ rfl (by kernel_rfl) ?_ | refine zV rfl ?_ | refine zW rfl ?_ | refine zC ?_ | with_reducible refine zM ?_ | refine zH ?_ | refine zI ?_ | (with_reducible first | refine zK ?_ | refine zL ?_ | refine zE ?_ | refine zG ?_ | refine zF ?_) | refine zN ?_
  refine zy (α := Unit) (fun i => ⟨[.sl 0 0 xs.length, I a, I a, .fn 77 [], .any, .any, .any, .any, I ((a + 1 : Nat) : Int), .any, .any, .any, .any, .any, .any, .any, .any, .any, .any, .any, .any, .any, .any, .any, .any, .any, .any, .any, .any, .any, .any, .any, .any, .any, .any, .any, .any, .any, .any, .any, .any, .any, .any, .any, .any, .any, .any, .any, .any, .any, .any, .any, .any], [rwR xs], 1⟩) (fun i => 0) () ?_ ?_
  · exact yf 1 [0] rfl rfl yF (by decide) (.cons rfl rfl rfl rfl (zg (zR _ _)) .nil) (by
      repeat' first | exact zh | refine zc ?_ ?_ | exact zl | exact le_refl rfl | exact zm rfl rfl | exact yP (congrArg _ (show ((a + 1 : Nat) : Int) = IntKind.i64.wrap ((a : Int) + 1) by rw [IntKind.wrap_i64]; omega)))
  · rintro ⟨⟩
    repeat' first | refine zJ ?_ | refine zA ?_ | refine zO [] ?_ | (refine isA ?_; refine zb rfl ?_) | (refine isL ?_; refine zU rfl (by kernel_rfl) rfl rfl ?_) | (refine za rfl ?_; refine zT rfl (by kernel_rfl) rfl rfl ?_) | refine zD ?_ | refine zB _ rfl (by kernel_rfl) ?_ | refine zV rfl ?_ | refine zW rfl ?_ | refine zC ?_ | with_reducible refine zM ?_ | refine zH ?_ | refine zI ?_ | (with_reducible first | refine zK ?_ | refine zL ?_ | refine zE ?_ | refine zG ?_ | refine zF ?_) | refine zN ?_
    refine zf rfl (fun h => absurd (of_decide_eq_true h) (by omega)) (fun h => ?_)
    repeat' first | refine zJ ?_ | refine zA ?_ | refine zO [] ?_ | (refine isA ?_; refine zb rfl ?_) | (refine isL ?_; refine zU rfl (by kernel_rfl) rfl rfl ?_) | (refine za rfl ?_; refine zT rfl (by kernel_rfl) rfl rfl ?_) | exact vb 1 [0] yF (by decide) (.cons rfl rfl rfl rfl (zg (zR _ _)) .nil) | refine zD ?_ | refine zB _ rfl (by kernel_rfl) ?_ | refine zV rfl ?_ | refine zW rfl ?_ | refine zC ?_ | with_reducible refine zM ?_ | refine zH ?_ | refine zI ?_ | (with_reducible first | refine zK ?_ | refine zL ?_ | refine zE ?_ | refine zG ?_ | refine zF ?_) | refine zN ?_
theorem mE {ds rs : List Rw} {L : Nat} {a b : Int} (U X W : List Rw) (hd : ds = U ++ X ++ W) (hL : L = ds.length) (hl : L ≤ 100000000) (ha : a = (U.length : Int)) (hb : b = ((U ++ X).length : Int)) (hr : rs = U ++ zt X ++ W) :
    zn Go.Proofs.Try.prog 166 [.sl 0 0 L, I a, I b, .fn 77 []] [rwR ds] (.tup []) [rwR rs] true := by
  subst hd hL ha hb hr
  rcases Nat.eq_zero_or_pos X.length with h | h
  · rw [List.eq_nil_of_length_eq_zero h]
    have q := pP (U ++ W) U.length (by simp) (by simp at hl ⊢; omega)
    rw [show zt ([] : List Rw) = [] from rfl, List.append_nil]
    exact q
  · have q := mD (U ++ X ++ W) U.length (U ++ X).length (by simp; omega) (by simp) hl
    have e : ub (U ++ X ++ W) U.length (U ++ X).length = U ++ zt X ++ W := by
      unfold ub
      rw [show (U ++ X ++ W).take U.length = U by rw [List.append_assoc]; exact List.take_left' rfl, show (U ++ X ++ W).drop U.length = X ++ W by rw [List.append_assoc]; exact List.drop_left' rfl, show (U ++ X).length - U.length = X.length by simp, show (X ++ W).take X.length = X from List.take_left' rfl, show (U ++ X ++ W).drop (U ++ X).length = W from List.drop_left' rfl, List.append_assoc]
    rw [e] at q
    exact q
structure Bkk (s : Nat) (xs : List Rw) (p : List Rw × List Rw) : Prop where
  f : st s p.1
  p : (p.1 ++ p.2).Perm xs
theorem Bkk.len {s : Nat} {xs : List Rw} {p : List Rw × List Rw} (h : Bkk s xs p) : p.1.length + p.2.length = xs.length := by
  have := h.p.length_eq
  rw [List.length_append] at this
  exact this
theorem sH (xs : List Rw) (hl : xs.length ≤ 100000000) : zn Go.Proofs.Try.prog 160 [.sl 0 0 xs.length, I xs.length, .fn 77 []] [rwR xs] (.tup []) [rwR (zt xs)] true := by
  refine zj [] Go.Proofs.Try.func160 rfl rfl ?_
  simp only [Go.Proofs.Try.ntmps160, List.length_cons, List.length_nil, Nat.reduceAdd, Nat.reduceSub, List.replicate_succ, List.replicate_zero, List.cons_append, List.nil_append]
  repeat' first | refine zJ ?_ | refine zA ?_ | refine zO [] ?_ | (refine isA ?_; refine zb rfl ?_) | (refine isL ?_; refine zU rfl (by kernel_rfl) rfl rfl ?_) | (refine za rfl ?_; refine zT rfl (by kernel_rfl) rfl rfl ?_) | refine zD ?_ | refine zB _ rfl (by kernel_rfl) ?_ | refine zV rfl ?_ | refine zW rfl ?_ | refine zC ?_ | with_reducible refine zM ?_ | refine zH ?_ | refine zI ?_ | (with_reducible first | refine zK ?_ | refine zL ?_ | refine zE ?_ | refine zG ?_ | refine zF ?_) | refine zN ?_
  refine zy (α := { p : List Rw × List Rw // Bkk 20 xs p }) (fun p => ⟨((.sl 0 0 xs.length) :: (I xs.length) :: (.fn 77 []) :: .any :: .any :: .any :: (I 20) :: (I p.1.1.length) :: (I ((p.1.1.length + 20 : Nat) : Int)) :: .any :: .any :: .any :: .any :: .any :: .any :: .any :: .any :: .any :: .any :: .any :: .any :: .any :: .any :: .any :: .any :: .any :: .any :: .any :: .any :: .any :: .any :: .any :: .any :: .any :: .any :: .any :: .any :: .any :: .any :: .any :: .any :: .any :: .any :: .any :: .any :: .any :: .any :: .any :: .any :: .any :: .any :: .any :: .any :: .any :: .any :: .any :: .any :: .any :: .any :: .any :: .any :: .any :: .any :: []), [rwR (p.1.1 ++ p.1.2)], 1⟩) (fun p => p.1.2.length) ⟨([], xs), t8, .refl _⟩ ?_ ?_
  · exact yf 1 [0] rfl rfl yF (by decide) (.cons rfl rfl rfl rfl (zg (zR _ _)) .nil) (by repeat' first | exact zh | refine zc ?_ ?_ | exact zl | exact le_refl rfl | exact zm rfl rfl | exact zz rfl)
  · rintro ⟨⟨U, V⟩, J⟩
    have j1 : U.length + V.length = xs.length := J.len
    have j2 : (U ++ V).Perm xs := J.p
    have j3 : st 20 U := J.f
    repeat' first | refine zJ ?_ | refine zA ?_ | refine zO [] ?_ | (refine isA ?_; refine zb rfl ?_) | (refine isL ?_; refine zU rfl (by kernel_rfl) rfl rfl ?_) | (refine za rfl ?_; refine zT rfl (by kernel_rfl) rfl rfl ?_) | refine zD ?_ | refine zB _ rfl (by kernel_rfl) ?_ | refine zV rfl ?_ | refine zW rfl ?_ | refine zC ?_ | with_reducible refine zM ?_ | refine zH ?_ | refine zI ?_ | (with_reducible first | refine zK ?_ | refine zL ?_ | refine zE ?_ | refine zG ?_ | refine zF ?_) | refine zN ?_
    refine zf rfl (fun h => ?_) (fun h => ?_)
    · have hlt : 20 ≤ V.length := by have := of_decide_eq_true h; simp only at this; omega
      have t1 : V.take 20 ++ V.drop 20 = V := List.take_append_drop _ _
      have t2 : (V.take 20).length = 20 := by simp; omega
      have t3 := (z1 (V.take 20)).length_eq
      have t4 : (V.drop 20).length = V.length - 20 := by simp
      have c1 := mE (ds := U ++ V) (rs := U ++ zt (V.take 20) ++ V.drop 20) (L := xs.length) (a := (U.length : Int)) (b := ((U.length + 20 : Nat) : Int)) U (V.take 20) (V.drop 20) (by rw [List.append_assoc, t1]) (by rw [List.length_append]; omega) hl rfl (by rw [List.length_append]; omega) rfl
      repeat' first | refine zJ ?_ | refine zA ?_ | refine zO [] ?_ | (refine isA ?_; refine zb rfl ?_) | (refine isL ?_; refine zU rfl (by kernel_rfl) rfl rfl ?_) | (refine za rfl ?_; refine zT rfl (by kernel_rfl) rfl rfl ?_) | (refine zq 166 ?_; refine zd rfl (zS (K := []) (Rs' := [_]) [0] (by decide) rfl c1 (.cons rfl rfl rfl (zR _ _) (zR _ _) .nil) (.cons (.sl rfl) (.cons (.same rfl) (.cons (.same rfl) (.cons (.same rfl) .nil)))) (fun q hq => by cases hq) rfl) rfl ?_) | (refine zr 166 rfl ?_; refine zY rfl (by kernel_rfl) rfl (zS (K := []) (Rs' := [_]) [0] (by decide) rfl c1 (.cons rfl rfl rfl (zR _ _) (zR _ _) .nil) (.cons (.sl rfl) (.cons (.same rfl) (.cons (.same rfl) (.cons (.same rfl) .nil)))) (fun q hq => by cases hq) rfl) rfl ?_) | refine zD ?_ | refine zB _ rfl (by kernel_rfl) ?_ | refine zV rfl ?_ | refine zW rfl ?_ | refine zC ?_ | with_reducible refine zM ?_ | refine zH ?_ | refine zI ?_ | (with_reducible first | refine zK ?_ | refine zL ?_ | refine zE ?_ | refine zG ?_ | refine zF ?_) | refine zN ?_
      refine ⟨⟨(U ++ zt (V.take 20), V.drop 20), u9 j3 (by omega) (yb _), ?_⟩, by simp only; omega, ?_⟩
      · refine List.Perm.trans ?_ j2
        rw [List.append_assoc]
        refine List.Perm.append_left _ ?_
        have := (z1 (V.take 20)).append_right (V.drop 20)
        rw [t1] at this
        exact this
      · exact yf 1 [0] rfl rfl yF (by decide) (.cons rfl rfl rfl rfl (zg (zR _ _)) .nil) (by
          repeat' first | exact zh | refine zc ?_ ?_ | exact zl | exact le_refl rfl | exact zm rfl rfl | exact yP (congrArg _ (show (((U ++ zt (V.take 20)).length : Nat) : Int) = ((U.length + 20 : Nat) : Int) by rw [List.length_append]; omega)) | exact yP (congrArg _ (show (((U ++ zt (V.take 20)).length + 20 : Nat) : Int) = IntKind.i64.wrap (((U.length + 20 : Nat) : Int) + 20) by rw [List.length_append, IntKind.wrap_i64]; omega)))
    · have hge : V.length < 20 := by have := of_decide_eq_false h; simp only at this; omega
      have t3 := (z1 V).length_eq
      have c1 := mE (ds := U ++ V) (rs := U ++ zt V) (L := xs.length) (a := (U.length : Int)) (b := (xs.length : Int)) U V [] (by simp) (by rw [List.length_append]; omega) hl rfl (by rw [List.length_append]; omega) (by simp)
      have b1 : Blk 20 (U ++ zt V) := v3 j3 (by omega) (yb _)
      have p1 : (U ++ zt V).Perm xs := ((z1 V).append_left U).trans j2
      repeat' first | refine zJ ?_ | refine zA ?_ | refine zO [] ?_ | (refine isA ?_; refine zb rfl ?_) | (refine isL ?_; refine zU rfl (by kernel_rfl) rfl rfl ?_) | (refine za rfl ?_; refine zT rfl (by kernel_rfl) rfl rfl ?_) | (refine zq 166 ?_; refine zd rfl (zS (K := []) (Rs' := [_]) [0] (by decide) rfl c1 (.cons rfl rfl rfl (zR _ _) (zR _ _) .nil) (.cons (.sl rfl) (.cons (.same rfl) (.cons (.same rfl) (.cons (.same rfl) .nil)))) (fun q hq => by cases hq) rfl) rfl ?_) | (refine zr 166 rfl ?_; refine zY rfl (by kernel_rfl) rfl (zS (K := []) (Rs' := [_]) [0] (by decide) rfl c1 (.cons rfl rfl rfl (zR _ _) (zR _ _) .nil) (.cons (.sl rfl) (.cons (.same rfl) (.cons (.same rfl) (.cons (.same rfl) .nil)))) (fun q hq => by cases hq) rfl) rfl ?_) | refine zD ?_ | refine zB _ rfl (by kernel_rfl) ?_ | refine zV rfl ?_ | refine zW rfl ?_ | refine zC ?_ | with_reducible refine zM ?_ | refine zH ?_ | refine zI ?_ | (with_reducible first | refine zK ?_ | refine zL ?_ | refine zE ?_ | refine zG ?_ | refine zF ?_) | refine zN ?_
      refine zy (α := { p : Nat × List Rw // 20 ≤ p.1 ∧ Blk p.1 p.2 ∧ p.2.Perm xs }) (fun p => ⟨((.sl 0 0 xs.length) :: (I xs.length) :: (.fn 77 []) :: .any :: .any :: .any :: (I p.1.1) :: .any :: .any :: .any :: .any :: .any :: .any :: .any :: .any :: .any :: .any :: .any :: .any :: .any :: .any :: .any :: .any :: .any :: .any :: .any :: .any :: .any :: .any :: .any :: .any :: .any :: .any :: .any :: .any :: .any :: .any :: .any :: .any :: .any :: .any :: .any :: .any :: .any :: .any :: .any :: .any :: .any :: .any :: .any :: .any :: .any :: .any :: .any :: .any :: .any :: .any :: .any :: .any :: .any :: .any :: .any :: .any :: []), [rwR p.1.2], 1⟩) (fun p => xs.length - p.1.1) ⟨(20, U ++ zt V), Nat.le_refl _, b1, p1⟩ ?_ ?_
      · exact yf 1 [0] rfl rfl yF (by decide) (.cons rfl rfl rfl rfl (zg (zR _ _)) .nil) (by repeat' first | exact zh | refine zc ?_ ?_ | exact zl | exact le_refl rfl | exact zm rfl rfl | exact zz rfl)
      · rintro ⟨⟨s, ys⟩, k1, k2, k3⟩
        simp only at k1 k2 k3
        have yl := k3.length_eq
        repeat' first | refine zJ ?_ | refine zA ?_ | refine zO [] ?_ | (refine isA ?_; refine zb rfl ?_) | (refine isL ?_; refine zU rfl (by kernel_rfl) rfl rfl ?_) | (refine za rfl ?_; refine zT rfl (by kernel_rfl) rfl rfl ?_) | refine zD ?_ | refine zB _ rfl (by kernel_rfl) ?_ | refine zV rfl ?_ | refine zW rfl ?_ | refine zC ?_ | with_reducible refine zM ?_ | refine zH ?_ | refine zI ?_ | (with_reducible first | refine zK ?_ | refine zL ?_ | refine zE ?_ | refine zG ?_ | refine zF ?_) | refine zN ?_
        refine zf rfl (fun h => ?_) (fun h => ?_)
        · have hlt : s < xs.length := by have := of_decide_eq_true h; simp only at this; omega
          have e2 : IntKind.i64.wrap (2 * (s : Int)) = ((2 * s : Nat) : Int) := by rw [IntKind.wrap_i64]; omega
          have e2' : IntKind.i64.wrap ((s : Int) * 2) = ((2 * s : Nat) : Int) := by rw [IntKind.wrap_i64]; omega
          repeat' first | refine zJ ?_ | refine zA ?_ | refine zO [] ?_ | (refine isA ?_; refine zb rfl ?_) | (refine isL ?_; refine zU rfl (by kernel_rfl) rfl rfl ?_) | (refine za rfl ?_; refine zT rfl (by kernel_rfl) rfl rfl ?_) | refine zD ?_ | refine zB _ rfl (by kernel_rfl) ?_ | refine zV rfl ?_ | refine zW rfl ?_ | refine zC ?_ | with_reducible refine zM ?_ | refine zH ?_ | refine zI ?_ | (with_reducible first | refine zK ?_ | refine zL ?_ | refine zE ?_ | refine zG ?_ | refine zF ?_) | refine zN ?_
          refine zy (α := { p : List Rw × List Rw // Bkk (2 * s) xs p ∧ Blk s p.2 }) (fun p => ⟨((.sl 0 0 xs.length) :: (I xs.length) :: (.fn 77 []) :: .any :: .any :: .any :: (I s) :: (I p.1.1.length) :: (I ((p.1.1.length + 2 * s : Nat) : Int)) :: .any :: .any :: .any :: .any :: .any :: .any :: .any :: .any :: .any :: .any :: .any :: .any :: .any :: .any :: .any :: .any :: .any :: .any :: .any :: .any :: .any :: .any :: .any :: .any :: .any :: .any :: .any :: .any :: .any :: .any :: .any :: .any :: .any :: .any :: .any :: .any :: .any :: .any :: .any :: .any :: .any :: .any :: .any :: .any :: .any :: .any :: .any :: .any :: .any :: .any :: .any :: .any :: .any :: .any :: []), [rwR (p.1.1 ++ p.1.2)], 1⟩) (fun p => p.1.2.length) ⟨([], ys), ⟨t8, k3⟩, k2⟩ ?_ ?_
          · exact yf 1 [0] rfl rfl yF (by decide) (.cons rfl rfl rfl rfl (zg (zR _ _)) .nil) (by
              repeat' first | exact zh | refine zc ?_ ?_ | exact zl | exact le_refl rfl | exact zm rfl rfl | exact yP (congrArg _ (show (((([] : List Rw).length + 2 * s : Nat)) : Int) = IntKind.i64.wrap (2 * (s : Int)) by rw [e2]; simp)))
          · rintro ⟨⟨U, V⟩, J, j4⟩
            have j1 : U.length + V.length = xs.length := J.len
            have j2 : (U ++ V).Perm xs := J.p
            have j3 : st (2 * s) U := J.f
            simp only at j4
            have ea : IntKind.i64.wrap ((U.length : Int) + s) = ((U.length + s : Nat) : Int) := by rw [IntKind.wrap_i64]; omega
            repeat' first | refine zJ ?_ | refine zA ?_ | refine zO [] ?_ | (refine isA ?_; refine zb rfl ?_) | (refine isL ?_; refine zU rfl (by kernel_rfl) rfl rfl ?_) | (refine za rfl ?_; refine zT rfl (by kernel_rfl) rfl rfl ?_) | refine zD ?_ | refine zB _ rfl (by kernel_rfl) ?_ | refine zV rfl ?_ | refine zW rfl ?_ | refine zC ?_ | with_reducible refine zM ?_ | refine zH ?_ | refine zI ?_ | (with_reducible first | refine zK ?_ | refine zL ?_ | refine zE ?_ | refine zG ?_ | refine zF ?_) | refine zN ?_
            refine zf rfl (fun h => ?_) (fun h => ?_)
            · have hle : 2 * s ≤ V.length := by have := of_decide_eq_true h; simp only at this; omega
              obtain ⟨X, Y, Z, rfl, hX, hY, sX, sY, hZ⟩ := mv (by omega) j4 hle
              simp only [List.length_append] at j1
              have t3 := (z1 (X ++ Y)).length_eq
              rw [List.length_append] at t3
              have c1 := (n7 _ U X Y Z (Nat.le_refl _) sX sY (by omega) (by omega) (by simp only [List.length_append]; omega)).x (ds := U ++ (X ++ Y ++ Z)) (rs := U ++ zt (X ++ Y) ++ Z) (L := xs.length) (a := (U.length : Int)) (m := IntKind.i64.wrap ((U.length : Int) + s)) (b := ((U.length + 2 * s : Nat) : Int)) (by simp only [List.append_assoc]) (by simp only [List.length_append]; omega) rfl (by rw [ea, List.length_append]; omega) (by simp only [List.length_append]; omega) rfl
              repeat' first | refine zJ ?_ | refine zA ?_ | refine zO [] ?_ | (refine isA ?_; refine zb rfl ?_) | (refine isL ?_; refine zU rfl (by kernel_rfl) rfl rfl ?_) | (refine za rfl ?_; refine zT rfl (by kernel_rfl) rfl rfl ?_) | (refine zq 167 ?_; refine zd rfl (zS (K := []) (Rs' := [_]) [0] (by decide) rfl c1 (.cons rfl rfl rfl (zR _ _) (zR _ _) .nil) (.cons (.sl rfl) (.cons (.same rfl) (.cons (.same rfl) (.cons (.same rfl) (.cons (.same rfl) .nil))))) (fun q hq => by cases hq) rfl) rfl ?_) | (refine zr 167 rfl ?_; refine zY rfl (by kernel_rfl) rfl (zS (K := []) (Rs' := [_]) [0] (by decide) rfl c1 (.cons rfl rfl rfl (zR _ _) (zR _ _) .nil) (.cons (.sl rfl) (.cons (.same rfl) (.cons (.same rfl) (.cons (.same rfl) (.cons (.same rfl) .nil))))) (fun q hq => by cases hq) rfl) rfl ?_) | refine zD ?_ | refine zB _ rfl (by kernel_rfl) ?_ | refine zV rfl ?_ | refine zW rfl ?_ | refine zC ?_ | with_reducible refine zM ?_ | refine zH ?_ | refine zI ?_ | (with_reducible first | refine zK ?_ | refine zL ?_ | refine zE ?_ | refine zG ?_ | refine zF ?_) | refine zN ?_
              refine ⟨⟨(U ++ zt (X ++ Y), Z), ⟨u9 j3 (by omega) (yb _), ?_⟩, hZ⟩, by simp only [List.length_append]; omega, ?_⟩
              · refine List.Perm.trans ?_ j2
                simp only
                rw [List.append_assoc]
                exact List.Perm.append_left _ ((z1 (X ++ Y)).append_right Z)
              · exact yf 1 [0] rfl rfl yF (by decide) (.cons rfl rfl rfl rfl (zg (zR _ _)) .nil) (by
                  repeat' first | exact zh | refine zc ?_ ?_ | exact zl | exact le_refl rfl | exact zm rfl rfl | exact yP (congrArg _ (show (((U ++ zt (X ++ Y)).length : Nat) : Int) = ((U.length + 2 * s : Nat) : Int) by rw [List.length_append]; omega)) | exact yP (congrArg _ (show (((U ++ zt (X ++ Y)).length + 2 * s : Nat) : Int) = IntKind.i64.wrap (((U.length + 2 * s : Nat) : Int) + IntKind.i64.wrap (2 * (s : Int))) by rw [List.length_append, e2, IntKind.wrap_i64]; omega)))
            · have hge : V.length < 2 * s := by have := of_decide_eq_false h; simp only at this; omega
              repeat' first | refine zJ ?_ | refine zA ?_ | refine zO [] ?_ | (refine isA ?_; refine zb rfl ?_) | (refine isL ?_; refine zU rfl (by kernel_rfl) rfl rfl ?_) | (refine za rfl ?_; refine zT rfl (by kernel_rfl) rfl rfl ?_) | refine zD ?_ | refine zB _ rfl (by kernel_rfl) ?_ | refine zV rfl ?_ | refine zW rfl ?_ | refine zC ?_ | with_reducible refine zM ?_ | refine zH ?_ | refine zI ?_ | (with_reducible first | refine zK ?_ | refine zL ?_ | refine zE ?_ | refine zG ?_ | refine zF ?_) | refine zN ?_
              refine zf rfl (fun h2 => ?_) (fun h2 => ?_)
              · have hlt2 : s < V.length := by have := of_decide_eq_true h2; simp only [ea] at this; omega
                obtain ⟨X, Y, rfl, hX, sX, sY, hY⟩ := mL j4 hlt2 hge
                simp only [List.length_append] at j1 hge
                have t3 := (z1 (X ++ Y)).length_eq
                rw [List.length_append] at t3
                have c1 := (n7 _ U X Y [] (Nat.le_refl _) sX sY (by omega) (by omega) (by simp only [List.length_append, List.length_nil]; omega)).x (ds := U ++ (X ++ Y)) (rs := U ++ zt (X ++ Y)) (L := xs.length) (a := (U.length : Int)) (m := IntKind.i64.wrap ((U.length : Int) + s)) (b := (xs.length : Int)) (by simp only [List.append_assoc, List.append_nil]) (by simp only [List.length_append]; omega) rfl (by rw [ea, List.length_append]; omega) (by simp only [List.length_append]; omega) (by simp only [List.append_nil])
                repeat' first | refine zJ ?_ | refine zA ?_ | refine zO [] ?_ | (refine isA ?_; refine zb rfl ?_) | (refine isL ?_; refine zU rfl (by kernel_rfl) rfl rfl ?_) | (refine za rfl ?_; refine zT rfl (by kernel_rfl) rfl rfl ?_) | (refine zq 167 ?_; refine zd rfl (zS (K := []) (Rs' := [_]) [0] (by decide) rfl c1 (.cons rfl rfl rfl (zR _ _) (zR _ _) .nil) (.cons (.sl rfl) (.cons (.same rfl) (.cons (.same rfl) (.cons (.same rfl) (.cons (.same rfl) .nil))))) (fun q hq => by cases hq) rfl) rfl ?_) | (refine zr 167 rfl ?_; refine zY rfl (by kernel_rfl) rfl (zS (K := []) (Rs' := [_]) [0] (by decide) rfl c1 (.cons rfl rfl rfl (zR _ _) (zR _ _) .nil) (.cons (.sl rfl) (.cons (.same rfl) (.cons (.same rfl) (.cons (.same rfl) (.cons (.same rfl) .nil))))) (fun q hq => by cases hq) rfl) rfl ?_) | refine zD ?_ | refine zB _ rfl (by kernel_rfl) ?_ | refine zV rfl ?_ | refine zW rfl ?_ | refine zC ?_ | with_reducible refine zM ?_ | refine zH ?_ | refine zI ?_ | (with_reducible first | refine zK ?_ | refine zL ?_ | refine zE ?_ | refine zG ?_ | refine zF ?_) | refine zN ?_
                refine ⟨⟨(2 * s, U ++ zt (X ++ Y)), by simp only; omega, v3 j3 (by omega) (yb _), ((z1 _).append_left U).trans j2⟩, by simp only; omega, ?_⟩
                exact yf 1 [0] rfl rfl yF (by decide) (.cons rfl rfl rfl rfl (zg (zR _ _)) .nil) (by
                  repeat' first | exact zh | refine zc ?_ ?_ | exact zl | exact le_refl rfl | exact zm rfl rfl | exact yP (congrArg _ e2'.symm))
              · have hge2 : V.length ≤ s := by have := of_decide_eq_false h2; simp only [ea] at this; omega
                repeat' first | refine zJ ?_ | refine zA ?_ | refine zO [] ?_ | (refine isA ?_; refine zb rfl ?_) | (refine isL ?_; refine zU rfl (by kernel_rfl) rfl rfl ?_) | (refine za rfl ?_; refine zT rfl (by kernel_rfl) rfl rfl ?_) | refine zD ?_ | refine zB _ rfl (by kernel_rfl) ?_ | refine zV rfl ?_ | refine zW rfl ?_ | refine zC ?_ | with_reducible refine zM ?_ | refine zH ?_ | refine zI ?_ | (with_reducible first | refine zK ?_ | refine zL ?_ | refine zE ?_ | refine zG ?_ | refine zF ?_) | refine zN ?_
                refine ⟨⟨(2 * s, U ++ V), by simp only; omega, v3 j3 (by omega) (uT j4 hge2), j2⟩, by simp only; omega, ?_⟩
                exact yf 1 [0] rfl rfl yF (by decide) (.cons rfl rfl rfl rfl (zg (zR _ _)) .nil) (by
                  repeat' first | exact zh | refine zc ?_ ?_ | exact zl | exact le_refl rfl | exact zm rfl rfl | exact yP (congrArg _ e2'.symm))
        · have hge : xs.length ≤ s := by have := of_decide_eq_false h; simp only at this; omega
          have e : ys = zt xs := wM (uT k2 (by omega)) k3
          repeat' first | refine zJ ?_ | refine zA ?_ | refine zO [] ?_ | (refine isA ?_; refine zb rfl ?_) | (refine isL ?_; refine zU rfl (by kernel_rfl) rfl rfl ?_) | (refine za rfl ?_; refine zT rfl (by kernel_rfl) rfl rfl ?_) | exact vb 1 [0] yF (by decide) (.cons rfl rfl rfl rfl (yL (congrArg rwT.flat e) (zR _ _)) .nil) | refine zD ?_ | refine zB _ rfl (by kernel_rfl) ?_ | refine zV rfl ?_ | refine zW rfl ?_ | refine zC ?_ | with_reducible refine zM ?_ | refine zH ?_ | refine zI ?_ | (with_reducible first | refine zK ?_ | refine zL ?_ | refine zE ?_ | refine zG ?_ | refine zF ?_) | refine zN ?_
theorem margs {P : Program} {f : FuncId} {cargs cargs' : List V} {hs : List Reg} {r : V} {hs' : List Reg} {al : Bool} (h : zn P f cargs hs r hs' al) (hl : cargs'.length = cargs.length) (ha : ∀ A w φ g, zi A w φ cargs' g → zi A w φ cargs g) : zn P f cargs' hs r hs' al :=
  fun A φ w xs hok hr hs => h A φ w xs hok (ha _ _ _ _ hr) (hs.trans hl)
theorem mp (xs : List Rw) (hl : xs.length ≤ 100000000) : zn Go.Proofs.Try.prog 134 [.sl 0 0 xs.length, .fn 77 []] [rwR xs] (.tup []) [rwR (zt xs)] true := by
  refine zj [] Go.Proofs.Try.func134 rfl rfl ?_
  simp only [Go.Proofs.Try.ntmps134, List.length_cons, List.length_nil, Nat.reduceAdd, Nat.reduceSub, List.replicate_succ, List.replicate_zero, List.cons_append, List.nil_append]
  repeat' first | refine zJ ?_ | refine zA ?_ | refine zO [] ?_ | (refine isA ?_; refine zb rfl ?_) | (refine isL ?_; refine zU rfl (by kernel_rfl) rfl rfl ?_) | (refine za rfl ?_; refine zT rfl (by kernel_rfl) rfl rfl ?_) | (refine zq 160 ?_; refine zd rfl (zS (K := []) (Rs' := [_]) [0] (by decide) rfl (sH xs hl) (.cons rfl rfl rfl (zR _ _) (zR _ _) .nil) (.cons (.sl rfl) (.cons (.same rfl) (.cons (.same rfl) .nil))) (fun q hq => by cases hq) rfl) rfl ?_) | (refine zr 160 rfl ?_; refine zY rfl (by kernel_rfl) rfl (zS (K := []) (Rs' := [_]) [0] (by decide) rfl (sH xs hl) (.cons rfl rfl rfl (zR _ _) (zR _ _) .nil) (.cons (.sl rfl) (.cons (.same rfl) (.cons (.same rfl) .nil))) (fun q hq => by cases hq) rfl) rfl ?_) | exact vb 1 [0] yF (by decide) (.cons rfl rfl rfl rfl (zg (zR _ _)) .nil) | refine zD ?_ | refine zB _ rfl (by kernel_rfl) ?_ | refine zV rfl ?_ | refine zW rfl ?_ | refine zC ?_ | with_reducible refine zM ?_ | refine zH ?_ | refine zI ?_ | (with_reducible first | refine zK ?_ | refine zL ?_ | refine zE ?_ | refine zG ?_ | refine zF ?_) | refine zN ?_
theorem uS (xs : List Rw) (hl : xs.length ≤ 100000000) : zn Go.Proofs.Try.prog 134 [.sl 0 0 xs.length, .k (.func (.func 77) #[] #[])] [rwR xs] (.tup []) [rwR (zt xs)] true :=
  margs (mp xs hl) rfl fun A w φ g h => by
    simp only [zi, Rel] at h ⊢
    obtain ⟨h1, ⟨y, h2, rfl⟩, _⟩ := h
    exact ⟨h1, ⟨_, h2, #[], rfl, rfl, trivial⟩, trivial⟩
end Go.Proofs.Ytkcicbigpbdjpaa.Ab.Pr
namespace Go.Proofs.Ytkcicbigpbdjpaa.Ab
open Go.RowKit
def rwI (x : Rw) : List Int := [x.a, x.b, x.c]
def rwD (x y : Rw) : Bool := decide (rwI x = rwI y)
theorem s9 {x y : Rw} : rwD x y = true ↔ x = y := by
  cases x; cases y
  simp [rwD, rwI]
def y8 : List Rw → List Rw → Bool
  | [], [] => true
  | x :: xs, y :: ys => rwD x y && y8 xs ys
  | _, _ => false
theorem wI : ∀ {xs ys : List Rw}, y8 xs ys = true ↔ xs = ys
  | [], [] => by simp [y8]
  | x :: xs, y :: ys => by simp only [y8, Bool.and_eq_true, s9, wI, List.cons.injEq]
  | [], y :: ys => by simp [y8]
  | x :: xs, [] => by simp [y8]
theorem um {xs ys : List Rw} (h : xs.length ≠ ys.length) : y8 xs ys = false := by
  cases he : y8 xs ys with
  | false => rfl
  | true => exact absurd (congrArg List.length (wI.1 he)) h
theorem tT {xs ys : List Rw} {i : Nat} {x y : Rw} (hx : xs[i]? = some x) (hy : ys[i]? = some y) : y8 (xs.drop i) (ys.drop i) = (rwD x y && y8 (xs.drop (i + 1)) (ys.drop (i + 1))) := by
  rw [yR hx, yR hy, y8]
end Go.Proofs.Ytkcicbigpbdjpaa.Ab
namespace Go.Proofs.Ytkcicbigpbdjpaa.Ab.Pr
open Go.RowKit
section
variable {P : Program} {o : Oper} {ρ : Operand → V} {H : List Reg}
theorem qA {fs : Array Field} {t : TypeId} (d : Nat) (hf : IntFs P t fs) {A : Nat → Prop} {w : World} {φ : List Hd} {us bs : List Int} {xs ys : Array Value} (ha : us.length = fs.size) (hb : bs.length = fs.size) (hx : zi A w φ (us.map I) (fun i => xs[i]?)) (hy : zi A w φ (bs.map I) (fun i => ys[i]?)) :
    (Op.equalIn (d + 2) t (.agg xs) (.agg ys)).run P w = .ok (decide (us = bs)) w := by
  have he : P.fieldsOf t = fs := by simp [Program.fieldsOf, hf.u]
  rw [run_equalIn_struct (P := P) w (d + 1) t xs ys (by rw [he]; exact hf.u) hf.held, he]
  refine sD (d := d) fs.toList us bs (by simpa using ha) (by simpa using hb) fun j f a b q1 q2 q3 => ?_
  obtain ⟨g1, g2, g3⟩ := hf.fs j f q1
  rw [g2]
  exact ⟨g1, g3, qH hx q2, qH hy q3⟩
structure PrFs (P : Program) (t rt bt : TypeId) (f0 f1 f2 : Field) : Prop where
  u : P.underlying t = some (.struct #[f0, f1, f2])
  held : P.stoodInHeld t = false
  guard : P.eqGuardType P.depth t = false
  n0 : (f0.name == "_") = false
  n1 : (f1.name == "_") = false
  n2 : (f2.name == "_") = false
  t0 : f0.type = rt
  t1 : f1.type = rt
  t2 : f2.type = bt
  o0 : f0.offset = 0
  o1 : f1.offset = 3
  o2 : f2.offset = 6
  b : P.underlying bt = some .bool
theorem vV {A : Nat → Prop} {w : World} {φ : List Hd} {cs : List V} {xs : Array Value} {off n : Nat} (h : zi A w φ cs (fun i => xs[i]?)) (hl : off + n ≤ cs.length) : zi A w φ ((cs.drop off).take n) (fun i => (xs.extract off (off + n))[i]?) := by
  refine z2 (yi (ya h off) n) fun i hi => ?_
  have hi' : i < n := by simp at hi; omega
  obtain ⟨y, h1, _⟩ := yG h (i := off + i) (List.getElem?_eq_getElem (by omega))
  have hs : off + i < xs.size := (Array.getElem?_eq_some_iff.1 h1).1
  rw [Array.getElem?_extract]
  simp only [show i < min (off + n) xs.size - off by omega, if_true]
def prD (a b : Rw) : Bool := Go.Proofs.Ytkcicbigpbdjpaa.Ab.rwD a.l b.l && (Go.Proofs.Ytkcicbigpbdjpaa.Ab.rwD a.r b.r && (a.m == b.m))
theorem mV {t rt bt : TypeId} {f0 f1 f2 : Field} {fr : Array Field} (hf : PrFs P t rt bt f0 f1 f2) (hr : IntFs P rt fr) (h3 : fr.size = 3) [hg : Ag P rt 3] {A : Nat → Prop} {w : World} {φ : List Hd} {a b : Rw} {xs ys : Array Value} (hx : zi A w φ (rwE a) (fun i => xs[i]?)) (hy : zi A w φ (rwE b) (fun i => ys[i]?)) :
    (Op.equalIn 10000 t (.agg xs) (.agg ys)).run P w = .ok (prD a b) w := by
  have he : P.fieldsOf t = #[f0, f1, f2] := by simp [Program.fieldsOf, hf.u]
  rw [show (10000 : Nat) = 9999 + 1 from rfl, run_equalIn_struct (P := P) w 9999 t xs ys (by rw [he]; exact hf.u) hf.held, he]
  have p0 : ∀ zs : Array Value, (part rt zs 0).run P w = .ok (.agg (zs.extract 0 (0 + 3))) w := fun zs => by simp [part, hg.a w, hg.s w]
  have p1 : ∀ zs : Array Value, (part rt zs 3).run P w = .ok (.agg (zs.extract 3 (3 + 3))) w := fun zs => by simp [part, hg.a w, hg.s w]
  have e0 := qA (P := P) 9997 hr (us := Go.Proofs.Ytkcicbigpbdjpaa.Ab.rwI a.l) (bs := Go.Proofs.Ytkcicbigpbdjpaa.Ab.rwI b.l) (by rw [h3]; rfl) (by rw [h3]; rfl) (vV (off := 0) (n := 3) hx (by show 0 + 3 ≤ 7; decide)) (vV (off := 0) (n := 3) hy (by show 0 + 3 ≤ 7; decide))
  have e1 := qA (P := P) 9997 hr (us := Go.Proofs.Ytkcicbigpbdjpaa.Ab.rwI a.r) (bs := Go.Proofs.Ytkcicbigpbdjpaa.Ab.rwI b.r) (by rw [h3]; rfl) (by rw [h3]; rfl) (vV (off := 3) (n := 3) hx (by show 3 + 3 ≤ 7; decide)) (vV (off := 3) (n := 3) hy (by show 3 + 3 ≤ 7; decide))
  have m0 : ∀ (zs : Array Value) (c : Rw), zi A w φ (rwE c) (fun i => zs[i]?) → (part bt zs 6).run P w = .ok (.bool c.m) w := fun zs c hz => by
    obtain ⟨y, h1, h2⟩ := yG hz (i := 6) (c := B c.m) rfl
    simp only [Rel] at h2
    subst h2
    simp [part, isAgg, run_underlying hf.b, h1]
  have n0 : f0.name ≠ "_" := by simpa using hf.n0
  have n1 : f1.name ≠ "_" := by simpa using hf.n1
  have n2 : f2.name ≠ "_" := by simpa using hf.n2
  show (Op.eqFields 9999 xs ys [f0, f1, f2]).run P w = _
  have l3 : (Op.eqFields 9999 xs ys []).run P w = .ok true w := by simp [Op.eqFields]
  have l2 : (Op.eqFields 9999 xs ys [f2]).run P w = .ok (a.m == b.m) w := by
    rw [Op.eqFields, if_pos n2, hf.t2, hf.o2]
    simp only [Sem.run_bind, m0 xs a hx, m0 ys b hy, Result.andThen_ok, run_equalIn_bool w 9998 bt a.m b.m hf.b]
    cases hm : (a.m == b.m)
    · simp
    · simpa using l3
  have l1 : (Op.eqFields 9999 xs ys [f1, f2]).run P w = .ok (Go.Proofs.Ytkcicbigpbdjpaa.Ab.rwD a.r b.r && (a.m == b.m)) w := by
    rw [Op.eqFields, if_pos n1, hf.t1, hf.o1]
    simp only [Sem.run_bind, p1, e1, Result.andThen_ok]
    show (if (!Go.Proofs.Ytkcicbigpbdjpaa.Ab.rwD a.r b.r) = true then pure false else Op.eqFields 9999 xs ys [f2]).run P w = _
    cases hm : Go.Proofs.Ytkcicbigpbdjpaa.Ab.rwD a.r b.r
    · simp
    · simpa using l2
  rw [Op.eqFields, if_pos n0, hf.t0, hf.o0]
  simp only [Sem.run_bind, p0, e0, Result.andThen_ok]
  show (if (!Go.Proofs.Ytkcicbigpbdjpaa.Ab.rwD a.l b.l) = true then pure false else Op.eqFields 9999 xs ys [f1, f2]).run P w = _
  unfold prD
  cases hm : Go.Proofs.Ytkcicbigpbdjpaa.Ab.rwD a.l b.l
  · simp
  · simpa using l1
theorem pA {t t' rt bt : TypeId} {x y : Operand} {a b : Rw} {f0 f1 f2 : Field} {fr : Array Field} (hf : PrFs P t rt bt f0 f1 f2) (hr : IntFs P rt fr) (h3 : fr.size = 3) [hg : Ag P rt 3] (ho : o.op = .binOp .neq t x y t') (hx : ρ x = .agg (rwE a)) (hy : ρ y = .agg (rwE b)) : zu P o ρ H (.k (.bool (!prD a b))) H := zv fun A φ ac w _ h => by
  have h1 := h x (by simp [ho, Op.operands])
  have h2 := h y (by simp [ho, Op.operands])
  rw [hx, Rel] at h1
  rw [hy, Rel] at h2
  obtain ⟨xs, e1, _, r1⟩ := h1
  obtain ⟨ys, e2, _, r2⟩ := h2
  refine ⟨.bool (!prD a b), ?_, by simp [Rel]⟩
  have hr : ((do eqGuard .neq t x y (.agg xs) (.agg ys); binOp .neq t (.agg xs) (.agg ys) : Sem Value)).run P w = .ok (.bool (!prD a b)) w := by
    rw [Sem.run_bind, run_eqGuard_agg w .neq t x y xs ys hf.guard]
    simp only [Result.andThen_ok, run_neq_struct, mV hf hr h3 r1 r2]
  simp only [execOp, ho, e1, e2]
  rw [Sem.run_bind, hr]
  rfl
end
theorem prFs : ∃ f0 f1 f2, PrFs Go.Proofs.Try.prog 73 71 4 f0 f1 f2 :=
  ⟨_, _, _, Go.Proofs.Try.underlying73, by kernel_rfl, by kernel_rfl, by kernel_rfl, by kernel_rfl, by kernel_rfl, by kernel_rfl, by kernel_rfl, by kernel_rfl, by kernel_rfl, by kernel_rfl, by kernel_rfl, Go.Proofs.Try.underlying4⟩
theorem qE {o : Oper} {ρ : Operand → V} {H : List Reg} {t' : TypeId} {x y : Operand} {a b : Rw} (ho : o.op = .binOp .neq 73 x y t') (hx : ρ x = .agg (rwE a)) (hy : ρ y = .agg (rwE b)) : zu Go.Proofs.Try.prog o ρ H (B (!prD a b)) H := by
  obtain ⟨f0, f1, f2, hf⟩ := prFs
  exact pA hf (nI Go.Proofs.Try.underlying71 (by kernel_rfl) (by kernel_rfl) (by kernel_rfl)) (by kernel_rfl) ho hx hy
theorem mX {x y : Rw} : prD x y = true ↔ x = y := by
  obtain ⟨a, b, c⟩ := x
  obtain ⟨d, e, f⟩ := y
  simp [prD, s9]
def y8 : List Rw → List Rw → Bool
  | [], [] => true
  | x :: xs, y :: ys => prD x y && y8 xs ys
  | _, _ => false
theorem wI : ∀ {xs ys : List Rw}, y8 xs ys = true ↔ xs = ys
  | [], [] => by simp [y8]
  | x :: xs, y :: ys => by simp only [y8, Bool.and_eq_true, mX, wI, List.cons.injEq]
  | [], y :: ys => by simp [y8]
  | x :: xs, [] => by simp [y8]
theorem um {xs ys : List Rw} (h : xs.length ≠ ys.length) : y8 xs ys = false := by
  cases he : y8 xs ys with
  | false => rfl
  | true => exact absurd (congrArg List.length (wI.1 he)) h
theorem tT {xs ys : List Rw} {i : Nat} {x y : Rw} (hx : xs[i]? = some x) (hy : ys[i]? = some y) : y8 (xs.drop i) (ys.drop i) = (prD x y && y8 (xs.drop (i + 1)) (ys.drop (i + 1))) := by
  rw [yR hx, yR hy, y8]
def eqB (xs ys : List Rw) : Bool := y8 (zt xs) (zt ys)
theorem qh {xs ys : List Rw} : eqB xs ys = true ↔ xs.Perm ys := by
  unfold eqB
  rw [wI]
  constructor
  · intro h
    exact (z1 xs).symm.trans (by rw [h]; exact z1 ys)
  · intro h
    exact wM (yb xs) ((z1 xs).trans h)
theorem qp (us vs : List Rw) (hl : us.length ≤ 1000000000) : zn Go.Proofs.Try.prog 135 [rwL us, rwL vs] [] (B (y8 us vs)) [] false := by
  refine zj [4] Go.Proofs.Try.func135 rfl rfl ?_
  simp only [Go.Proofs.Try.ntmps135, List.length_cons, List.length_nil, Nat.reduceAdd, Nat.reduceSub, List.replicate_succ, List.replicate_zero, List.cons_append, List.nil_append]
  repeat' first | refine zJ ?_ | refine zA ?_ | refine zO [] ?_ | (refine isA ?_; refine zb rfl ?_) | (refine isL ?_; refine zU rfl (by kernel_rfl) rfl rfl ?_) | (refine za rfl ?_; refine zT rfl (by kernel_rfl) rfl rfl ?_) | refine zD ?_ | refine zB _ rfl (by kernel_rfl) ?_ | refine zV rfl ?_ | refine zW rfl ?_ | refine zC ?_ | with_reducible refine zM ?_ | refine zH ?_ | refine zI ?_ | (with_reducible first | refine zK ?_ | refine zL ?_ | refine zE ?_ | refine zG ?_ | refine zF ?_) | refine zN ?_
  refine zf rfl (fun h => ?_) (fun h => ?_)
  · have hne : us.length ≠ vs.length := by have : ¬ ((us.length : Int) = vs.length) := (by simpa using h); omega
    repeat' first | refine zJ ?_ | refine zA ?_ | refine zO [] ?_ | (refine isA ?_; refine zb rfl ?_) | (refine isL ?_; refine zU rfl (by kernel_rfl) rfl rfl ?_) | (refine za rfl ?_; refine zT rfl (by kernel_rfl) rfl rfl ?_) | exact yX rfl rfl (by rw [um hne]) | refine zD ?_ | refine zB _ rfl (by kernel_rfl) ?_ | refine zV rfl ?_ | refine zW rfl ?_ | refine zC ?_ | with_reducible refine zM ?_ | refine zH ?_ | refine zI ?_ | (with_reducible first | refine zK ?_ | refine zL ?_ | refine zE ?_ | refine zG ?_ | refine zF ?_) | refine zN ?_
  have he : us.length = vs.length := by have : ((us.length : Int) = vs.length) := (by simpa using h); omega
  repeat' first | refine zJ ?_ | refine zA ?_ | refine zO [] ?_ | (refine isA ?_; refine zb rfl ?_) | (refine isL ?_; refine zU rfl (by kernel_rfl) rfl rfl ?_) | (refine za rfl ?_; refine zT rfl (by kernel_rfl) rfl rfl ?_) | refine zD ?_ | refine zB _ rfl (by kernel_rfl) ?_ | refine zV rfl ?_ | refine zW rfl ?_ | refine zC ?_ | with_reducible refine zM ?_ | refine zH ?_ | refine zI ?_ | (with_reducible first | refine zK ?_ | refine zL ?_ | refine zE ?_ | refine zG ?_ | refine zF ?_) | refine zN ?_
  refine zy (α := { i : Nat // i ≤ us.length ∧ y8 (us.drop i) (vs.drop i) = y8 us vs }) (fun i => ⟨[rwL us, rwL vs, .any, .any, .any, .any, .any, .any, .any, .any, .any, .any, I us.length, I i.1, .any, .any, .any, .any, .any, .any, .any, .any, .any, .any, .any, .any], [], 0⟩) (fun i => us.length - i.1) ⟨0, Nat.zero_le _, rfl⟩ ?_ ?_
  · exact yp rfl (by repeat' first | exact EqS.nil | refine EqS.any ?_ | refine EqS.same rfl ?_)
  · rintro ⟨i, hi, hq⟩
    repeat' first | refine zJ ?_ | refine zA ?_ | refine zO [] ?_ | (refine isA ?_; refine zb rfl ?_) | (refine isL ?_; refine zU rfl (by kernel_rfl) rfl rfl ?_) | (refine za rfl ?_; refine zT rfl (by kernel_rfl) rfl rfl ?_) | refine zD ?_ | refine zB _ rfl (by kernel_rfl) ?_ | refine zV rfl ?_ | refine zW rfl ?_ | refine zC ?_ | with_reducible refine zM ?_ | refine zH ?_ | refine zI ?_ | (with_reducible first | refine zK ?_ | refine zL ?_ | refine zE ?_ | refine zG ?_ | refine zF ?_) | refine zN ?_
    refine zf rfl (fun h => ?_) (fun h => ?_)
    · have hlt : i < us.length := by simpa using h
      obtain ⟨x, hx⟩ : ∃ z, us[i]? = some z := ⟨_, List.getElem?_eq_getElem hlt⟩
      obtain ⟨y, hy⟩ : ∃ z, vs[i]? = some z := ⟨_, List.getElem?_eq_getElem (by omega)⟩
      rw [tT hx hy] at hq
      repeat' first | refine zJ ?_ | refine zA ?_ | refine zO [] ?_ | (refine isA ?_; refine zb rfl ?_) | (refine isL ?_; refine zU rfl (by kernel_rfl) rfl rfl ?_) | (refine za rfl ?_; refine zT rfl (by kernel_rfl) rfl rfl ?_) | (refine yn (x := .tmp 16) ?_; refine zd rfl (yT (t := rwT) (z := x) rfl rfl rfl rfl (Int.natCast_nonneg i) hx) rfl ?_) | (refine ym (x := .tmp 16) rfl ?_; refine zY rfl (by kernel_rfl) rfl (yT (t := rwT) (z := x) rfl rfl rfl rfl (Int.natCast_nonneg i) hx) rfl ?_) | (refine yn (x := .tmp 20) ?_; refine zd rfl (yT (t := rwT) (z := y) rfl rfl rfl rfl (Int.natCast_nonneg i) hy) rfl ?_) | (refine ym (x := .tmp 20) rfl ?_; refine zY rfl (by kernel_rfl) rfl (yT (t := rwT) (z := y) rfl rfl rfl rfl (Int.natCast_nonneg i) hy) rfl ?_) | refine zd rfl (qE rfl rfl rfl) rfl ?_ | refine zY rfl (by kernel_rfl) rfl (qE rfl rfl rfl) rfl ?_ | refine zD ?_ | refine zB _ rfl (by kernel_rfl) ?_ | refine zV rfl ?_ | refine zW rfl ?_ | refine zC ?_ | with_reducible refine zM ?_ | refine zH ?_ | refine zI ?_ | (with_reducible first | refine zK ?_ | refine zL ?_ | refine zE ?_ | refine zG ?_ | refine zF ?_) | refine zN ?_
      refine zf rfl (fun h1 => ?_) (fun h1 => ?_)
      · have h2 : prD x y = false := by simpa using h1
        rw [h2, Bool.false_and] at hq
        repeat' first | refine zJ ?_ | refine zA ?_ | refine zO [] ?_ | (refine isA ?_; refine zb rfl ?_) | (refine isL ?_; refine zU rfl (by kernel_rfl) rfl rfl ?_) | (refine za rfl ?_; refine zT rfl (by kernel_rfl) rfl rfl ?_) | exact yX rfl rfl (congrArg B hq) | refine zD ?_ | refine zB _ rfl (by kernel_rfl) ?_ | refine zV rfl ?_ | refine zW rfl ?_ | refine zC ?_ | with_reducible refine zM ?_ | refine zH ?_ | refine zI ?_ | (with_reducible first | refine zK ?_ | refine zL ?_ | refine zE ?_ | refine zG ?_ | refine zF ?_) | refine zN ?_
      · have h2 : prD x y = true := by simpa using h1
        rw [h2, Bool.true_and] at hq
        repeat' first | refine zJ ?_ | refine zA ?_ | refine zO [] ?_ | (refine isA ?_; refine zb rfl ?_) | (refine isL ?_; refine zU rfl (by kernel_rfl) rfl rfl ?_) | (refine za rfl ?_; refine zT rfl (by kernel_rfl) rfl rfl ?_) | refine zD ?_ | refine zB _ rfl (by kernel_rfl) ?_ | refine zV rfl ?_ | refine zW rfl ?_ | refine zC ?_ | with_reducible refine zM ?_ | refine zH ?_ | refine zI ?_ | (with_reducible first | refine zK ?_ | refine zL ?_ | refine zE ?_ | refine zG ?_ | refine zF ?_) | refine zN ?_
        refine ⟨⟨i + 1, hlt, hq⟩, by simp only; omega, ?_⟩
        exact yp rfl (by repeat' first | exact EqS.nil | refine EqS.any ?_ | refine EqS.same rfl ?_ | refine EqS.same (wA (by assumption) (by omega)) ?_)
    · have hge : i = us.length := by
        have : ¬ ((i : Int) < us.length) := by simpa using h
        omega
      subst hge
      have hq' : y8 us vs = true := by rw [← hq, List.drop_length, he, List.drop_length]; rfl
      repeat' first | refine zJ ?_ | refine zA ?_ | refine zO [] ?_ | (refine isA ?_; refine zb rfl ?_) | (refine isL ?_; refine zU rfl (by kernel_rfl) rfl rfl ?_) | (refine za rfl ?_; refine zT rfl (by kernel_rfl) rfl rfl ?_) | exact yX rfl rfl (by rw [hq']) | refine zD ?_ | refine zB _ rfl (by kernel_rfl) ?_ | refine zV rfl ?_ | refine zW rfl ?_ | refine zC ?_ | with_reducible refine zM ?_ | refine zH ?_ | refine zI ?_ | (with_reducible first | refine zK ?_ | refine zL ?_ | refine zE ?_ | refine zG ?_ | refine zF ?_) | refine zN ?_
end Go.Proofs.Ytkcicbigpbdjpaa.Ab.Pr
namespace Go.Proofs.Ytkcicbigpbdjpaa.Ab.Pr
open Go.RowKit
theorem n9 (xs ys : List Rw) (h1 : xs.length ≤ 100000000) (h2 : ys.length ≤ 100000000) : zn Go.Proofs.Try.prog 63 [rwL xs, rwL ys] [] (B (eqB xs ys)) [] false := by
  have s1 := (uR xs h1).frozen (xA rfl)
  have s2 := (uR ys h2).frozen (xA rfl)
  have l1 := y6 xs
  have l2 := y6 ys
  show zn Go.Proofs.Try.prog 63 [rwL xs, rwL ys] [] (B (y8 (zt xs) (zt ys))) [] false
  generalize zt xs = us at s1 l1 ⊢
  generalize zt ys = vs at s2 l2 ⊢
  refine zj [4] Go.Proofs.Try.func63 rfl rfl ?_
  simp only [Go.Proofs.Try.ntmps63, List.length_cons, List.length_nil, Nat.reduceAdd, Nat.reduceSub, List.replicate_succ, List.replicate_zero, List.cons_append, List.nil_append]
  repeat' first | refine zJ ?_ | refine zA ?_ | refine zO [] ?_ | (refine isA ?_; refine zb rfl ?_) | (refine isL ?_; refine zU rfl (by kernel_rfl) rfl rfl ?_) | (refine za rfl ?_; refine zT rfl (by kernel_rfl) rfl rfl ?_) | (refine zq 132 (x := #[.tmp 8]) ?_; refine zd rfl (zZ rfl s1 (.cons (.same rfl) .nil) rfl) rfl ?_) | (refine zr 132 (x := #[.tmp 8]) rfl ?_; refine zY rfl (by kernel_rfl) rfl (zZ rfl s1 (.cons (.same rfl) .nil) rfl) rfl ?_) | (refine zq 132 (x := #[.tmp 10]) ?_; refine zd rfl (zZ rfl s2 (.cons (.same rfl) .nil) rfl) rfl ?_) | (refine zr 132 (x := #[.tmp 10]) rfl ?_; refine zY rfl (by kernel_rfl) rfl (zZ rfl s2 (.cons (.same rfl) .nil) rfl) rfl ?_) | refine zD ?_ | refine zB _ rfl (by kernel_rfl) ?_ | refine zV rfl ?_ | refine zW rfl ?_ | refine zC ?_ | with_reducible refine zM ?_ | refine zH ?_ | refine zI ?_ | (with_reducible first | refine zK ?_ | refine zL ?_ | refine zE ?_ | refine zG ?_ | refine zF ?_) | refine zN ?_
  refine zf rfl (fun h => ?_) (fun h => ?_)
  · have hne : us.length ≠ vs.length := by have : ¬ ((us.length : Int) = vs.length) := (by simpa using h); omega
    repeat' first | refine zJ ?_ | refine zA ?_ | refine zO [] ?_ | (refine isA ?_; refine zb rfl ?_) | (refine isL ?_; refine zU rfl (by kernel_rfl) rfl rfl ?_) | (refine za rfl ?_; refine zT rfl (by kernel_rfl) rfl rfl ?_) | exact yX rfl rfl (by rw [um hne]) | refine zD ?_ | refine zB _ rfl (by kernel_rfl) ?_ | refine zV rfl ?_ | refine zW rfl ?_ | refine zC ?_ | with_reducible refine zM ?_ | refine zH ?_ | refine zI ?_ | (with_reducible first | refine zK ?_ | refine zL ?_ | refine zE ?_ | refine zG ?_ | refine zF ?_) | refine zN ?_
  have he : us.length = vs.length := by have : ((us.length : Int) = vs.length) := (by simpa using h); omega
  repeat' first | refine zJ ?_ | refine zA ?_ | refine zO [] ?_ | (refine isA ?_; refine zb rfl ?_) | (refine isL ?_; refine zU rfl (by kernel_rfl) rfl rfl ?_) | (refine za rfl ?_; refine zT rfl (by kernel_rfl) rfl rfl ?_) | refine zD ?_ | refine zB _ rfl (by kernel_rfl) ?_ | refine zV rfl ?_ | refine zW rfl ?_ | refine zC ?_ | with_reducible refine zM ?_ | refine zH ?_ | refine zI ?_ | (with_reducible first | refine zK ?_ | refine zL ?_ | refine zE ?_ | refine zG ?_ | refine zF ?_) | refine zN ?_
  refine zy (α := { i : Nat // i ≤ us.length ∧ y8 (us.drop i) (vs.drop i) = y8 us vs }) (fun i => ⟨[.any, .any, .any, .any, .any, rwL us, rwL vs, I i.1, .any, .any, .any, .any, .any, .any, .any, .any, .any, .any, .any, .any, .any, .any, .any, .any, .any, .any, .any, .any, .any, .any, .any, .any], [], 0⟩) (fun i => us.length - i.1) ⟨0, Nat.zero_le _, rfl⟩ ?_ ?_
  · exact yp rfl (by repeat' first | exact EqS.nil | refine EqS.any ?_ | refine EqS.same rfl ?_)
  · rintro ⟨i, hi, hq⟩
    repeat' first | refine zJ ?_ | refine zA ?_ | refine zO [] ?_ | (refine isA ?_; refine zb rfl ?_) | (refine isL ?_; refine zU rfl (by kernel_rfl) rfl rfl ?_) | (refine za rfl ?_; refine zT rfl (by kernel_rfl) rfl rfl ?_) | refine zD ?_ | refine zB _ rfl (by kernel_rfl) ?_ | refine zV rfl ?_ | refine zW rfl ?_ | refine zC ?_ | with_reducible refine zM ?_ | refine zH ?_ | refine zI ?_ | (with_reducible first | refine zK ?_ | refine zL ?_ | refine zE ?_ | refine zG ?_ | refine zF ?_) | refine zN ?_
    refine zf rfl (fun h => ?_) (fun h => ?_)
    · have hlt : i < us.length := by simpa using h
      obtain ⟨x, hx⟩ : ∃ z, us[i]? = some z := ⟨_, List.getElem?_eq_getElem hlt⟩
      obtain ⟨y, hy⟩ : ∃ z, vs[i]? = some z := ⟨_, List.getElem?_eq_getElem (by omega)⟩
      rw [tT hx hy] at hq
      repeat' first | refine zJ ?_ | refine zA ?_ | refine zO [] ?_ | (refine isA ?_; refine zb rfl ?_) | (refine isL ?_; refine zU rfl (by kernel_rfl) rfl rfl ?_) | (refine za rfl ?_; refine zT rfl (by kernel_rfl) rfl rfl ?_) | (refine yn (x := .tmp 23) ?_; refine zd rfl (yT (t := rwT) (z := x) rfl rfl rfl rfl (Int.natCast_nonneg i) hx) rfl ?_) | (refine ym (x := .tmp 23) rfl ?_; refine zY rfl (by kernel_rfl) rfl (yT (t := rwT) (z := x) rfl rfl rfl rfl (Int.natCast_nonneg i) hx) rfl ?_) | (refine yn (x := .tmp 27) ?_; refine zd rfl (yT (t := rwT) (z := y) rfl rfl rfl rfl (Int.natCast_nonneg i) hy) rfl ?_) | (refine ym (x := .tmp 27) rfl ?_; refine zY rfl (by kernel_rfl) rfl (yT (t := rwT) (z := y) rfl rfl rfl rfl (Int.natCast_nonneg i) hy) rfl ?_) | refine zd rfl (qE rfl rfl rfl) rfl ?_ | refine zY rfl (by kernel_rfl) rfl (qE rfl rfl rfl) rfl ?_ | refine zD ?_ | refine zB _ rfl (by kernel_rfl) ?_ | refine zV rfl ?_ | refine zW rfl ?_ | refine zC ?_ | with_reducible refine zM ?_ | refine zH ?_ | refine zI ?_ | (with_reducible first | refine zK ?_ | refine zL ?_ | refine zE ?_ | refine zG ?_ | refine zF ?_) | refine zN ?_
      refine zf rfl (fun h1 => ?_) (fun h1 => ?_)
      · have h2 : prD x y = false := by simpa using h1
        rw [h2, Bool.false_and] at hq
        repeat' first | refine zJ ?_ | refine zA ?_ | refine zO [] ?_ | (refine isA ?_; refine zb rfl ?_) | (refine isL ?_; refine zU rfl (by kernel_rfl) rfl rfl ?_) | (refine za rfl ?_; refine zT rfl (by kernel_rfl) rfl rfl ?_) | exact yX rfl rfl (congrArg B hq) | refine zD ?_ | refine zB _ rfl (by kernel_rfl) ?_ | refine zV rfl ?_ | refine zW rfl ?_ | refine zC ?_ | with_reducible refine zM ?_ | refine zH ?_ | refine zI ?_ | (with_reducible first | refine zK ?_ | refine zL ?_ | refine zE ?_ | refine zG ?_ | refine zF ?_) | refine zN ?_
      · have h2 : prD x y = true := by simpa using h1
        rw [h2, Bool.true_and] at hq
        repeat' first | refine zJ ?_ | refine zA ?_ | refine zO [] ?_ | (refine isA ?_; refine zb rfl ?_) | (refine isL ?_; refine zU rfl (by kernel_rfl) rfl rfl ?_) | (refine za rfl ?_; refine zT rfl (by kernel_rfl) rfl rfl ?_) | refine zD ?_ | refine zB _ rfl (by kernel_rfl) ?_ | refine zV rfl ?_ | refine zW rfl ?_ | refine zC ?_ | with_reducible refine zM ?_ | refine zH ?_ | refine zI ?_ | (with_reducible first | refine zK ?_ | refine zL ?_ | refine zE ?_ | refine zG ?_ | refine zF ?_) | refine zN ?_
        refine ⟨⟨i + 1, hlt, hq⟩, by simp only; omega, ?_⟩
        exact yp rfl (by repeat' first | exact EqS.nil | refine EqS.any ?_ | refine EqS.same rfl ?_ | refine EqS.same (wA (by assumption) (by omega)) ?_)
    · have hge : i = us.length := by
        have : ¬ ((i : Int) < us.length) := by simpa using h
        omega
      subst hge
      have hq' : y8 us vs = true := by rw [← hq, List.drop_length, he, List.drop_length]; rfl
      repeat' first | refine zJ ?_ | refine zA ?_ | refine zO [] ?_ | (refine isA ?_; refine zb rfl ?_) | (refine isL ?_; refine zU rfl (by kernel_rfl) rfl rfl ?_) | (refine za rfl ?_; refine zT rfl (by kernel_rfl) rfl rfl ?_) | exact yX rfl rfl (by rw [hq']) | refine zD ?_ | refine zB _ rfl (by kernel_rfl) ?_ | refine zV rfl ?_ | refine zW rfl ?_ | refine zC ?_ | with_reducible refine zM ?_ | refine zH ?_ | refine zI ?_ | (with_reducible first | refine zK ?_ | refine zL ?_ | refine zE ?_ | refine zG ?_ | refine zF ?_) | refine zN ?_
theorem mF (xs ys : List Rw) (h1 : xs.length ≤ 100000000) (h2 : ys.length ≤ 100000000) : zn Go.Proofs.Try.prog 65 [rwL xs, rwL ys] [] (B (eqB xs ys)) [] false := by
  have l1 := y6 xs
  have l2 := y6 ys
  refine zj [4] Go.Proofs.Try.func65 rfl rfl ?_
  simp only [Go.Proofs.Try.ntmps65, List.length_cons, List.length_nil, Nat.reduceAdd, Nat.reduceSub, List.replicate_succ, List.replicate_zero, List.cons_append, List.nil_append]
  repeat' first | refine zJ ?_ | refine zA ?_ | refine zO [] ?_ | (refine isA ?_; refine zb rfl ?_) | (refine isL ?_; refine zU rfl (by kernel_rfl) rfl rfl ?_) | (refine za rfl ?_; refine zT rfl (by kernel_rfl) rfl rfl ?_) | (refine x6 ?_; refine zd rfl (qw (T := rwT) (xs := xs) rfl rfl rfl rfl (by omega) rfl) rfl ?_) | (refine xv rfl ?_; refine zY rfl (by kernel_rfl) rfl (qw (T := rwT) (xs := xs) rfl rfl rfl rfl (by omega) rfl) rfl ?_) | (refine x6 ?_; refine zd rfl (qw (T := rwT) (xs := ys) rfl rfl rfl rfl (by omega) rfl) rfl ?_) | (refine xv rfl ?_; refine zY rfl (by kernel_rfl) rfl (qw (T := rwT) (xs := ys) rfl rfl rfl rfl (by omega) rfl) rfl ?_) | (refine zq 134 ?_; refine zd rfl (zS (K := []) (Rs' := [_]) [0] (by decide) rfl (uS xs h1) (.cons rfl rfl rfl (zR _ _) (zR _ _) .nil) (.cons (.sl rfl) (.cons (.same rfl) .nil)) (fun q hq => by cases hq) rfl) rfl ?_) | (refine zr 134 rfl ?_; refine zY rfl (by kernel_rfl) rfl (zS (K := []) (Rs' := [_]) [0] (by decide) rfl (uS xs h1) (.cons rfl rfl rfl (zR _ _) (zR _ _) .nil) (.cons (.sl rfl) (.cons (.same rfl) .nil)) (fun q hq => by cases hq) rfl) rfl ?_) | (refine zq 134 ?_; refine zd rfl (zS (K := []) (Rs' := [_]) [1] (by decide) rfl (uS ys h2) (.cons rfl rfl rfl (zR _ _) (zR _ _) .nil) (.cons (.sl rfl) (.cons (.same rfl) .nil)) (fun q hq => by cases hq) rfl) rfl ?_) | (refine zr 134 rfl ?_; refine zY rfl (by kernel_rfl) rfl (zS (K := []) (Rs' := [_]) [1] (by decide) rfl (uS ys h2) (.cons rfl rfl rfl (zR _ _) (zR _ _) .nil) (.cons (.sl rfl) (.cons (.same rfl) .nil)) (fun q hq => by cases hq) rfl) rfl ?_) | (refine zq 135 ?_; refine zd rfl (zZ rfl (qp (zt xs) (zt ys) (by omega)) (.cons (vD rfl rfl rfl l1.symm) (.cons (vD rfl rfl rfl l2.symm) .nil)) rfl) rfl ?_) | (refine zr 135 rfl ?_; refine zY rfl (by kernel_rfl) rfl (zZ rfl (qp (zt xs) (zt ys) (by omega)) (.cons (vD rfl rfl rfl l1.symm) (.cons (vD rfl rfl rfl l2.symm) .nil)) rfl) rfl ?_) | exact yX rfl rfl rfl | refine zD ?_ | refine zB _ rfl (by kernel_rfl) ?_ | refine zV rfl ?_ | refine zW rfl ?_ | refine zC ?_ | with_reducible refine zM ?_ | refine zH ?_ | refine zI ?_ | (with_reducible first | refine zK ?_ | refine zL ?_ | refine zE ?_ | refine zG ?_ | refine zF ?_) | refine zN ?_
end Go.Proofs.Ytkcicbigpbdjpaa.Ab.Pr
namespace Go.Proofs.Ytkcicbigpbdjpaa.Ab
open Go.RowKit
theorem ug {P : Program} {f : FuncId} {fn : Func} {c : Code} {cargs : List V} {hs : List Reg} {r : V} {hs' : List Reg} {al : Bool} (t t2 : Tmp) (ty ty2 : TypeId) {n n2 : Nat} [ht : Ag P ty n] [ht2 : Ag P ty2 n2]
    (hf : P.funcs[f]? = some fn) (hb : fn.body = some c) (hr : fn.results = #[.cell t ty, .cell t2 ty2] := by rfl)
    (h : AW P c (fun e S => (e = .ret ∨ e = .normal) ∧ ∃ v v2, CellIs S.tmps S.H t n v ∧ CellIs S.tmps S.H t2 n2 v2 ∧ Out al r hs' (.tup [v, v2]) S) ⟨cargs ++ List.replicate (fn.ntmps - cargs.length) (.k undef), hs, hs.length⟩) : zn P f cargs hs r hs' al := by
  intro A φ w xs hok hrel hsz
  refine calls_of_wp hf hb ?_
  have hI : Inv ⟨A, w, φ, hs⟩ φ ⟨cargs ++ List.replicate (fn.ntmps - cargs.length) (.k undef), hs, hs.length⟩ { tmps := xs ++ Array.replicate (fn.ntmps - xs.size) undef, defers := [] } w := by
    refine ⟨hok.len, ⟨A, ⟨hok, fun b hb => Or.inl hb, fun h b hl => Or.inr ⟨h, hl⟩, ⟨rfl, rfl, rfl, Nat.le_refl _, fun _ _ _ => rfl⟩, fun _ _ h => h⟩, ?_⟩, by simp [hsz], rfl⟩
    refine yd (z2 hrel fun i hi => ?_) (z5.2 fun i c hc => ⟨undef, ?_, ?_⟩)
    · simp [Array.getElem?_append, hsz, hi]
    · have hlt := (List.getElem?_eq_some_iff.1 hc).1
      simp only [List.length_replicate] at hlt
      simp only [Array.getElem?_append, hsz, Nat.not_lt.2 (Nat.le_add_right _ _), if_false, Nat.add_sub_cancel_left]
      simp [hlt]
    · have := List.mem_of_getElem? hc
      obtain rfl := List.eq_of_mem_replicate this
      simp [Rel]
  refine wp_mono (h.out ⟨A, w, φ, hs⟩ φ _ w hI) ?_
  rintro e a' w' ⟨S', φ1, hI', he, v, v2, hc, hc2, ho⟩
  obtain ⟨hm, ⟨A1, hA1, hr1⟩, hs1, hd1⟩ := hI'
  have rd : ∀ {t n v}, CellIs S'.tmps S'.H t n v → ∃ (b off : Nat) (xs' : Array Value), a'.tmps.getD t undef = .pointer (some ⟨b, off, none⟩) ∧ (loadCells ⟨b, off, none⟩ n).run P w' = .ok xs' w' ∧ Rel A1 w' φ1 v (.agg xs') := by
    intro t n v hc
    obtain ⟨⟨h, off, r0, c1, c2, c3, c4, c5⟩⟩ := hc
    obtain ⟨y, y1, y2⟩ := yG hr1 c1
    rw [Rel] at y2
    obtain ⟨hd, b, e1, e2, e3⟩ := y2
    obtain ⟨xs', h2, h3, h4⟩ := yW (P := P) (yi (ya (xF hA1.ok e1 c2 c3 e2) off) n)
    have hl : ((r0.cells.drop off).take n).length = n := by simp; omega
    rw [hl] at h2
    refine ⟨b, off, xs', ?_, h2, ?_⟩
    · rw [Array.getD_eq_getD_getElem?, show a'.tmps[t]? = some y from y1, e3]
      rfl
    · subst c5; rw [Rel]; exact ⟨xs', rfl, h3, h4⟩
  obtain ⟨b, off, x1, g1, h1, r1⟩ := rd hc
  obtain ⟨b2, off2, x2, g2, h2, r2⟩ := rd hc2
  have hrun : (results fn a'.tmps).run P w' = .ok (.tuple #[Value.agg x1, Value.agg x2]) w' := by
    unfold results
    rw [hr]
    simp only [List.mapM_toArray, List.mapM_cons, List.mapM_nil, g1, g2, Sem.run_bind, Sem.run_map, Sem.run_pure, Result.andThen_ok, asAddr, loadVar, ht.a, ht.s, ht2.a, ht2.s, h1, h2, if_true]
    rfl
  have hxt : Rel A1 w' φ1 (.tup [v, v2]) (.tuple #[Value.agg x1, Value.agg x2]) := by
    rw [Rel]
    refine ⟨_, rfl, by simp, ?_⟩
    rw [zi]
    refine ⟨⟨.agg x1, rfl, r1⟩, ?_⟩
    rw [zi]
    refine ⟨⟨.agg x2, rfl, r2⟩, ?_⟩
    rw [zi]
    trivial
  obtain ⟨φ', A', k1, k2, k3, k4, k5⟩ := ho ⟨A, w, φ, hs⟩ A1 φ1 w' _ hm hA1 hxt
  have key : a'.defers = [] ∧ ∃ v, (results fn a'.tmps).run P w' = .ok v w' ∧ ∃ x φ' A', (Ending.returned v) = .returned x ∧ HeapOk A' w' φ' hs' ∧ Rel A' w' φ' r x ∧ (∀ b, A' b → (al = true ∧ A b) ∨ w.heap.size ≤ b) ∧
      (∀ h b, zk φ' hs' h b → w.heap.size ≤ b ∨ ∃ h0, zk φ hs h0 b) ∧ Framed ⟨A, w, φ, hs⟩ w' ∧ (∀ (h : Nat) (hd : Hd), φ[h]? = some hd → φ'[h]? = some hd) :=
    ⟨hd1, _, hrun, _, φ', A', rfl, k1, k2, k3, k4, hA1.frame, k5⟩
  rcases he with rfl | rfl
  · exact key
  · exact key
theorem lw {l : List V} {H : List Reg} {t t2 : Tmp} {n n2 : Nat} {v v2 r : V} (hv : CellIs l H t n v) (hv2 : CellIs l H t2 n2 v2) (hp : Pur true H (.tup [v, v2]) r) : (Exit.ret = .ret ∨ Exit.ret = .normal) ∧ ∃ v v2, CellIs l H t n v ∧ CellIs l H t2 n2 v2 ∧ Out true r [] (.tup [v, v2]) ⟨l, H, 0⟩ := ⟨Or.inl rfl, v, v2, hv, hv2, qC rfl hp⟩
end Go.Proofs.Ytkcicbigpbdjpaa.Ab
namespace Go.Proofs.Ytkcicbigpbdjpaa.Ab.Pr
open Go.RowKit
theorem mj {P : Program} {f : FuncId} {cargs : List V} {c c' : Cur} {R : Reg} {r r' : V} {al : Bool} (h : zn P f cargs [yN c] r [yN c', R] al) (hp : Pur true [uE (yN c'), R] r r') : zn P f cargs [yN c] r' [yN c'] true := Go.Proofs.Ytkcicbigpbdjpaa.Ab.mj h hp
def pK (c : Cur) : Int := IntKind.i64.wrap (1 + beV 4 (zw 4 c).2)
def pB (c : Cur) : List Go.Proofs.Ytkcicbigpbdjpaa.Ab.Rw × Cur := zw 4 (beC 4 (zw 4 c).2)
def vq (c : Cur) : List Rw × Cur := (yE (pK c) (zw 4 c).1 (pB c).1, (pB c).2)
theorem vp (c : Cur) : (vq c).2.code = c.code := by
  show (pB c).2.code = _
  rw [pB, xu, yK, xu]
theorem ud (c : Cur) : (vq c).1.length ≤ 20 := by
  have h1 := qB c
  have h2 := qB (beC 4 (zw 4 c).2)
  have h3 := wG (pK c) (pB c).1 (zw 4 c).1
  have h4 : (zw 4 c).1.length * ((pB c).1.length + 1) ≤ 4 * 5 := Nat.mul_le_mul h1 (by show (zw 4 _).1.length + 1 ≤ 5; omega)
  exact Nat.le_trans h3 h4
theorem qn (c : Cur) (hl : c.code.length ≤ 1000000000) : zn Go.Proofs.Try.prog 142 [.ptr 0 0] [yN c] (.sl 1 0 (vq c).1.length) [yN (vq c).2, rwR (vq c).1] true := by
  have l1 := qB c
  have l2 : (pB c).1.length ≤ 4 := qB (beC 4 (zw 4 c).2)
  have b1 := ql 4 (by decide) (by decide) c hl
  have k1 : (zw 4 c).2.code.length ≤ 1000000000 := by rw [xu]; exact hl
  have b2 := y0 4 (zw 4 c).2 k1
  have k2 : (beC 4 (zw 4 c).2).code.length ≤ 1000000000 := by rw [yK]; exact k1
  have b3 := ql 4 (by decide) (by decide) (beC 4 (zw 4 c).2) k2
  have b4 := qj (pK c) (zw 4 c).1 (pB c).1 (by omega) (by omega)
  show zn Go.Proofs.Try.prog 142 [.ptr 0 0] [yN c] (.sl 1 0 (yE (pK c) (zw 4 c).1 (pB c).1).length) [yN (pB c).2, rwR (yE (pK c) (zw 4 c).1 (pB c).1)] true
  change zn Go.Proofs.Try.prog 129 [.ptr 0 0, I 4] [yN (beC 4 (zw 4 c).2)] (Go.Proofs.Ytkcicbigpbdjpaa.Ab.rwL (pB c).1) [yN (pB c).2] true at b3
  have hk : pK c = IntKind.i64.wrap (1 + beV 4 (zw 4 c).2) := rfl
  generalize pK c = k at b4 hk ⊢
  subst hk
  generalize pB c = q at b3 b4 ⊢
  generalize zw 4 c = p at b1 b2 b3 b4 ⊢
  refine zj [2] Go.Proofs.Try.func142 rfl rfl ?_
  simp only [Go.Proofs.Try.ntmps142, List.length_cons, List.length_nil, Nat.reduceAdd, Nat.reduceSub, List.replicate_succ, List.replicate_zero, List.cons_append, List.nil_append]
  repeat' first | refine zJ ?_ | refine zA ?_ | refine zO [] ?_ | (refine isA ?_; refine zb rfl ?_) | (refine isL ?_; refine zU rfl (by kernel_rfl) rfl rfl ?_) | (refine za rfl ?_; refine zT rfl (by kernel_rfl) rfl rfl ?_) | (refine zq 129 ?_; refine zd rfl (zS (K := []) (Rs' := [_]) [0] (by decide) rfl b1 (.cons rfl rfl rfl (zP _) (zP _) .nil) (.cons (.ptr rfl) (.cons (.same rfl) .nil)) (fun q hq => by cases hq) rfl) rfl ?_) | (refine zr 129 rfl ?_; refine zY rfl (by kernel_rfl) rfl (zS (K := []) (Rs' := [_]) [0] (by decide) rfl b1 (.cons rfl rfl rfl (zP _) (zP _) .nil) (.cons (.ptr rfl) (.cons (.same rfl) .nil)) (fun q hq => by cases hq) rfl) rfl ?_) | (refine zq 143 ?_; refine zd rfl (zS (K := []) (Rs' := [_]) [0] (by decide) rfl b2 (.cons rfl rfl rfl (zP _) (zP _) .nil) (.cons (.ptr rfl) (.cons (.same rfl) .nil)) (fun q hq => by cases hq) rfl) rfl ?_) | (refine zr 143 rfl ?_; refine zY rfl (by kernel_rfl) rfl (zS (K := []) (Rs' := [_]) [0] (by decide) rfl b2 (.cons rfl rfl rfl (zP _) (zP _) .nil) (.cons (.ptr rfl) (.cons (.same rfl) .nil)) (fun q hq => by cases hq) rfl) rfl ?_) | (refine zq 129 ?_; refine zd rfl (zS (K := []) (Rs' := [_]) [0] (by decide) rfl b3 (.cons rfl rfl rfl (zP _) (zP _) .nil) (.cons (.ptr rfl) (.cons (.same rfl) .nil)) (fun q hq => by cases hq) rfl) rfl ?_) | (refine zr 129 rfl ?_; refine zY rfl (by kernel_rfl) rfl (zS (K := []) (Rs' := [_]) [0] (by decide) rfl b3 (.cons rfl rfl rfl (zP _) (zP _) .nil) (.cons (.ptr rfl) (.cons (.same rfl) .nil)) (fun q hq => by cases hq) rfl) rfl ?_) | (refine zq 69 ?_; refine zd rfl (yA rfl b4 (.cons (.same rfl) (.cons (.same rfl) (.cons (.same rfl) .nil))) (fun q hq => by simp at hq; subst hq; exact zR _ _) rfl rfl) rfl ?_) | (refine zr 69 rfl ?_; refine zY rfl (by kernel_rfl) rfl (yA rfl b4 (.cons (.same rfl) (.cons (.same rfl) (.cons (.same rfl) .nil))) (fun q hq => by simp at hq; subst hq; exact zR _ _) rfl rfl) rfl ?_) | exact vJ 1 [0, 1] yF (by decide) rfl (zm rfl rfl) (.cons rfl rfl rfl rfl (zg (zP _)) (.cons rfl rfl rfl rfl (zg (zR _ _)) .nil)) | refine zD ?_ | refine zB _ rfl (by kernel_rfl) ?_ | refine zV rfl ?_ | refine zW rfl ?_ | refine zC ?_ | with_reducible refine zM ?_ | refine zH ?_ | refine zI ?_ | (with_reducible first | refine zK ?_ | refine zL ?_ | refine zE ?_ | refine zG ?_ | refine zF ?_) | refine zN ?_
theorem sI (c : Cur) (hl : c.code.length ≤ 1000000000) : zn Go.Proofs.Try.prog 142 [.ptr 0 0] [yN c] (rwL (vq c).1) [yN (vq c).2] true :=
  mj (qn c hl) (xA rfl)
theorem pQ (xs : List Int) (hl : xs.length ≤ 1000000000) : ∃ p q : List Rw, p.length ≤ 20 ∧ q.length ≤ 20 ∧ zn Go.Proofs.Try.prog 76 [yy u8T xs] [] (.tup [rwL p, rwL q]) [] true := by
  have k0 : (xR xs).code.length ≤ 1000000000 := hl
  have b1 := sI (xR xs) k0
  have hpl := ud (xR xs)
  have k1 : (vq (xR xs)).2.code.length ≤ 1000000000 := by rw [vp]; exact k0
  generalize vq (xR xs) = pd at b1 hpl k1
  obtain ⟨p, c⟩ := pd
  simp only at b1 hpl k1
  have b2 := uo 2 c k1
  have b3 := uR p (by omega)
  have hsl := y6 p
  generalize zt p = s at b3 hsl
  by_cases h : (decide ((0 : Int) < s.length)) = true
  · have h0 : 0 < s.length := by have := of_decide_eq_true h; omega
    obtain ⟨z, hz⟩ : ∃ z, s[s.length - 1]? = some z := ⟨_, List.getElem?_eq_getElem (by omega)⟩
    by_cases g : (decide (beV 2 c = 0)) = true
    · rw [g] at b2
      refine ⟨p, s.set 0 z, hpl, by rw [List.length_set]; omega, ?_⟩
      refine zj [2, 3] Go.Proofs.Try.func76 rfl rfl ?_
      simp only [Go.Proofs.Try.ntmps76, List.length_cons, List.length_nil, Nat.reduceAdd, Nat.reduceSub, List.replicate_succ, List.replicate_zero, List.cons_append, List.nil_append]
      repeat' first | refine zJ ?_ | refine zA ?_ | refine zO [] ?_ | (refine isA ?_; refine zb rfl ?_) | (refine isL ?_; refine zU rfl (by kernel_rfl) rfl rfl ?_) | (refine za rfl ?_; refine zT rfl (by kernel_rfl) rfl rfl ?_) | (refine zq 104 ?_; refine zd rfl (yA rfl (wV xs hl) (.cons (.same rfl) .nil) (fun q hq => by simp at hq; subst hq; exact zP _) rfl rfl) rfl ?_) | (refine zr 104 rfl ?_; refine zY rfl (by kernel_rfl) rfl (yA rfl (wV xs hl) (.cons (.same rfl) .nil) (fun q hq => by simp at hq; subst hq; exact zP _) rfl rfl) rfl ?_) | (refine zq 142 ?_; refine zd rfl (zS (K := []) (Rs' := [_]) [0] (by decide) rfl b1 (.cons rfl rfl rfl (zP _) (zP _) .nil) (.cons (.ptr rfl) .nil) (fun q hq => by cases hq) rfl) rfl ?_) | (refine zr 142 rfl ?_; refine zY rfl (by kernel_rfl) rfl (zS (K := []) (Rs' := [_]) [0] (by decide) rfl b1 (.cons rfl rfl rfl (zP _) (zP _) .nil) (.cons (.ptr rfl) .nil) (fun q hq => by cases hq) rfl) rfl ?_) | (refine zq 132 ?_; refine zd rfl (yA rfl b3 (.cons (.same rfl) .nil) (fun q hq => by simp at hq; subst hq; exact zR _ _) rfl rfl) rfl ?_) | (refine zr 132 rfl ?_; refine zY rfl (by kernel_rfl) rfl (yA rfl b3 (.cons (.same rfl) .nil) (fun q hq => by simp at hq; subst hq; exact zR _ _) rfl rfl) rfl ?_) | (refine zq 128 ?_; refine zd rfl (zS (K := []) (Rs' := [_]) [0] (by decide) rfl b2 (.cons rfl rfl rfl (zP _) (zP _) .nil) (.cons (.ptr rfl) (.cons (.same rfl) .nil)) (fun q hq => by cases hq) rfl) rfl ?_) | (refine zr 128 rfl ?_; refine zY rfl (by kernel_rfl) rfl (zS (K := []) (Rs' := [_]) [0] (by decide) rfl b2 (.cons rfl rfl rfl (zP _) (zP _) .nil) (.cons (.ptr rfl) (.cons (.same rfl) .nil)) (fun q hq => by cases hq) rfl) rfl ?_) | exact absurd hbr (by rw [h]; decide) | (refine yn (x := .tmp 21) ?_; refine zd rfl (wY (t := rwT) (xs := s) (j := ((s.length - 1 : Nat) : Int)) rfl rfl rfl rfl (congrArg (fun n => V.k (.int .i64 n)) (show IntKind.i64.wrap ((s.length : Int) - 1) = ((s.length - 1 : Nat) : Int) by rw [IntKind.wrap_i64]; omega)) (Int.natCast_nonneg _) (by omega)) rfl ?_) | (refine ym (x := .tmp 21) rfl ?_; refine zY rfl (by kernel_rfl) rfl (wY (t := rwT) (xs := s) (j := ((s.length - 1 : Nat) : Int)) rfl rfl rfl rfl (congrArg (fun n => V.k (.int .i64 n)) (show IntKind.i64.wrap ((s.length : Int) - 1) = ((s.length - 1 : Nat) : Int) by rw [IntKind.wrap_i64]; omega)) (Int.natCast_nonneg _) (by omega)) rfl ?_) | (refine w4 ?_; refine zd rfl (y7 (T := rwT) (xs := s) (i := s.length - 1) (z := z) rfl rfl rfl hz) rfl ?_) | (refine vI rfl ?_; refine zY rfl (by kernel_rfl) rfl (y7 (T := rwT) (xs := s) (i := s.length - 1) (z := z) rfl rfl rfl hz) rfl ?_) | (refine yn (x := .tmp 20) ?_; refine zd rfl (wY (t := rwT) (xs := s) rfl rfl rfl rfl rfl (Int.le_refl 0) (by omega)) rfl ?_) | (refine ym (x := .tmp 20) rfl ?_; refine zY rfl (by kernel_rfl) rfl (wY (t := rwT) (xs := s) rfl rfl rfl rfl rfl (Int.le_refl 0) (by omega)) rfl ?_) | (refine isAs ?_; refine zd rfl (vA (T := rwT) (i := 0) (xs := s) (z := z) rfl rfl rfl rfl rfl h0) rfl ?_) | (refine isLs rfl ?_; refine zY rfl (by kernel_rfl) rfl (vA (T := rwT) (i := 0) (xs := s) (z := z) rfl rfl rfl rfl rfl h0) rfl ?_) | exact qJ rfl (.tup (.cons (.same rfl) (.cons (vD rfl rfl rfl (by simp)) .nil))) | refine zD ?_ | refine zB _ rfl (by kernel_rfl) ?_ | refine zV rfl ?_ | refine zW rfl ?_ | refine zC ?_ | with_reducible refine zM ?_ | refine zH ?_ | refine zI ?_ | (with_reducible first | refine zK ?_ | refine zL ?_ | refine zE ?_ | refine zG ?_ | refine zF ?_) | refine zN ?_ | (refine vY ?_; refine xi rfl rfl (fun hbr => ?_) (fun hbr => ?_) <;> (fail_if_success (with_reducible (have hx : true = true := hbr))) <;> (fail_if_success (with_reducible (have hx : false = false := hbr)))) | (refine za rfl ?_; refine yz rfl rfl rfl rfl (fun hbr => ?_) (fun hbr => ?_) <;> (fail_if_success (with_reducible (have hx : true = true := hbr))) <;> (fail_if_success (with_reducible (have hx : false = false := hbr))))
    · have g' : decide (beV 2 c = 0) = false := by simpa using g
      rw [g'] at b2
      refine ⟨p, s, hpl, by omega, ?_⟩
      refine zj [2, 3] Go.Proofs.Try.func76 rfl rfl ?_
      simp only [Go.Proofs.Try.ntmps76, List.length_cons, List.length_nil, Nat.reduceAdd, Nat.reduceSub, List.replicate_succ, List.replicate_zero, List.cons_append, List.nil_append]
      repeat' first | refine zJ ?_ | refine zA ?_ | refine zO [] ?_ | (refine isA ?_; refine zb rfl ?_) | (refine isL ?_; refine zU rfl (by kernel_rfl) rfl rfl ?_) | (refine za rfl ?_; refine zT rfl (by kernel_rfl) rfl rfl ?_) | (refine zq 104 ?_; refine zd rfl (yA rfl (wV xs hl) (.cons (.same rfl) .nil) (fun q hq => by simp at hq; subst hq; exact zP _) rfl rfl) rfl ?_) | (refine zr 104 rfl ?_; refine zY rfl (by kernel_rfl) rfl (yA rfl (wV xs hl) (.cons (.same rfl) .nil) (fun q hq => by simp at hq; subst hq; exact zP _) rfl rfl) rfl ?_) | (refine zq 142 ?_; refine zd rfl (zS (K := []) (Rs' := [_]) [0] (by decide) rfl b1 (.cons rfl rfl rfl (zP _) (zP _) .nil) (.cons (.ptr rfl) .nil) (fun q hq => by cases hq) rfl) rfl ?_) | (refine zr 142 rfl ?_; refine zY rfl (by kernel_rfl) rfl (zS (K := []) (Rs' := [_]) [0] (by decide) rfl b1 (.cons rfl rfl rfl (zP _) (zP _) .nil) (.cons (.ptr rfl) .nil) (fun q hq => by cases hq) rfl) rfl ?_) | (refine zq 132 ?_; refine zd rfl (yA rfl b3 (.cons (.same rfl) .nil) (fun q hq => by simp at hq; subst hq; exact zR _ _) rfl rfl) rfl ?_) | (refine zr 132 rfl ?_; refine zY rfl (by kernel_rfl) rfl (yA rfl b3 (.cons (.same rfl) .nil) (fun q hq => by simp at hq; subst hq; exact zR _ _) rfl rfl) rfl ?_) | (refine zq 128 ?_; refine zd rfl (zS (K := []) (Rs' := [_]) [0] (by decide) rfl b2 (.cons rfl rfl rfl (zP _) (zP _) .nil) (.cons (.ptr rfl) (.cons (.same rfl) .nil)) (fun q hq => by cases hq) rfl) rfl ?_) | (refine zr 128 rfl ?_; refine zY rfl (by kernel_rfl) rfl (zS (K := []) (Rs' := [_]) [0] (by decide) rfl b2 (.cons rfl rfl rfl (zP _) (zP _) .nil) (.cons (.ptr rfl) (.cons (.same rfl) .nil)) (fun q hq => by cases hq) rfl) rfl ?_) | exact absurd hbr (by rw [h]; decide) | exact qJ rfl (.tup (.cons (.same rfl) (.cons (vD rfl rfl rfl rfl) .nil))) | refine zD ?_ | refine zB _ rfl (by kernel_rfl) ?_ | refine zV rfl ?_ | refine zW rfl ?_ | refine zC ?_ | with_reducible refine zM ?_ | refine zH ?_ | refine zI ?_ | (with_reducible first | refine zK ?_ | refine zL ?_ | refine zE ?_ | refine zG ?_ | refine zF ?_) | refine zN ?_ | (refine vY ?_; refine xi rfl rfl (fun hbr => ?_) (fun hbr => ?_) <;> (fail_if_success (with_reducible (have hx : true = true := hbr))) <;> (fail_if_success (with_reducible (have hx : false = false := hbr)))) | (refine za rfl ?_; refine yz rfl rfl rfl rfl (fun hbr => ?_) (fun hbr => ?_) <;> (fail_if_success (with_reducible (have hx : true = true := hbr))) <;> (fail_if_success (with_reducible (have hx : false = false := hbr))))
  · refine ⟨p, s, hpl, by omega, ?_⟩
    refine zj [2, 3] Go.Proofs.Try.func76 rfl rfl ?_
    simp only [Go.Proofs.Try.ntmps76, List.length_cons, List.length_nil, Nat.reduceAdd, Nat.reduceSub, List.replicate_succ, List.replicate_zero, List.cons_append, List.nil_append]
    repeat' first | refine zJ ?_ | refine zA ?_ | refine zO [] ?_ | (refine isA ?_; refine zb rfl ?_) | (refine isL ?_; refine zU rfl (by kernel_rfl) rfl rfl ?_) | (refine za rfl ?_; refine zT rfl (by kernel_rfl) rfl rfl ?_) | (refine zq 104 ?_; refine zd rfl (yA rfl (wV xs hl) (.cons (.same rfl) .nil) (fun q hq => by simp at hq; subst hq; exact zP _) rfl rfl) rfl ?_) | (refine zr 104 rfl ?_; refine zY rfl (by kernel_rfl) rfl (yA rfl (wV xs hl) (.cons (.same rfl) .nil) (fun q hq => by simp at hq; subst hq; exact zP _) rfl rfl) rfl ?_) | (refine zq 142 ?_; refine zd rfl (zS (K := []) (Rs' := [_]) [0] (by decide) rfl b1 (.cons rfl rfl rfl (zP _) (zP _) .nil) (.cons (.ptr rfl) .nil) (fun q hq => by cases hq) rfl) rfl ?_) | (refine zr 142 rfl ?_; refine zY rfl (by kernel_rfl) rfl (zS (K := []) (Rs' := [_]) [0] (by decide) rfl b1 (.cons rfl rfl rfl (zP _) (zP _) .nil) (.cons (.ptr rfl) .nil) (fun q hq => by cases hq) rfl) rfl ?_) | (refine zq 132 ?_; refine zd rfl (yA rfl b3 (.cons (.same rfl) .nil) (fun q hq => by simp at hq; subst hq; exact zR _ _) rfl rfl) rfl ?_) | (refine zr 132 rfl ?_; refine zY rfl (by kernel_rfl) rfl (yA rfl b3 (.cons (.same rfl) .nil) (fun q hq => by simp at hq; subst hq; exact zR _ _) rfl rfl) rfl ?_) | (refine zq 128 ?_; refine zd rfl (zS (K := []) (Rs' := [_]) [0] (by decide) rfl b2 (.cons rfl rfl rfl (zP _) (zP _) .nil) (.cons (.ptr rfl) (.cons (.same rfl) .nil)) (fun q hq => by cases hq) rfl) rfl ?_) | (refine zr 128 rfl ?_; refine zY rfl (by kernel_rfl) rfl (zS (K := []) (Rs' := [_]) [0] (by decide) rfl b2 (.cons rfl rfl rfl (zP _) (zP _) .nil) (.cons (.ptr rfl) (.cons (.same rfl) .nil)) (fun q hq => by cases hq) rfl) rfl ?_) | exact absurd hbr h | exact qJ rfl (.tup (.cons (.same rfl) (.cons (vD rfl rfl rfl rfl) .nil))) | refine zD ?_ | refine zB _ rfl (by kernel_rfl) ?_ | refine zV rfl ?_ | refine zW rfl ?_ | refine zC ?_ | with_reducible refine zM ?_ | refine zH ?_ | refine zI ?_ | (with_reducible first | refine zK ?_ | refine zL ?_ | refine zE ?_ | refine zG ?_ | refine zF ?_) | refine zN ?_ | (refine vY ?_; refine xi rfl rfl (fun hbr => ?_) (fun hbr => ?_) <;> (fail_if_success (with_reducible (have hx : true = true := hbr))) <;> (fail_if_success (with_reducible (have hx : false = false := hbr)))) | (refine za rfl ?_; refine yz rfl rfl rfl rfl (fun hbr => ?_) (fun hbr => ?_) <;> (fail_if_success (with_reducible (have hx : true = true := hbr))) <;> (fail_if_success (with_reducible (have hx : false = false := hbr))))
end Go.Proofs.Ytkcicbigpbdjpaa.Ab.Pr
namespace Go.Proofs.Ytkcicbigpbdjpaa.Ab
open Go.RowKit
def tG (P : Program) (o : Oper) (ρ : Operand → V) (H : List Reg) (post : V → List Reg → Prop) : Prop :=
  ∀ S : St, S.H = H → (∀ x ∈ o.op.operands, S.ev x = ρ x) → ∀ C φ a w, Inv C φ S a w → ∀ (next : Act → World → Prop) (Q : Exit → Act → World → Prop),
    (∀ v H' x w' φ', post v H' → Inv C φ' (S.put o.dst v H') (a.put o.dst x) w' → next (a.put o.dst x) w') → o.wp P a w next Q
theorem tG.of {P : Program} {o : Oper} {ρ : Operand → V} {H H' : List Reg} {v : V} (h : zu P o ρ H v H') : tG P o ρ H (fun v1 H1 => v1 = v ∧ H1 = H') :=
  fun S hS hρ C φ a w hI next Q hn => h S hS hρ C φ a w hI next Q fun x w' φ' hI' => hn v H' x w' φ' ⟨rfl, rfl⟩ hI'
theorem tG.congr {P : Program} {o : Oper} {ρ ρ' : Operand → V} {H : List Reg} {post : V → List Reg → Prop} (h : tG P o ρ H post) (hρ : ∀ x ∈ o.op.operands, ρ' x = ρ x) : tG P o ρ' H post :=
  fun S hS hx => h S hS fun x hm => (hx x hm).trans (hρ x hm)
section
variable {P : Program} {ops : Array Oper} {md : Region.Mode} {s : Nat} {G : List Reg → Prop} {Q : Exit → St → Prop}
def v9 (P : Program) (ops : Array Oper) (b : Prop) (G : List Reg → Prop) (i : Nat) (K : St → Prop) (S : St) : Prop :=
  match ops[i]? with
  | none => K S
  | some o => (yD ops S o = some true ∧ ∃ post : V → List Reg → Prop, tG P o S.ev S.H post ∧ (∀ v H', post v H' → b → G H') ∧ ∀ v H', post v H' → K (S.put o.dst v H')) ∨ (yD ops S o = some false ∧ K (S.put o.dst (.k undef) S.H))
def wm (P : Program) (md : Region.Mode) (ops : Array Oper) (s : Nat) (G : List Reg → Prop) (Q : Exit → St → Prop) : Nat → Array Bool → St → Prop
  | 0, listed, S => Region.ready md ops listed = [] ∧ Q .normal S
  | n + 1, listed, S => (Region.ready md ops listed = [] → Q .normal S) ∧ ∀ i ∈ Region.ready md ops listed, v9 P ops ((listed.setIfInBounds i true).getD s true = false) G i (wm P md ops s G Q n (listed.setIfInBounds i true)) S
theorem v9.mono {b : Prop} {i : Nat} {K K' : St → Prop} {S : St} (hk : ∀ S, K S → K' S) (h : v9 P ops b G i K S) : v9 P ops b G i K' S := by
  unfold v9 at *
  split at h
  · exact hk _ h
  · rcases h with ⟨h1, post, h2, h3, h4⟩ | ⟨h1, h2⟩
    · exact Or.inl ⟨h1, post, h2, h3, fun v H' hp => hk _ (h4 v H' hp)⟩
    · exact Or.inr ⟨h1, hk _ h2⟩
theorem xH : ∀ (n : Nat) (listed : Array Bool) (S : St), wm P md ops s G Q n listed S → ∀ (C : Cx) (φ : List Hd) (a : Act) (w : World), Inv C φ S a w → wpAny P md ops (mP C Q) n listed a w
  | 0, listed, S, h, C, φ, a, w, hI => ⟨h.1, S, φ, hI, h.2⟩
  | n + 1, listed, S, h, C, φ, a, w, hI => by
    refine ⟨fun h0 => ⟨S, φ, hI, h.1 h0⟩, fun i hi => ?_⟩
    have h1 := h.2 i hi
    unfold v9 at h1
    unfold wpOp
    cases ho : ops[i]? with
    | none => rw [ho] at h1; exact xH n _ S h1 C φ a w hI
    | some o =>
      rw [ho] at h1
      simp only at h1 ⊢
      rcases h1 with ⟨hw, post, hs, _, hk⟩ | ⟨hw, hk⟩
      · rw [if_pos (xV hI hw)]
        exact Or.inl (hs S rfl (fun _ _ => rfl) C φ a w hI _ _ fun v H' x w' φ' hp hI' => xH n _ _ (hk v H' hp) C φ' _ _ hI')
      · rw [if_neg (by rw [xV hI hw]; simp)]
        exact xH n _ _ hk C φ _ _ (vj C φ a w hI o.dst)
theorem yr {listed : Array Bool} {i j : Nat} (h : i ≠ j) : (listed.setIfInBounds i true).getD j true = listed.getD j true := getD_set_ne true h
theorem uF {B : Prop} {i : Nat} {oi : Oper} {v : V} (hi : ops[i]? = some oi) (hne : i ≠ s) (hed : B → ∃ os, ops[s]? = some os ∧ ∃ e ∈ os.after, Region.binds md e = true ∧ e.on = i) :
    ∀ (n : Nat) (listed : Array Bool) (S : St), (listed.getD s true = false → G S.H) → (B → listed.getD s true = false) →
      (∀ j oj, ops[j]? = some oj → j ≠ i → listed.getD j true = false → (∀ e ∈ oj.after, Region.binds md e = true → e.on ≠ i) → oi.apart ops oj = true) →
      i ∈ Region.ready md ops listed → xz P ops (fun H => B → G H) oi v S →
      wm P md ops s G Q n (listed.setIfInBounds i true) (S.put oi.dst v S.H) → wm P md ops s G Q (n + 1) listed S := by
  intro n
  induction n with
  | zero =>
    intro listed S hG hB _ hr hy H
    refine ⟨fun h => (by rw [h] at hr; cases hr), fun j hj => ?_⟩
    by_cases hji : j = i
    · subst hji
      unfold v9
      rw [hi]
      rcases hy with ⟨h1, h2⟩ | ⟨h1, rfl⟩
      · exact Or.inl ⟨h1, _, .of (h2 _ (fun b => hG (hB b))), fun v1 H1 hp hb => by obtain ⟨_, rfl⟩ := hp; exact hG (by rw [yr hne] at hb; exact hb), fun v1 H1 hp => by obtain ⟨rfl, rfl⟩ := hp; exact H⟩
      · exact Or.inr ⟨h1, H⟩
    · have := ready_mono hj hji
      rw [H.1] at this
      cases this
  | succ n ih =>
    intro listed S hG hB hfree hr hy H
    refine ⟨fun h => (by rw [h] at hr; cases hr), fun j hj => ?_⟩
    by_cases hji : j = i
    · subst hji
      unfold v9
      rw [hi]
      rcases hy with ⟨h1, h2⟩ | ⟨h1, rfl⟩
      · exact Or.inl ⟨h1, _, .of (h2 _ (fun b => hG (hB b))), fun v1 H1 hp hb => by obtain ⟨_, rfl⟩ := hp; exact hG (by rw [yr hne] at hb; exact hb), fun v1 H1 hp => by obtain ⟨rfl, rfl⟩ := hp; exact H⟩
      · exact Or.inr ⟨h1, H⟩
    · have h1 := H.2 j (ready_mono hj hji)
      obtain ⟨hjun, oj, hoj, hall⟩ := mem_ready.1 hj
      have hiun := (mem_ready.1 hr).1
      have hnot : ∀ e ∈ oj.after, Region.binds md e = true → e.on ≠ i := fun e he hb heq => by
        have h1 := hall e he hb
        rw [heq] at h1
        rcases Nat.lt_or_ge i listed.size with h' | h'
        · simp [h'] at hiun h1; rw [hiun] at h1; cases h1
        · simp [Array.getElem?_eq_none h'] at h1
      have hjs : B → j ≠ s := fun b hjs => by
        subst hjs
        obtain ⟨os, h3, e, h4, h5, h6⟩ := hed b
        rw [hoj] at h3
        cases h3
        exact hnot e h4 h5 h6
      have hfree' : ∀ k ok, ops[k]? = some ok → k ≠ i → (listed.setIfInBounds j true).getD k true = false →
          (∀ e ∈ ok.after, Region.binds md e = true → e.on ≠ i) → oi.apart ops ok = true := fun k ok hk hki hun hno => by
        refine hfree k ok hk hki ?_ hno
        by_cases hjk : j = k
        · subst hjk; exact hjun
        · rw [getD_set_ne true hjk] at hun; exact hun
      have hb2 : ((listed.setIfInBounds i true).setIfInBounds j true).getD s true = (listed.setIfInBounds j true).getD s true := by
        rw [Array.setIfInBounds_comm _ _ (Ne.symm hji), yr hne]
      obtain ⟨p1, p2, p3⟩ := Oper.apart_spec (hfree j oj hoj hji hjun hnot)
      have key : ∀ (u : V) (H' : List Reg), ((listed.setIfInBounds j true).getD s true = false → G H') → wm P md ops s G Q n ((listed.setIfInBounds j true).setIfInBounds i true) ((S.put oj.dst u H').put oi.dst v H') → wm P md ops s G Q (n + 1) (listed.setIfInBounds j true) (S.put oj.dst u H') := fun u H' hGH hk => by
        refine ih (listed.setIfInBounds j true) (S.put oj.dst u H') (by rw [xU]; exact hGH) (fun b => by rw [yr (hjs b)]; exact hB b) hfree' (ready_mono hr (Ne.symm hji)) (hy.keep p3) ?_
        rw [xU]
        exact hk
      unfold v9 at h1 ⊢
      rw [hoj] at h1 ⊢
      simp only at h1 ⊢
      rw [xn p1, xU] at h1
      rcases h1 with ⟨hw, post, hs, hH, hk⟩ | ⟨hw, hk⟩
      · rw [hb2] at hH
        refine Or.inl ⟨hw, post, hs.congr (fun x hx => (yx p1 x hx).symm), hH, fun u H' hp => key u H' (hH u H' hp) ?_⟩
        rw [Array.setIfInBounds_comm _ _ hji, ← xc v u S.H H' p2]
        exact hk u H' hp
      · refine Or.inr ⟨hw, key (.k undef) S.H (fun hb => ?_) ?_⟩
        · by_cases hjs' : j = s
          · subst hjs'
            rcases Nat.lt_or_ge j listed.size with h' | h'
            · simp [Array.getD, h'] at hb
            · rw [Array.getD_eq_getD_getElem?, Array.getElem?_eq_none (by simpa using h')] at hb; cases hb
          · rw [yr hjs'] at hb
            exact hG hb
        · rw [Array.setIfInBounds_comm _ _ hji, ← xc v (.k undef) S.H S.H p2]
          exact hk
end
section
variable {P : Program} {T : Tab} {ops : Array Oper} {s : Nat} {G : List Reg → Prop} {Q : Exit → St → Prop} {l l' : List V} {H H' K : List Reg} {m : Nat} {o : Oper} {d : List Nat} {n : Nat}
structure APerS (P : Program) (ops : Array Oper) (s : Nat) (G : List Reg → Prop) (d : List Nat) (n : Nat) (Q : Exit → St → Prop) (S : St) : Prop where
  out : wm P .any ops s G Q n (mkL ops.size d) S
theorem qv {id : Nat} {S : St} (s : Nat) (G : List Reg → Prop) (n : Nat) (hn : ops.size = n) [hT : TabC P T] (h : APerS P ops s G [] n Q S) : AW P (.region id ops true) Q S := by
  subst hn
  exact ⟨fun C φ a w hI => wp_region_any hT.wide (xH _ _ _ h.out C φ a _ (sF hI))⟩
theorem u5 {S : St} (hr : (Region.ready .any ops (mkL ops.size d) == []) = true) (h : Q .normal S) : APerS P ops s G d 0 Q S := ⟨⟨by simpa using hr, h⟩⟩
def nw (ops : Array Oper) (d : List Nat) (s i : Nat) : Bool := !((mkL ops.size d).getD s true) && (match ops[s]? with | some os => os.after.any fun e => Region.binds .any e && e.on == i | none => false) && !(i == s)
def nK (s i : Nat) : Bool := !(i == s)
theorem sf {i : Nat} (h : nw ops d s i = true) : (mkL ops.size d).getD s true = false ∧ (∃ os, ops[s]? = some os ∧ ∃ e ∈ os.after, Region.binds .any e = true ∧ e.on = i) ∧ i ≠ s := by
  simp only [nw, Bool.and_eq_true, Bool.not_eq_true'] at h
  obtain ⟨⟨h1, h2⟩, h3⟩ := h
  refine ⟨h1, ?_, by simpa using h3⟩
  cases ho : ops[s]? with
  | none => rw [ho] at h2; cases h2
  | some os =>
    rw [ho] at h2
    simp only [Array.any_eq_true'] at h2
    obtain ⟨e, h4, h5⟩ := h2
    simp only [Bool.and_eq_true, beq_iff_eq] at h5
    exact ⟨os, rfl, e, h4, h5.1, h5.2⟩
theorem wg (i : Nat) {v : V} (hG : G H) (he : nw ops d s i = true) (ho : ops[i]? = some o) (hc : vU ops d i = true) (hw : yD ops ⟨l, H, m⟩ o = some true) (hs : ∀ H, G H → zu P o (St.ev ⟨l, H, m⟩) H v H) (hp : x9 l H o.dst v = some (l', K)) (hk : APerS P ops s G (i :: d) n Q ⟨l', K, m⟩) : APerS P ops s G d (n + 1) Q ⟨l, H, m⟩ := by
  simp only [vU, Bool.and_eq_true] at hc
  obtain ⟨e1, e2, e3⟩ := sf he
  refine ⟨uF (B := True) ho e3 (fun _ => e2) n _ _ (fun _ => hG) (fun _ => e1) (Region.free_spec ho hc.1) (by simpa using hc.2) (Or.inl ⟨hw, fun H1 h1 => hs H1 (h1 trivial)⟩) ?_⟩
  rw [show (⟨l, H, m⟩ : St).put o.dst v (⟨l, H, m⟩ : St).H = ⟨l', K, m⟩ from yZ hp m]
  exact hk.out
theorem wh (i : Nat) {v : V} (hG : (mkL ops.size d).getD s true = true ∨ G H) (he : nK s i = true) (ho : ops[i]? = some o) (hc : vU ops d i = true) (hw : yD ops ⟨l, H, m⟩ o = some true) (hs : ∀ H, zu P o (St.ev ⟨l, H, m⟩) H v H) (hp : x9 l H o.dst v = some (l', K)) (hk : APerS P ops s G (i :: d) n Q ⟨l', K, m⟩) : APerS P ops s G d (n + 1) Q ⟨l, H, m⟩ := by
  simp only [vU, Bool.and_eq_true] at hc
  refine ⟨uF (B := False) ho (by simpa [nK] using he) (fun h => h.elim) n _ _ (fun hb => hG.resolve_left (by rw [hb]; decide)) (fun h => h.elim) (Region.free_spec ho hc.1) (by simpa using hc.2) (Or.inl ⟨hw, fun H1 h1 => hs H1⟩) ?_⟩
  rw [show (⟨l, H, m⟩ : St).put o.dst v (⟨l, H, m⟩ : St).H = ⟨l', K, m⟩ from yZ hp m]
  exact hk.out
theorem z0 (i : Nat) {v : V} [hT : TabC P T] (hG : (mkL ops.size d).getD s true = true ∨ G H) (he : nK s i = true) (ho : ops[i]? = some o) (hc : vU ops d i = true) (hw : yD ops ⟨l, H, m⟩ o = some true) (h : ∀ H, w9 T l H o.op = some (v, H)) (hp : x9 l H o.dst v = some (l', K)) (hk : APerS P ops s G (i :: d) n Q ⟨l', K, m⟩) : APerS P ops s G d (n + 1) Q ⟨l, H, m⟩ :=
  wh i hG he ho hc hw (fun H1 => xa (m := m) hT.ok (h H1)) hp hk
theorem vr (i : Nat) {v : V} (hr : (Region.ready .any ops (mkL ops.size d) == [i]) = true) (ho : ops[i]? = some o) (hw : yD ops ⟨l, H, m⟩ o = some true) (hs : zu P o (St.ev ⟨l, H, m⟩) H v H') (hG : (mkL ops.size (i :: d)).getD s true = true ∨ G H') (hp : x9 l H' o.dst v = some (l', K)) (hk : APerS P ops s G (i :: d) n Q ⟨l', K, m⟩) : APerS P ops s G d (n + 1) Q ⟨l, H, m⟩ := by
  have hr' : Region.ready .any ops (mkL ops.size d) = [i] := by simpa using hr
  refine ⟨⟨fun h0 => (by rw [h0] at hr'; cases hr'), fun x hx => ?_⟩⟩
  rw [hr'] at hx
  simp at hx
  subst hx
  unfold v9
  rw [ho]
  refine Or.inl ⟨hw, _, .of hs, fun v1 H1 hq hb => ?_, fun v1 H1 hq => ?_⟩
  · obtain ⟨_, rfl⟩ := hq
    refine hG.resolve_left (fun ht => ?_)
    have hb' : (mkL ops.size (x :: d)).getD s true = false := hb
    rw [ht] at hb'
    cases hb'
  · obtain ⟨rfl, rfl⟩ := hq
    rw [yZ hp m]
    exact hk.out
theorem uO (i : Nat) {v : V} [hT : TabC P T] (hr : (Region.ready .any ops (mkL ops.size d) == [i]) = true) (ho : ops[i]? = some o) (hw : yD ops ⟨l, H, m⟩ o = some true) (h : w9 T l H o.op = some (v, H')) (hG : (mkL ops.size (i :: d)).getD s true = true ∨ G H') (hp : x9 l H' o.dst v = some (l', K)) (hk : APerS P ops s G (i :: d) n Q ⟨l', K, m⟩) : APerS P ops s G d (n + 1) Q ⟨l, H, m⟩ :=
  vr i hr ho hw (xa hT.ok h) hG hp hk
end
end Go.Proofs.Ytkcicbigpbdjpaa.Ab
namespace Go.Proofs.Ytkcicbigpbdjpaa.Ab
open Go.RowKit
section
variable {P : Program} {md : Region.Mode} {ops : Array Oper} {s : Nat} {G : List Reg → Prop} {Q : Exit → St → Prop}
theorem td {i : Nat} {oi : Oper} {v : V} (hi : ops[i]? = some oi) (hne : i ≠ s) (fu : Nat) (hed : Region.reachB md ops i fu s = true) :
    ∀ (n : Nat) (listed : Array Bool) (S : St), G S.H → listed.getD s true = false → yV md ops listed →
      (∀ j oj, ops[j]? = some oj → j ≠ i → listed.getD j true = false → (∀ e ∈ oj.after, Region.binds md e = true → e.on ≠ i) → oi.apart ops oj = true) →
      i ∈ Region.ready md ops listed → xz P ops G oi v S →
      wm P md ops s G Q n (listed.setIfInBounds i true) (S.put oi.dst v S.H) → wm P md ops s G Q (n + 1) listed S := by
  intro n
  induction n with
  | zero =>
    intro listed S hG hB hC _ hr hy H
    refine ⟨fun h => (by rw [h] at hr; cases hr), fun j hj => ?_⟩
    by_cases hji : j = i
    · subst hji
      unfold v9
      rw [hi]
      rcases hy with ⟨h1, h2⟩ | ⟨h1, rfl⟩
      · exact Or.inl ⟨h1, _, .of (h2 _ hG), fun v1 H1 hp hb => by obtain ⟨_, rfl⟩ := hp; exact hG, fun v1 H1 hp => by obtain ⟨rfl, rfl⟩ := hp; exact H⟩
      · exact Or.inr ⟨h1, H⟩
    · have := ready_mono hj hji
      rw [H.1] at this
      cases this
  | succ n ih =>
    intro listed S hG hB hC hfree hr hy H
    refine ⟨fun h => (by rw [h] at hr; cases hr), fun j hj => ?_⟩
    by_cases hji : j = i
    · subst hji
      unfold v9
      rw [hi]
      rcases hy with ⟨h1, h2⟩ | ⟨h1, rfl⟩
      · exact Or.inl ⟨h1, _, .of (h2 _ hG), fun v1 H1 hp hb => by obtain ⟨_, rfl⟩ := hp; exact hG, fun v1 H1 hp => by obtain ⟨rfl, rfl⟩ := hp; exact H⟩
      · exact Or.inr ⟨h1, H⟩
    · have h1 := H.2 j (ready_mono hj hji)
      obtain ⟨hjun, oj, hoj, hall⟩ := mem_ready.1 hj
      have hiun := (mem_ready.1 hr).1
      have hnot : ∀ e ∈ oj.after, Region.binds md e = true → e.on ≠ i := fun e he hb heq => by
        have h1 := hall e he hb
        rw [heq] at h1
        rcases Nat.lt_or_ge i listed.size with h' | h'
        · simp [h'] at hiun h1; rw [hiun] at h1; cases h1
        · simp [Array.getElem?_eq_none h'] at h1
      have hjs : j ≠ s := fun hjs => by
        subst hjs
        exact Region.reach_not_ready hC hed hiun hj
      have hfree' : ∀ k ok, ops[k]? = some ok → k ≠ i → (listed.setIfInBounds j true).getD k true = false →
          (∀ e ∈ ok.after, Region.binds md e = true → e.on ≠ i) → oi.apart ops ok = true := fun k ok hk hki hun hno => by
        refine hfree k ok hk hki ?_ hno
        by_cases hjk : j = k
        · subst hjk; exact hjun
        · rw [getD_set_ne true hjk] at hun; exact hun
      have hb2 : ((listed.setIfInBounds i true).setIfInBounds j true).getD s true = (listed.setIfInBounds j true).getD s true := by
        rw [Array.setIfInBounds_comm _ _ (Ne.symm hji), yr hne]
      have hBj : (listed.setIfInBounds j true).getD s true = false := by rw [yr hjs]; exact hB
      obtain ⟨p1, p2, p3⟩ := Oper.apart_spec (hfree j oj hoj hji hjun hnot)
      have key : ∀ (u : V) (H' : List Reg), G H' → wm P md ops s G Q n ((listed.setIfInBounds j true).setIfInBounds i true) ((S.put oj.dst u H').put oi.dst v H') → wm P md ops s G Q (n + 1) (listed.setIfInBounds j true) (S.put oj.dst u H') := fun u H' hGH hk => by
        refine ih (listed.setIfInBounds j true) (S.put oj.dst u H') (by rw [xU]; exact hGH) hBj (hC.set hj) hfree' (ready_mono hr (Ne.symm hji)) (hy.keep p3) ?_
        rw [xU]
        exact hk
      unfold v9 at h1 ⊢
      rw [hoj] at h1 ⊢
      simp only at h1 ⊢
      rw [xn p1, xU] at h1
      rcases h1 with ⟨hw, post, hs, hH, hk⟩ | ⟨hw, hk⟩
      · rw [hb2] at hH
        refine Or.inl ⟨hw, post, hs.congr (fun x hx => (yx p1 x hx).symm), hH, fun u H' hp => key u H' (hH u H' hp hBj) ?_⟩
        rw [Array.setIfInBounds_comm _ _ hji, ← xc v u S.H H' p2]
        exact hk u H' hp
      · refine Or.inr ⟨hw, key (.k undef) S.H hG ?_⟩
        rw [Array.setIfInBounds_comm _ _ hji, ← xc v (.k undef) S.H S.H p2]
        exact hk
end
section
variable {P : Program} {T : Tab} {ops : Array Oper} {s : Nat} {G : List Reg → Prop} {Q : Exit → St → Prop} {l l' : List V} {H H' K : List Reg} {m : Nat} {o : Oper} {d : List Nat} {n : Nat}
def lx (ops : Array Oper) (d : List Nat) (s i : Nat) : Bool := !((mkL ops.size d).getD s true) && Region.reachB .any ops i ops.size s && Region.closedB .any ops (mkL ops.size d) && !(i == s)
theorem tO (i : Nat) {v : V} (hG : G H) (he : lx ops d s i = true) (ho : ops[i]? = some o) (hc : vU ops d i = true) (hw : yD ops ⟨l, H, m⟩ o = some true) (hs : ∀ H, G H → zu P o (St.ev ⟨l, H, m⟩) H v H) (hp : x9 l H o.dst v = some (l', K)) (hk : APerS P ops s G (i :: d) n Q ⟨l', K, m⟩) : APerS P ops s G d (n + 1) Q ⟨l, H, m⟩ := by
  simp only [vU, Bool.and_eq_true] at hc
  simp only [lx, Bool.and_eq_true, Bool.not_eq_true'] at he
  obtain ⟨⟨⟨e1, e2⟩, e3⟩, e4⟩ := he
  refine ⟨td ho (by simpa using e4) _ e2 n _ _ hG e1 (Region.closedB_spec e3) (Region.free_spec ho hc.1) (by simpa using hc.2) (Or.inl ⟨hw, hs⟩) ?_⟩
  rw [show (⟨l, H, m⟩ : St).put o.dst v (⟨l, H, m⟩ : St).H = ⟨l', K, m⟩ from yZ hp m]
  exact hk.out
end
end Go.Proofs.Ytkcicbigpbdjpaa.Ab
namespace Go.Proofs.Ytkcicbigpbdjpaa.Ab.Pr
open Go.RowKit
theorem mH (xs : List Int) (hl : xs.length ≤ 1000000000) : ∃ x y : Rw, zn Go.Proofs.Try.prog 75 [yy u8T xs] [] (.tup [.agg (rwE x), .agg (rwE y)]) [] true := by
  have k0 : (xR xs).code.length ≤ 1000000000 := hl
  have b1 := qn (xR xs) k0
  have hpl := ud (xR xs)
  have k1 : (vq (xR xs)).2.code.length ≤ 1000000000 := by rw [vp]; exact k0
  generalize vq (xR xs) = pd at b1 hpl k1
  obtain ⟨p, c⟩ := pd
  simp only at b1 hpl k1
  have b2 := sI c k1
  have hql := ud c
  have k2 : (vq c).2.code.length ≤ 1000000000 := by rw [vp]; exact k1
  generalize vq c = qd at b2 hql k2
  obtain ⟨q, d⟩ := qd
  simp only at b2 hql k2
  have hll : (p ++ q).length ≤ 40 := by rw [List.length_append]; omega
  by_cases h : (decide (((p ++ q).length : Int) = 0)) = true
  · refine ⟨⟨z3, z3, false⟩, ⟨z3, z3, true⟩, ?_⟩
    refine ug 2 3 73 73 Go.Proofs.Try.func75 rfl rfl ?_
    simp only [Go.Proofs.Try.ntmps75, List.length_cons, List.length_nil, Nat.reduceAdd, Nat.reduceSub, List.replicate_succ, List.replicate_zero, List.cons_append, List.nil_append]
    repeat' first | refine zJ ?_ | refine zA ?_ | refine zO [] ?_ | (refine isA ?_; refine zb rfl ?_) | (refine isL ?_; refine zU rfl (by kernel_rfl) rfl rfl ?_) | (refine za rfl ?_; refine zT rfl (by kernel_rfl) rfl rfl ?_) | (refine zq 104 ?_; refine zd rfl (yA rfl (wV xs hl) (.cons (.same rfl) .nil) (fun q hq => by simp at hq; subst hq; exact zP _) rfl rfl) rfl ?_) | (refine zr 104 rfl ?_; refine zY rfl (by kernel_rfl) rfl (yA rfl (wV xs hl) (.cons (.same rfl) .nil) (fun q hq => by simp at hq; subst hq; exact zP _) rfl rfl) rfl ?_) | (refine zq 142 ?_; refine zd rfl (wE (args := []) 3 2 b1 rfl rfl rfl rfl (zR _ _) rfl rfl rfl) rfl ?_) | (refine zr 142 rfl ?_; refine zY rfl (by kernel_rfl) rfl (wE (args := []) 3 2 b1 rfl rfl rfl rfl (zR _ _) rfl rfl rfl) rfl ?_) | (refine zq 142 ?_; refine zd rfl (zS (K := []) (Rs' := [_]) [2] (by decide) rfl b2 (.cons rfl rfl rfl (zP _) (zP _) .nil) (.cons (.ptr rfl) .nil) (fun q hq => by cases hq) rfl) rfl ?_) | (refine zr 142 rfl ?_; refine zY rfl (by kernel_rfl) rfl (zS (K := []) (Rs' := [_]) [2] (by decide) rfl b2 (.cons rfl rfl rfl (zP _) (zP _) .nil) (.cons (.ptr rfl) .nil) (fun q hq => by cases hq) rfl) rfl ?_) | (refine x6 ?_; refine zd rfl (yY (t := rwT) (xs := p) (ys := q) rfl rfl rfl rfl (.lst _ _) (by omega) rfl) rfl ?_) | (refine xv rfl ?_; refine zY rfl (by kernel_rfl) rfl (yY (t := rwT) (xs := p) (ys := q) rfl rfl rfl rfl (.lst _ _) (by omega) rfl) rfl ?_) | refine zD ?_ | refine zB _ rfl (by kernel_rfl) ?_ | refine zV rfl ?_ | refine zW rfl ?_ | refine zC ?_ | with_reducible refine zM ?_ | refine zH ?_ | refine zI ?_ | (with_reducible first | refine zK ?_ | refine zL ?_ | refine zE ?_ | refine zG ?_ | refine zF ?_) | refine zN ?_
    refine zf rfl (fun g => ?_) (fun g => ?_)
    · repeat' first | refine zJ ?_ | refine zA ?_ | refine zO [] ?_ | (refine isA ?_; refine zb rfl ?_) | (refine isL ?_; refine zU rfl (by kernel_rfl) rfl rfl ?_) | (refine za rfl ?_; refine zT rfl (by kernel_rfl) rfl rfl ?_) | exact lw (xl rfl rfl rfl rfl rfl) (xl rfl rfl rfl rfl rfl) (.tup (.cons (.same rfl) (.cons (.same rfl) .nil))) | refine zD ?_ | refine zB _ rfl (by kernel_rfl) ?_ | refine zV rfl ?_ | refine zW rfl ?_ | refine zC ?_ | with_reducible refine zM ?_ | refine zH ?_ | refine zI ?_ | (with_reducible first | refine zK ?_ | refine zL ?_ | refine zE ?_ | refine zG ?_ | refine zF ?_) | refine zN ?_
    · exact absurd h (by rw [g]; decide)
  · have h0 : 0 < (p ++ q).length := by
      have h1 : decide (((p ++ q).length : Int) = 0) = false := by simpa using h
      have := of_decide_eq_false h1
      omega
    obtain ⟨r0, r1⟩ := xG (n := ((p ++ q).length : Int)) (by omega) d
    have f1 := y0 ((p ++ q).length : Int) d k2
    have k3 : (beC ((p ++ q).length : Int) d).code.length ≤ 1000000000 := by rw [yK]; exact k2
    obtain ⟨r2, r3⟩ := xG (n := ((p ++ q).length : Int)) (by omega) (beC ((p ++ q).length : Int) d)
    have f2 := y0 ((p ++ q).length : Int) (beC ((p ++ q).length : Int) d) k3
    generalize beV ((p ++ q).length : Int) (beC ((p ++ q).length : Int) d) = v2 at r2 r3 f2
    generalize beC ((p ++ q).length : Int) (beC ((p ++ q).length : Int) d) = d2 at f2
    generalize beV ((p ++ q).length : Int) d = v1 at r0 r1 f1
    generalize beC ((p ++ q).length : Int) d = d1 at f1 f2 k3
    obtain ⟨i, rfl⟩ : ∃ i : Nat, v1 = i := ⟨v1.toNat, by omega⟩
    obtain ⟨j, rfl⟩ : ∃ i : Nat, v2 = i := ⟨v2.toNat, by omega⟩
    obtain ⟨x, hx⟩ : ∃ z, (p ++ q)[i]? = some z := ⟨_, List.getElem?_eq_getElem (by omega)⟩
    obtain ⟨y, hy⟩ : ∃ z, (p ++ q)[j]? = some z := ⟨_, List.getElem?_eq_getElem (by omega)⟩
    refine ⟨x, y, ?_⟩
    refine ug 2 3 73 73 Go.Proofs.Try.func75 rfl rfl ?_
    simp only [Go.Proofs.Try.ntmps75, List.length_cons, List.length_nil, Nat.reduceAdd, Nat.reduceSub, List.replicate_succ, List.replicate_zero, List.cons_append, List.nil_append]
    repeat' first | refine zJ ?_ | refine zA ?_ | refine zO [] ?_ | (refine isA ?_; refine zb rfl ?_) | (refine isL ?_; refine zU rfl (by kernel_rfl) rfl rfl ?_) | (refine za rfl ?_; refine zT rfl (by kernel_rfl) rfl rfl ?_) | (refine zq 104 ?_; refine zd rfl (yA rfl (wV xs hl) (.cons (.same rfl) .nil) (fun q hq => by simp at hq; subst hq; exact zP _) rfl rfl) rfl ?_) | (refine zr 104 rfl ?_; refine zY rfl (by kernel_rfl) rfl (yA rfl (wV xs hl) (.cons (.same rfl) .nil) (fun q hq => by simp at hq; subst hq; exact zP _) rfl rfl) rfl ?_) | (refine zq 142 ?_; refine zd rfl (wE (args := []) 3 2 b1 rfl rfl rfl rfl (zR _ _) rfl rfl rfl) rfl ?_) | (refine zr 142 rfl ?_; refine zY rfl (by kernel_rfl) rfl (wE (args := []) 3 2 b1 rfl rfl rfl rfl (zR _ _) rfl rfl rfl) rfl ?_) | (refine zq 142 ?_; refine zd rfl (zS (K := []) (Rs' := [_]) [2] (by decide) rfl b2 (.cons rfl rfl rfl (zP _) (zP _) .nil) (.cons (.ptr rfl) .nil) (fun q hq => by cases hq) rfl) rfl ?_) | (refine zr 142 rfl ?_; refine zY rfl (by kernel_rfl) rfl (zS (K := []) (Rs' := [_]) [2] (by decide) rfl b2 (.cons rfl rfl rfl (zP _) (zP _) .nil) (.cons (.ptr rfl) .nil) (fun q hq => by cases hq) rfl) rfl ?_) | (refine x6 ?_; refine zd rfl (yY (t := rwT) (xs := p) (ys := q) rfl rfl rfl rfl (.lst _ _) (by omega) rfl) rfl ?_) | (refine xv rfl ?_; refine zY rfl (by kernel_rfl) rfl (yY (t := rwT) (xs := p) (ys := q) rfl rfl rfl rfl (.lst _ _) (by omega) rfl) rfl ?_) | refine zD ?_ | refine zB _ rfl (by kernel_rfl) ?_ | refine zV rfl ?_ | refine zW rfl ?_ | refine zC ?_ | with_reducible refine zM ?_ | refine zH ?_ | refine zI ?_ | (with_reducible first | refine zK ?_ | refine zL ?_ | refine zE ?_ | refine zG ?_ | refine zF ?_) | refine zN ?_
    refine zf rfl (fun g => ?_) (fun g => ?_)
    · exact absurd g h
    repeat' first | refine zJ ?_ | refine zA ?_ | (refine isA ?_; refine zb rfl ?_) | (refine isL ?_; refine zU rfl (by kernel_rfl) rfl rfl ?_) | (refine za rfl ?_; refine zT rfl (by kernel_rfl) rfl rfl ?_) | refine zD ?_ | refine zB _ rfl (by kernel_rfl) ?_ | refine zV rfl ?_ | refine zW rfl ?_ | refine zC ?_ | with_reducible refine zM ?_ | refine zH ?_ | refine zI ?_ | (with_reducible first | refine zK ?_ | refine zL ?_ | refine zE ?_ | refine zG ?_ | refine zF ?_) | refine zN ?_
    refine qv 15 (fun H => H[4]? = some (rwR (p ++ q))) 16 rfl ?_
    refine z0 0 (Or.inr rfl) rfl rfl (by kernel_rfl) rfl (fun _ => rfl) rfl ?_
    refine z0 1 (Or.inr rfl) rfl rfl (by kernel_rfl) rfl (fun _ => rfl) rfl ?_
    refine z0 2 (Or.inr rfl) rfl rfl (by kernel_rfl) rfl (fun _ => rfl) rfl ?_
    refine z0 3 (Or.inr rfl) rfl rfl (by kernel_rfl) rfl (fun _ => rfl) rfl ?_
    refine z0 7 (Or.inr rfl) rfl rfl (by kernel_rfl) rfl (fun _ => rfl) rfl ?_
    refine z0 8 (Or.inr rfl) rfl rfl (by kernel_rfl) rfl (fun _ => rfl) rfl ?_
    refine z0 9 (Or.inr rfl) rfl rfl (by kernel_rfl) rfl (fun _ => rfl) rfl ?_
    refine z0 10 (Or.inr rfl) rfl rfl (by kernel_rfl) rfl (fun _ => rfl) rfl ?_
    refine vr 4 (by kernel_rfl) rfl rfl (zS (K := []) (Rs' := [_]) [2] (by decide) rfl f1 (.cons rfl rfl rfl (zP _) (zP _) .nil) (.cons (.ptr rfl) (.cons (.same rfl) .nil)) (fun q hq => by cases hq) rfl) (Or.inr rfl) rfl ?_
    refine tO 5 rfl (by kernel_rfl) rfl (by kernel_rfl) rfl (fun _ hG => wY (t := rwT) (xs := p ++ q) (j := (i : Int)) rfl rfl hG rfl rfl (Int.natCast_nonneg _) r1) rfl ?_
    refine tO 6 rfl (by kernel_rfl) rfl (by kernel_rfl) rfl (fun _ hG => y7 (T := rwT) (xs := p ++ q) (i := i) (z := x) rfl rfl hG hx) rfl ?_
    refine vr 11 (by kernel_rfl) rfl rfl (zS (K := []) (Rs' := [_]) [2] (by decide) rfl f2 (.cons rfl rfl rfl (zP _) (zP _) .nil) (.cons (.ptr rfl) (.cons (.same rfl) .nil)) (fun q hq => by cases hq) rfl) (Or.inr rfl) rfl ?_
    refine tO 12 rfl (by kernel_rfl) rfl (by kernel_rfl) rfl (fun _ hG => wY (t := rwT) (xs := p ++ q) (j := (j : Int)) rfl rfl hG rfl rfl (Int.natCast_nonneg _) r3) rfl ?_
    refine tO 13 rfl (by kernel_rfl) rfl (by kernel_rfl) rfl (fun _ hG => y7 (T := rwT) (xs := p ++ q) (i := j) (z := y) rfl rfl hG hy) rfl ?_
    refine uO 14 (by kernel_rfl) rfl rfl rfl (Or.inr rfl) rfl ?_
    refine uO 15 (by kernel_rfl) rfl rfl rfl (Or.inl (by kernel_rfl)) rfl ?_
    refine u5 (by kernel_rfl) ?_
    repeat' first | refine zJ ?_ | refine zA ?_ | refine zO [] ?_ | (refine isA ?_; refine zb rfl ?_) | (refine isL ?_; refine zU rfl (by kernel_rfl) rfl rfl ?_) | (refine za rfl ?_; refine zT rfl (by kernel_rfl) rfl rfl ?_) | exact lw (xl rfl rfl rfl rfl rfl) (xl rfl rfl rfl rfl rfl) (.tup (.cons (.same rfl) (.cons (.same rfl) .nil))) | refine zD ?_ | refine zB _ rfl (by kernel_rfl) ?_ | refine zV rfl ?_ | refine zW rfl ?_ | refine zC ?_ | with_reducible refine zM ?_ | refine zH ?_ | refine zI ?_ | (with_reducible first | refine zK ?_ | refine zL ?_ | refine zE ?_ | refine zG ?_ | refine zF ?_) | refine zN ?_
end Go.Proofs.Ytkcicbigpbdjpaa.Ab.Pr
