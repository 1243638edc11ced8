/- What the row FnExactStepSorter leans on, part 5: a walk over abstract values, and contracts proved with it. -/
import Derived.WalkKit
import Derived.Laws.Rows
import Derived.RowKit
import Derived.OrdersHeld
import Derived.Deep.RegionHeld3
import Derived.Deep.Draws
import Derived.BigCall
import Derived.KernelRfl
import Derived.Deep.Slices
import Derived.ChangeArms
import Derived.ChangeShapes
import Derived.WideShapes
import Derived.Laws.StructEq
import Derived.Lib.Overlaps
import Derived.Test.YtojcojanokhnaaaProg
import Derived.Test.YtojcojanokhnaaaZs3
set_option linter.unusedVariables false
set_option linter.unusedSimpArgs false
set_option maxRecDepth 20000
set_option maxHeartbeats 8000000
namespace Go.Proofs.Ytojcojanokhnaaa.Ab
open Go.RowKit
theorem qk {s : So} {r : Rw} (h : xJ s ≤ 60) : IntKind.i64.wrap (xJ s + xB r) = xJ s + xB r := by
  have h1 := eu s
  have h2 := qu r
  rw [IntKind.wrap_i64]; omega
theorem c_put (s : So) (g : Int) (r : Rw) (hok : okSo s) (hb : VBa s) (hm : xJ s ≤ 60) (hp : s.ph = 1) (hr : s.input[s.pos.toNat]? = some r) (hf : xJ s + xB r ≤ g) : AW Go.Proofs.Try.prog uk (stQ s (uy s r) g []) (stT s s g []) := by
  obtain ⟨p, hpp, hple⟩ := hb.pos
  have e1 : s.pos.toNat = p := by omega
  rw [e1] at hr
  have hlt := (List.getElem?_eq_some_iff.1 hr).1
  have g1 := hok.heap
  have g2 := hok.dfr
  have g3 := hok.input
  have am := qx s hok
  have ew : IntKind.i64.wrap (s.pos + 1) = s.pos + 1 := by rw [IntKind.wrap_i64]; omega
  have cb := qy r s.out (by have := hok.out; omega)
  repeat' first | (refine zj rfl (fun _ => ?_) (fun h => absurd hp (of_decide_eq_false h))) | refine zL ?_ | refine zA ?_ | refine zQ [] ?_ | (refine isA ?_; refine zg rfl ?_) | (refine isL ?_; refine zW rfl (by kernel_rfl) rfl rfl ?_) | (refine zd rfl ?_; refine zV rfl (by kernel_rfl) rfl rfl ?_) | refine zD ?_ | refine zB _ rfl (by kernel_rfl) ?_ | refine zX rfl ?_ | refine zY rfl ?_ | refine zC ?_ | with_reducible refine zO ?_ | refine zI ?_ | refine zJ ?_ | (with_reducible first | refine zM ?_ | refine zN ?_ | refine zF ?_ | refine zH ?_ | refine zG ?_) | refine zP ?_
  refine yG rfl rfl rfl rfl (fun _ => ?_) (fun h => absurd (of_decide_eq_false h) (by omega))
  repeat' first | refine zL ?_ | refine zA ?_ | refine zQ [] ?_ | (refine isA ?_; refine zg rfl ?_) | (refine isL ?_; refine zW rfl (by kernel_rfl) rfl rfl ?_) | (refine zd rfl ?_; refine zV rfl (by kernel_rfl) rfl rfl ?_) | (refine zp 19 ?_; refine za rfl (zK rfl am (.cons (wx rfl rfl rfl rfl rfl fun j x hx => v9 (yV hx)) .nil) rfl) rfl ?_) | (refine zq 19 rfl ?_; refine zT rfl (by kernel_rfl) rfl (zK rfl am (.cons (wx rfl rfl rfl rfl rfl fun j x hx => v9 (yV hx)) .nil) rfl) rfl ?_) | (refine z7 (x := .tmp 53) ?_; refine za rfl (zn (j := s.pos) rfl rfl rfl (Nat.zero_le _) rfl rfl (by omega) (by omega)) rfl ?_) | (refine z6 (x := .tmp 53) rfl ?_; refine zT rfl (by kernel_rfl) rfl (zn (j := s.pos) rfl rfl rfl (Nat.zero_le _) rfl rfl (by omega) (by omega)) rfl ?_) | (refine yt (x := .tmp 56) ?_; refine za rfl (yx (T := rwT) (i := 0 + s.pos.toNat) (z := r) rfl rfl rfl (by rw [Nat.zero_add, e1]; exact hr)) rfl ?_) | (refine yr (x := .tmp 56) rfl ?_; refine zT rfl (by kernel_rfl) rfl (yx (T := rwT) (i := 0 + s.pos.toNat) (z := r) rfl rfl rfl (by rw [Nat.zero_add, e1]; exact hr)) rfl ?_) | (refine zp 58 ?_; refine za rfl (zK rfl (w4 r) (.cons (.same rfl) .nil) rfl) rfl ?_) | (refine zq 58 rfl ?_; refine zT rfl (by kernel_rfl) rfl (zK rfl (w4 r) (.cons (.same rfl) .nil) rfl) rfl ?_) | refine zD ?_ | refine zB _ rfl (by kernel_rfl) ?_ | refine zX rfl ?_ | refine zY rfl ?_ | refine zC ?_ | with_reducible refine zO ?_ | refine zI ?_ | refine zJ ?_ | (with_reducible first | refine zM ?_ | refine zN ?_ | refine zF ?_ | refine zH ?_ | refine zG ?_) | refine zP ?_
  refine zj rfl (fun _ => ?_) (fun h => absurd (of_decide_eq_false h) (by rw [qk hm]; omega))
  repeat' first | refine zL ?_ | refine zA ?_ | refine zQ [] ?_ | (refine isA ?_; refine zg rfl ?_) | (refine isL ?_; refine zW rfl (by kernel_rfl) rfl rfl ?_) | (refine zd rfl ?_; refine zV rfl (by kernel_rfl) rfl rfl ?_) | (refine z7 (x := .tmp 64) ?_; refine za rfl (zn (j := s.pos) rfl rfl rfl (Nat.zero_le _) rfl rfl (by omega) (by omega)) rfl ?_) | (refine z6 (x := .tmp 64) rfl ?_; refine zT rfl (by kernel_rfl) rfl (zn (j := s.pos) rfl rfl rfl (Nat.zero_le _) rfl rfl (by omega) (by omega)) rfl ?_) | (refine yt (x := .tmp 67) ?_; refine za rfl (yx (T := rwT) (i := 0 + s.pos.toNat) (z := r) rfl rfl rfl (by rw [Nat.zero_add, e1]; exact hr)) rfl ?_) | (refine yr (x := .tmp 67) rfl ?_; refine zT rfl (by kernel_rfl) rfl (yx (T := rwT) (i := 0 + s.pos.toNat) (z := r) rfl rfl rfl (by rw [Nat.zero_add, e1]; exact hr)) rfl ?_) | (refine vK (x := .tmp 9) ?_; refine za rfl (xh rfl rfl rfl rfl rfl (wh r) rfl rfl) rfl ?_) | (refine vJ (x := .tmp 9) rfl ?_; refine zT rfl (by kernel_rfl) rfl (xh rfl rfl rfl rfl rfl (wh r) rfl rfl) rfl ?_) | (refine yt (x := .tmp 9) ?_; refine za rfl (yL rfl rfl (zb rfl) rfl rfl) rfl ?_) | (refine yr (x := .tmp 9) rfl ?_; refine zT rfl (by kernel_rfl) rfl (yL rfl rfl (zb rfl) rfl rfl) rfl ?_) | (refine zp 59 ?_; refine za rfl (zK rfl cb (.cons (.same rfl) (.cons (zy rfl) .nil)) rfl) rfl ?_) | (refine zq 59 rfl ?_; refine zT rfl (by kernel_rfl) rfl (zK rfl cb (.cons (.same rfl) (.cons (zy rfl) .nil)) rfl) rfl ?_) | refine zD ?_ | refine zB _ rfl (by kernel_rfl) ?_ | refine zX rfl ?_ | refine zY rfl ?_ | refine zC ?_ | with_reducible refine zO ?_ | refine zI ?_ | refine zJ ?_ | (with_reducible first | refine zM ?_ | refine zN ?_ | refine zF ?_ | refine zH ?_ | refine zG ?_) | refine zP ?_
  refine zj rfl (fun h => ?_) (fun h => ?_)
  · repeat' first | (refine isA ?_; refine za rfl (yR rfl rfl rfl rfl rfl) rfl ?_) | refine zL ?_ | refine zA ?_ | refine zQ [] ?_ | (refine isA ?_; refine zg rfl ?_) | (refine isL ?_; refine zW rfl (by kernel_rfl) rfl rfl ?_) | (refine zd rfl ?_; refine zV rfl (by kernel_rfl) rfl rfl ?_) | (refine yt (x := .tmp 9) ?_; refine za rfl (yL rfl rfl (zb rfl) rfl rfl) rfl ?_) | (refine yr (x := .tmp 9) rfl ?_; refine zT rfl (by kernel_rfl) rfl (yL rfl rfl (zb rfl) rfl rfl) rfl ?_) | (refine xt ?_; refine za rfl (yU (t := rwT) (xs := s.dfr) (ys := [r]) rfl rfl rfl rfl (.lst _ _) (by simp; omega) rfl) rfl ?_) | (refine xR rfl ?_; refine zT rfl (by kernel_rfl) rfl (yU (t := rwT) (xs := s.dfr) (ys := [r]) rfl rfl rfl rfl (.lst _ _) (by simp; omega) rfl) rfl ?_) | refine zD ?_ | refine zB _ rfl (by kernel_rfl) ?_ | refine zX rfl ?_ | refine zY rfl ?_ | refine zC ?_ | with_reducible refine zO ?_ | refine zI ?_ | refine zJ ?_ | (with_reducible first | refine zM ?_ | refine zN ?_ | refine zF ?_ | refine zH ?_ | refine zG ?_) | refine zP ?_
    have e : uy s r = { s with dfr := s.dfr ++ [r], pos := s.pos + 1 } := by unfold uy; rw [h]; rfl
    rw [e]
    refine And.intro rfl (wV [0, 1, 2, 3, 4, 5, s.runs.length + 1 + 9, 7, 8] (List.range' 9 s.runs.length) rfl (by simp) (yb (by simp <;> omega) (fun h hh => by simp at hh; omega)) (by repeat' first | exact HLes.nil | refine HLes.cons rfl rfl rfl rfl (zU (zE _ _)) ?_ | refine HLes.cons rfl rfl rfl rfl (z9 rfl) ?_ | refine HLes.cons rfl rfl rfl rfl (xM (fun j hj => xL _ 9 _ j hj)) ?_ | refine HLes.cons (z1 (zb xH)) rfl rfl rfl (zU (zE _ _)) ?_ | refine HLes.cons (z1 (zb y7)) rfl rfl rfl (zU (zE _ _)) ?_ | refine HLes.cons (z1 (zb y6)) rfl rfl rfl (zU (zE _ _)) ?_ | refine HLes.cons (z1 (zb xG)) rfl rfl rfl (zU (zE _ _)) ?_ | refine HLes.cons (z1 (zZ (zb xH))) rfl rfl rfl (zU (zE _ _)) ?_ | refine HLes.cons (z1 (zZ (zb y7))) rfl rfl rfl (zU (zE _ _)) ?_ | refine HLes.cons (z1 (zZ (zb y6))) rfl rfl rfl (zU (zE _ _)) ?_ | refine HLes.cons (z1 (zZ (zb xG))) rfl rfl rfl (zU (zE _ _)) ?_ | refine HLes.cons (z1 (zZ (zZ (zb xH)))) rfl rfl rfl (zU (zE _ _)) ?_ | refine HLes.cons (z1 (zZ (zZ (zb y7)))) rfl rfl rfl (zU (zE _ _)) ?_ | refine HLes.cons (z1 (zZ (zZ (zb y6)))) rfl rfl rfl (zU (zE _ _)) ?_ | refine HLes.cons (z1 (zZ (zZ (zb xG)))) rfl rfl rfl (zU (zE _ _)) ?_ | refine HLes.cons rfl rfl rfl rfl (by repeat' first | exact zk | refine zc ?_ ?_ | exact zo | exact le_refl rfl | exact zm rfl rfl | exact zt rfl | exact zt (congrArg some (by simp [zh] <;> omega)) | exact zm rfl (by simp) | exact zm (congrArg some (by simp [zh] <;> omega)) rfl | exact zm (congrArg some (by simp [zh] <;> omega)) (by simp [yk, endV, yO]) | exact z8 (congrArg _ (by assumption)) | exact z8 (congrArg _ (Eq.symm (by assumption)))) ?_) (fun j i x hi hx => by rw [ix9 hi]; exact v9 (zZ (zZ (yV hx)))) (by repeat' first | exact zk | refine zc ?_ ?_ | exact zo | exact le_refl rfl | exact zm rfl rfl | exact zt rfl | exact zt (congrArg some (by simp [zh] <;> omega)) | exact zm rfl (by simp) | exact zm (congrArg some (by simp [zh] <;> omega)) rfl | exact zm (congrArg some (by simp [zh] <;> omega)) (by simp [yk, endV, yO]) | exact z8 (congrArg _ (by assumption)) | exact z8 (congrArg _ (Eq.symm (by assumption)))))
  · repeat' first | (refine isA ?_; refine za rfl (yR rfl rfl rfl rfl rfl) rfl ?_) | refine zL ?_ | refine zA ?_ | refine zQ [] ?_ | (refine isA ?_; refine zg rfl ?_) | (refine isL ?_; refine zW rfl (by kernel_rfl) rfl rfl ?_) | (refine zd rfl ?_; refine zV rfl (by kernel_rfl) rfl rfl ?_) | (refine yt (x := .tmp 9) ?_; refine za rfl (yL rfl rfl (zb rfl) rfl rfl) rfl ?_) | (refine yr (x := .tmp 9) rfl ?_; refine zT rfl (by kernel_rfl) rfl (yL rfl rfl (zb rfl) rfl rfl) rfl ?_) | (refine xt ?_; refine za rfl (yU (t := rwT) (xs := s.heap) (ys := [r]) rfl rfl rfl rfl (.lst _ _) (by simp; omega) rfl) rfl ?_) | (refine xR rfl ?_; refine zT rfl (by kernel_rfl) rfl (yU (t := rwT) (xs := s.heap) (ys := [r]) rfl rfl rfl rfl (.lst _ _) (by simp; omega) rfl) rfl ?_) | refine zD ?_ | refine zB _ rfl (by kernel_rfl) ?_ | refine zX rfl ?_ | refine zY rfl ?_ | refine zC ?_ | with_reducible refine zO ?_ | refine zI ?_ | refine zJ ?_ | (with_reducible first | refine zM ?_ | refine zN ?_ | refine zF ?_ | refine zH ?_ | refine zG ?_) | refine zP ?_
    have e : uy s r = { s with heap := s.heap ++ [r], pos := s.pos + 1 } := by unfold uy; rw [h]; rfl
    rw [e]
    refine And.intro rfl (wV [0, 1, 2, 3, 4, s.runs.length + 1 + 9, 6, 7, 8] (List.range' 9 s.runs.length) rfl (by simp) (yb (by simp <;> omega) (fun h hh => by simp at hh; omega)) (by repeat' first | exact HLes.nil | refine HLes.cons rfl rfl rfl rfl (zU (zE _ _)) ?_ | refine HLes.cons rfl rfl rfl rfl (z9 rfl) ?_ | refine HLes.cons rfl rfl rfl rfl (xM (fun j hj => xL _ 9 _ j hj)) ?_ | refine HLes.cons (z1 (zb xH)) rfl rfl rfl (zU (zE _ _)) ?_ | refine HLes.cons (z1 (zb y7)) rfl rfl rfl (zU (zE _ _)) ?_ | refine HLes.cons (z1 (zb y6)) rfl rfl rfl (zU (zE _ _)) ?_ | refine HLes.cons (z1 (zb xG)) rfl rfl rfl (zU (zE _ _)) ?_ | refine HLes.cons (z1 (zZ (zb xH))) rfl rfl rfl (zU (zE _ _)) ?_ | refine HLes.cons (z1 (zZ (zb y7))) rfl rfl rfl (zU (zE _ _)) ?_ | refine HLes.cons (z1 (zZ (zb y6))) rfl rfl rfl (zU (zE _ _)) ?_ | refine HLes.cons (z1 (zZ (zb xG))) rfl rfl rfl (zU (zE _ _)) ?_ | refine HLes.cons (z1 (zZ (zZ (zb xH)))) rfl rfl rfl (zU (zE _ _)) ?_ | refine HLes.cons (z1 (zZ (zZ (zb y7)))) rfl rfl rfl (zU (zE _ _)) ?_ | refine HLes.cons (z1 (zZ (zZ (zb y6)))) rfl rfl rfl (zU (zE _ _)) ?_ | refine HLes.cons (z1 (zZ (zZ (zb xG)))) rfl rfl rfl (zU (zE _ _)) ?_ | refine HLes.cons rfl rfl rfl rfl (by repeat' first | exact zk | refine zc ?_ ?_ | exact zo | exact le_refl rfl | exact zm rfl rfl | exact zt rfl | exact zt (congrArg some (by simp [zh] <;> omega)) | exact zm rfl (by simp) | exact zm (congrArg some (by simp [zh] <;> omega)) rfl | exact zm (congrArg some (by simp [zh] <;> omega)) (by simp [yk, endV, yO]) | exact z8 (congrArg _ (by assumption)) | exact z8 (congrArg _ (Eq.symm (by assumption)))) ?_) (fun j i x hi hx => by rw [ix9 hi]; exact v9 (zZ (zZ (yV hx)))) (by repeat' first | exact zk | refine zc ?_ ?_ | exact zo | exact le_refl rfl | exact zm rfl rfl | exact zt rfl | exact zt (congrArg some (by simp [zh] <;> omega)) | exact zm rfl (by simp) | exact zm (congrArg some (by simp [zh] <;> omega)) rfl | exact zm (congrArg some (by simp [zh] <;> omega)) (by simp [yk, endV, yO]) | exact z8 (congrArg _ (by assumption)) | exact z8 (congrArg _ (Eq.symm (by assumption)))))
abbrev T10 (s : So) (g : Int) : St := ⟨(.any :: (I g) :: (.ptr 0 0) :: .any :: (.ptr 1 0) :: .any :: .any :: (.ptr 2 0) :: (.sl 3 0 0) :: .any :: .any :: .any :: .any :: .any :: .any :: .any :: .any :: .any :: .any :: .any :: .any :: .any :: .any :: .any :: .any :: .any :: .any :: .any :: .any :: .any :: .any :: .any :: .any :: .any :: .any :: .any :: .any :: .any :: .any :: .any :: .any :: .any :: (B false) :: .any :: .any :: .any :: .any :: .any :: .any :: .any :: .any :: .any :: .any :: .any :: .any :: .any :: .any :: .any :: .any :: .any :: .any :: .any :: .any :: .any :: .any :: .any :: .any :: .any :: .any :: .any :: .any :: .any :: .any :: .any :: .any :: .any :: .any :: .any :: .any :: .any :: .any :: .any :: .any :: .any :: .any :: .any :: .any :: .any :: .any :: .any :: .any :: .any :: .any :: .any :: .any :: .any :: .any :: .any :: .any :: .any :: .any :: .any :: .any :: .any :: .any :: .any :: .any :: .any :: .any :: .any :: .any :: .any :: .any :: .any :: .any :: .any :: .any :: .any :: .any :: .any :: .any :: .any :: .any :: .any :: .any :: .any :: .any :: .any :: .any :: .any :: .any :: .any :: .any :: .any :: .any :: .any :: .any :: .any :: .any :: .any :: .any :: .any :: .any :: .any :: .any :: .any :: .any :: .any :: .any :: .any :: .any :: .any :: .any :: .any :: .any :: .any :: .any :: .any :: .any :: .any :: .any :: .any :: .any :: .any :: .any :: .any :: .any :: .any :: .any :: .any :: .any :: .any :: .any :: .any :: .any :: .any :: .any :: .any :: .any :: .any :: .any :: .any :: .any :: .any :: .any :: .any :: .any :: .any :: .any :: .any :: .any :: .any :: .any :: .any :: .any :: .any :: .any :: .any :: .any :: .any :: .any :: .any :: .any :: .any :: .any :: .any :: .any :: .any :: .any :: .any :: .any :: .any :: .any :: .any :: .any :: .any :: .any :: .any :: .any :: .any :: .any :: .any :: .any :: .any :: .any :: .any :: .any :: .any :: .any :: .any :: .any :: .any :: .any :: .any :: .any :: .any :: .any :: .any :: .any :: .any :: .any :: .any :: .any :: .any :: .any :: .any :: .any :: .any :: .any :: []), stH s s [], 0⟩
noncomputable def reg10 : Code := match uk with
  | .seq _ (.block _ (.seq _ (.cond _ (.block _ (.seq r _)) _))) => r
  | _ => .skip
theorem sC (s : So) (g : Int) (hok : okSo s) (hb : VBa s) (hm : xJ s ≤ 60) (hf : tP s g) : AW Go.Proofs.Try.prog reg10 (fun e S' => e = .normal ∧ Sub (T10 s g) S') ⟨(.any :: (I g) :: (.ptr 0 0) :: .any :: (.ptr 1 0) :: .any :: .any :: (.ptr 2 0) :: (.sl 3 0 0) :: .any :: .any :: .any :: .any :: .any :: .any :: .any :: .any :: .any :: .any :: .any :: .any :: .any :: .any :: .any :: .any :: .any :: .any :: .any :: .any :: .any :: .any :: .any :: (.ptr 2 8) :: (I s.ph) :: (B (decide (s.ph = 1))) :: (B (decide (s.ph = 1))) :: .any :: .any :: .any :: .any :: .any :: .any :: .any :: .any :: .any :: .any :: .any :: .any :: .any :: .any :: .any :: .any :: .any :: .any :: .any :: .any :: .any :: .any :: .any :: .any :: .any :: .any :: .any :: .any :: .any :: .any :: .any :: .any :: .any :: .any :: .any :: .any :: .any :: .any :: .any :: .any :: .any :: .any :: .any :: .any :: .any :: .any :: .any :: .any :: .any :: .any :: .any :: .any :: .any :: .any :: .any :: .any :: .any :: .any :: .any :: .any :: .any :: .any :: .any :: .any :: .any :: .any :: .any :: .any :: .any :: .any :: .any :: .any :: .any :: .any :: .any :: .any :: .any :: .any :: .any :: .any :: .any :: .any :: .any :: .any :: .any :: .any :: .any :: .any :: .any :: .any :: .any :: .any :: .any :: .any :: .any :: .any :: .any :: .any :: .any :: .any :: .any :: .any :: .any :: .any :: .any :: .any :: .any :: .any :: .any :: .any :: .any :: .any :: .any :: .any :: .any :: .any :: .any :: .any :: .any :: .any :: .any :: .any :: .any :: .any :: .any :: .any :: .any :: .any :: .any :: .any :: .any :: .any :: .any :: .any :: .any :: .any :: .any :: .any :: .any :: .any :: .any :: .any :: .any :: .any :: .any :: .any :: .any :: .any :: .any :: .any :: .any :: .any :: .any :: .any :: .any :: .any :: .any :: .any :: .any :: .any :: .any :: .any :: .any :: .any :: .any :: .any :: .any :: .any :: .any :: .any :: .any :: .any :: .any :: .any :: .any :: .any :: .any :: .any :: .any :: .any :: .any :: .any :: .any :: .any :: .any :: .any :: .any :: .any :: .any :: .any :: .any :: .any :: .any :: .any :: .any :: .any :: .any :: .any :: .any :: .any :: .any :: .any :: .any :: .any :: .any :: .any :: .any :: .any :: .any :: .any :: .any :: .any :: .any :: []), stH s s [], 0⟩ := by
  obtain ⟨p, hpp, hple⟩ := hb.pos
  have e1 : s.pos.toNat = p := by omega
  have g3 := hok.input
  have am := qx s hok
  repeat' first | refine zL ?_ | refine zA ?_ | refine zQ [] ?_ | (refine isA ?_; refine zg rfl ?_) | (refine isL ?_; refine zW rfl (by kernel_rfl) rfl rfl ?_) | (refine zd rfl ?_; refine zV rfl (by kernel_rfl) rfl rfl ?_) | refine zD ?_ | refine zB _ rfl (by kernel_rfl) ?_ | refine zX rfl ?_ | refine zY rfl ?_ | refine zC ?_ | with_reducible refine zO ?_ | refine zI ?_ | refine zJ ?_ | (with_reducible first | refine zM ?_ | refine zN ?_ | refine zF ?_ | refine zH ?_ | refine zG ?_) | refine zP ?_
  refine yG rfl rfl rfl rfl (fun h => ?_) (fun h => ?_)
  · have hlt : p < s.input.length := by have := of_decide_eq_true h; omega
    obtain ⟨z, hz⟩ : ∃ z, s.input[p]? = some z := ⟨_, List.getElem?_eq_getElem hlt⟩
    have hfz := hf z (by rw [e1]; exact hz)
    have hd : decide (IntKind.i64.wrap (xJ s + xB z) ≤ g) = false := by rw [qk hm]; exact decide_eq_false (by omega)
    repeat' first | refine zL ?_ | refine zA ?_ | refine zQ [] ?_ | (refine isA ?_; refine zg rfl ?_) | (refine isL ?_; refine zW rfl (by kernel_rfl) rfl rfl ?_) | (refine zd rfl ?_; refine zV rfl (by kernel_rfl) rfl rfl ?_) | (refine zp 19 ?_; refine za rfl (zK rfl am (.cons (wx rfl rfl rfl rfl rfl fun j x hx => v9 (yV hx)) .nil) rfl) rfl ?_) | (refine zq 19 rfl ?_; refine zT rfl (by kernel_rfl) rfl (zK rfl am (.cons (wx rfl rfl rfl rfl rfl fun j x hx => v9 (yV hx)) .nil) rfl) rfl ?_) | (refine z7 (x := .tmp 53) ?_; refine za rfl (zn (j := s.pos) rfl rfl rfl (Nat.zero_le _) rfl rfl (by omega) (by omega)) rfl ?_) | (refine z6 (x := .tmp 53) rfl ?_; refine zT rfl (by kernel_rfl) rfl (zn (j := s.pos) rfl rfl rfl (Nat.zero_le _) rfl rfl (by omega) (by omega)) rfl ?_) | (refine yt (x := .tmp 56) ?_; refine za rfl (yx (T := rwT) (i := 0 + s.pos.toNat) (z := z) rfl rfl rfl (by rw [Nat.zero_add, e1]; exact hz)) rfl ?_) | (refine yr (x := .tmp 56) rfl ?_; refine zT rfl (by kernel_rfl) rfl (yx (T := rwT) (i := 0 + s.pos.toNat) (z := z) rfl rfl rfl (by rw [Nat.zero_add, e1]; exact hz)) rfl ?_) | (refine zp 58 ?_; refine za rfl (zK rfl (w4 z) (.cons (.same rfl) .nil) rfl) rfl ?_) | (refine zq 58 rfl ?_; refine zT rfl (by kernel_rfl) rfl (zK rfl (w4 z) (.cons (.same rfl) .nil) rfl) rfl ?_) | refine zD ?_ | refine zB _ rfl (by kernel_rfl) ?_ | refine zX rfl ?_ | refine zY rfl ?_ | refine zC ?_ | with_reducible refine zO ?_ | refine zI ?_ | refine zJ ?_ | (with_reducible first | refine zM ?_ | refine zN ?_ | refine zF ?_ | refine zH ?_ | refine zG ?_) | refine zP ?_
    exact ⟨rfl, wV [0, 1, 2, 3, 4, 5, 6, 7, 8] (List.range' 9 s.runs.length) rfl (by simp) (yb (by simp <;> omega) (fun h hh => by simp at hh; omega)) (by repeat' first | exact HLes.nil | refine HLes.cons rfl rfl rfl rfl (zU (zE _ _)) ?_ | refine HLes.cons rfl rfl rfl rfl (z9 rfl) ?_ | refine HLes.cons rfl rfl rfl rfl (xM (fun j hj => xL _ 9 _ j hj)) ?_ | refine HLes.cons (z1 (zb xH)) rfl rfl rfl (zU (zE _ _)) ?_ | refine HLes.cons (z1 (zb y7)) rfl rfl rfl (zU (zE _ _)) ?_ | refine HLes.cons (z1 (zb y6)) rfl rfl rfl (zU (zE _ _)) ?_ | refine HLes.cons (z1 (zb xG)) rfl rfl rfl (zU (zE _ _)) ?_ | refine HLes.cons (z1 (zZ (zb xH))) rfl rfl rfl (zU (zE _ _)) ?_ | refine HLes.cons (z1 (zZ (zb y7))) rfl rfl rfl (zU (zE _ _)) ?_ | refine HLes.cons (z1 (zZ (zb y6))) rfl rfl rfl (zU (zE _ _)) ?_ | refine HLes.cons (z1 (zZ (zb xG))) rfl rfl rfl (zU (zE _ _)) ?_ | refine HLes.cons (z1 (zZ (zZ (zb xH)))) rfl rfl rfl (zU (zE _ _)) ?_ | refine HLes.cons (z1 (zZ (zZ (zb y7)))) rfl rfl rfl (zU (zE _ _)) ?_ | refine HLes.cons (z1 (zZ (zZ (zb y6)))) rfl rfl rfl (zU (zE _ _)) ?_ | refine HLes.cons (z1 (zZ (zZ (zb xG)))) rfl rfl rfl (zU (zE _ _)) ?_ | refine HLes.cons rfl rfl rfl rfl (by repeat' first | exact zk | refine zc ?_ ?_ | exact zo | exact le_refl rfl | exact zm rfl rfl | exact zt rfl | exact zt (congrArg some (by simp [zh] <;> omega)) | exact zm rfl (by simp) | exact zm (congrArg some (by simp [zh] <;> omega)) rfl | exact zm (congrArg some (by simp [zh] <;> omega)) (by simp [yk, endV, yO]) | exact z8 (congrArg _ (by assumption)) | exact z8 (congrArg _ (Eq.symm (by assumption)))) ?_) (fun j i x hi hx => by rw [ix9 hi]; exact v9 (yV hx)) (by repeat' first | exact zk | refine zc ?_ ?_ | exact zo | exact le_refl rfl | exact zm rfl rfl | exact zt rfl | exact zt (congrArg some (by simp [zh] <;> omega)) | exact zm rfl (by simp) | exact zm (congrArg some (by simp [zh] <;> omega)) rfl | exact zm (congrArg some (by simp [zh] <;> omega)) (by simp [yk, endV, yO]) | exact z8 (congrArg _ (by assumption)) | exact z8 (congrArg _ (Eq.symm (by assumption))))⟩
  · repeat' first | refine zL ?_ | refine zA ?_ | refine zQ [] ?_ | (refine isA ?_; refine zg rfl ?_) | (refine isL ?_; refine zW rfl (by kernel_rfl) rfl rfl ?_) | (refine zd rfl ?_; refine zV rfl (by kernel_rfl) rfl rfl ?_) | refine zD ?_ | refine zB _ rfl (by kernel_rfl) ?_ | refine zX rfl ?_ | refine zY rfl ?_ | refine zC ?_ | with_reducible refine zO ?_ | refine zI ?_ | refine zJ ?_ | (with_reducible first | refine zM ?_ | refine zN ?_ | refine zF ?_ | refine zH ?_ | refine zG ?_) | refine zP ?_
    exact ⟨rfl, wV [0, 1, 2, 3, 4, 5, 6, 7, 8] (List.range' 9 s.runs.length) rfl (by simp) (yb (by simp <;> omega) (fun h hh => by simp at hh; omega)) (by repeat' first | exact HLes.nil | refine HLes.cons rfl rfl rfl rfl (zU (zE _ _)) ?_ | refine HLes.cons rfl rfl rfl rfl (z9 rfl) ?_ | refine HLes.cons rfl rfl rfl rfl (xM (fun j hj => xL _ 9 _ j hj)) ?_ | refine HLes.cons (z1 (zb xH)) rfl rfl rfl (zU (zE _ _)) ?_ | refine HLes.cons (z1 (zb y7)) rfl rfl rfl (zU (zE _ _)) ?_ | refine HLes.cons (z1 (zb y6)) rfl rfl rfl (zU (zE _ _)) ?_ | refine HLes.cons (z1 (zb xG)) rfl rfl rfl (zU (zE _ _)) ?_ | refine HLes.cons (z1 (zZ (zb xH))) rfl rfl rfl (zU (zE _ _)) ?_ | refine HLes.cons (z1 (zZ (zb y7))) rfl rfl rfl (zU (zE _ _)) ?_ | refine HLes.cons (z1 (zZ (zb y6))) rfl rfl rfl (zU (zE _ _)) ?_ | refine HLes.cons (z1 (zZ (zb xG))) rfl rfl rfl (zU (zE _ _)) ?_ | refine HLes.cons (z1 (zZ (zZ (zb xH)))) rfl rfl rfl (zU (zE _ _)) ?_ | refine HLes.cons (z1 (zZ (zZ (zb y7)))) rfl rfl rfl (zU (zE _ _)) ?_ | refine HLes.cons (z1 (zZ (zZ (zb y6)))) rfl rfl rfl (zU (zE _ _)) ?_ | refine HLes.cons (z1 (zZ (zZ (zb xG)))) rfl rfl rfl (zU (zE _ _)) ?_ | refine HLes.cons rfl rfl rfl rfl (by repeat' first | exact zk | refine zc ?_ ?_ | exact zo | exact le_refl rfl | exact zm rfl rfl | exact zt rfl | exact zt (congrArg some (by simp [zh] <;> omega)) | exact zm rfl (by simp) | exact zm (congrArg some (by simp [zh] <;> omega)) rfl | exact zm (congrArg some (by simp [zh] <;> omega)) (by simp [yk, endV, yO]) | exact z8 (congrArg _ (by assumption)) | exact z8 (congrArg _ (Eq.symm (by assumption)))) ?_) (fun j i x hi hx => by rw [ix9 hi]; exact v9 (yV hx)) (by repeat' first | exact zk | refine zc ?_ ?_ | exact zo | exact le_refl rfl | exact zm rfl rfl | exact zt rfl | exact zt (congrArg some (by simp [zh] <;> omega)) | exact zm rfl (by simp) | exact zm (congrArg some (by simp [zh] <;> omega)) rfl | exact zm (congrArg some (by simp [zh] <;> omega)) (by simp [yk, endV, yO]) | exact z8 (congrArg _ (by assumption)) | exact z8 (congrArg _ (Eq.symm (by assumption))))⟩
theorem c_pop (s : So) (g : Int) (k : Nat) (r : Rw) (hok : okSo s) (hb : VBa s) (hm : xJ s ≤ 60) (hp : s.ph = 1) (hf : tP s g) (hh : 0 < s.heap.length) (hk : nm s.heap = (k : Nat)) (hr : s.heap[k]? = some r) : AW Go.Proofs.Try.prog uk (stQ s (kd s k r) g []) (stT s s g []) := by
  obtain ⟨p, hpp, hple⟩ := hb.pos
  have e1 : s.pos.toNat = p := by omega
  have hlt := (List.getElem?_eq_some_iff.1 hr).1
  have g1 := hok.heap
  have g2 := hok.dfr
  have g3 := hok.input
  have g4 := hok.out
  have am := qx s hok
  have ai := dP s.heap (by omega)
  rw [hk] at ai
  repeat' first | (refine zj rfl (fun _ => ?_) (fun h => absurd hp (of_decide_eq_false h))) | (refine xK 10 (T10 s g) (y3 ?_) ?_) | (refine yW rfl rfl (fun h => absurd (of_decide_eq_true h) (by omega)) (fun _ => ?_)) | (refine zj rfl (fun _ => ?_) (fun h => absurd (of_decide_eq_false h) (by omega))) | (refine isA ?_; refine za rfl (yR rfl rfl rfl rfl rfl) rfl ?_) | refine zL ?_ | refine zA ?_ | refine zQ [6] ?_ | (refine isA ?_; refine zg rfl ?_) | (refine isL ?_; refine zW rfl (by kernel_rfl) rfl rfl ?_) | (refine zd rfl ?_; refine zV rfl (by kernel_rfl) rfl rfl ?_) | (refine zp 61 ?_; refine za rfl (zK rfl ai (.cons (zy rfl) .nil) rfl) rfl ?_) | (refine zq 61 rfl ?_; refine zT rfl (by kernel_rfl) rfl (zK rfl ai (.cons (zy rfl) .nil) rfl) rfl ?_) | (refine z7 (x := .tmp 114) ?_; refine za rfl (zn (j := (k : Int)) rfl rfl rfl (Nat.zero_le _) rfl rfl (Int.natCast_nonneg _) (by omega)) rfl ?_) | (refine z6 (x := .tmp 114) rfl ?_; refine zT rfl (by kernel_rfl) rfl (zn (j := (k : Int)) rfl rfl rfl (Nat.zero_le _) rfl rfl (Int.natCast_nonneg _) (by omega)) rfl ?_) | (refine yt (x := .tmp 116) ?_; refine za rfl (yx (T := rwT) (i := 0 + k) (z := r) rfl rfl rfl (by rw [Nat.zero_add]; exact hr)) rfl ?_) | (refine yr (x := .tmp 116) rfl ?_; refine zT rfl (by kernel_rfl) rfl (yx (T := rwT) (i := 0 + k) (z := r) rfl rfl rfl (by rw [Nat.zero_add]; exact hr)) rfl ?_) | (refine vK (x := .tmp 11) ?_; refine za rfl (xh rfl rfl rfl rfl rfl (wh r) rfl rfl) rfl ?_) | (refine vJ (x := .tmp 11) rfl ?_; refine zT rfl (by kernel_rfl) rfl (xh rfl rfl rfl rfl rfl (wh r) rfl rfl) rfl ?_) | (refine zp 62 ?_; refine za rfl (yI rfl (mw s.heap k hlt (by omega)) (.cons (zy rfl) (.cons (.same rfl) .nil)) (fun q hq => by simp at hq; subst hq; exact zE _ _) rfl rfl) rfl ?_) | (refine zq 62 rfl ?_; refine zT rfl (by kernel_rfl) rfl (yI rfl (mw s.heap k hlt (by omega)) (.cons (zy rfl) (.cons (.same rfl) .nil)) (fun q hq => by simp at hq; subst hq; exact zE _ _) rfl rfl) rfl ?_) | (refine yt (x := .tmp 11) ?_; refine za rfl (yL rfl rfl (z1 (j := (nR rwT 78 s.runs).length) (zZ (zb rfl))) rfl rfl) rfl ?_) | (refine yr (x := .tmp 11) rfl ?_; refine zT rfl (by kernel_rfl) rfl (yL rfl rfl (z1 (j := (nR rwT 78 s.runs).length) (zZ (zb rfl))) rfl rfl) rfl ?_) | (refine yt (x := .tmp 11) ?_; refine za rfl (yL rfl rfl (z1 (j := (nR rwT 78 s.runs).length) (zZ (zZ (zb rfl)))) rfl rfl) rfl ?_) | (refine yr (x := .tmp 11) rfl ?_; refine zT rfl (by kernel_rfl) rfl (yL rfl rfl (z1 (j := (nR rwT 78 s.runs).length) (zZ (zZ (zb rfl)))) rfl rfl) rfl ?_) | (refine xt ?_; refine za rfl (yU (t := rwT) (xs := s.out) (ys := [r]) rfl rfl rfl rfl (.lst _ _) (by simp; omega) rfl) rfl ?_) | (refine xR rfl ?_; refine zT rfl (by kernel_rfl) rfl (yU (t := rwT) (xs := s.out) (ys := [r]) rfl rfl rfl rfl (.lst _ _) (by simp; omega) rfl) rfl ?_) | (refine zp 58 ?_; refine za rfl (zK rfl (w4 r) (.cons (.same rfl) .nil) rfl) rfl ?_) | (refine zq 58 rfl ?_; refine zT rfl (by kernel_rfl) rfl (zK rfl (w4 r) (.cons (.same rfl) .nil) rfl) rfl ?_) | (refine isL ?_; refine vQ rfl (by kernel_rfl) rfl rfl ?_) | refine zD ?_ | refine zB _ rfl (by kernel_rfl) ?_ | refine zX rfl ?_ | refine zY rfl ?_ | refine zC ?_ | with_reducible refine zO ?_ | refine zI ?_ | refine zJ ?_ | (with_reducible first | refine zM ?_ | refine zN ?_ | refine zF ?_ | refine zH ?_ | refine zG ?_) | refine zP ?_
  · exact xY (sC s g hok hb hm hf)
  · refine And.intro rfl (wV [0, 1, 2, 3, 4, s.runs.length + 1 + 9, 6, s.runs.length + 2 + 9, 8] (List.range' 9 s.runs.length) rfl (by simp [kd]) (yb (by simp <;> omega) (fun h hh => by simp at hh; omega)) (by repeat' first | exact HLes.nil | refine HLes.cons rfl rfl rfl rfl (zU (zE _ _)) ?_ | refine HLes.cons rfl rfl rfl rfl (z9 rfl) ?_ | refine HLes.cons rfl rfl rfl rfl (xM (fun j hj => xL _ 9 _ j hj)) ?_ | refine HLes.cons (z1 (zb xH)) rfl rfl rfl (zU (zE _ _)) ?_ | refine HLes.cons (z1 (zb y7)) rfl rfl rfl (zU (zE _ _)) ?_ | refine HLes.cons (z1 (zb y6)) rfl rfl rfl (zU (zE _ _)) ?_ | refine HLes.cons (z1 (zb xG)) rfl rfl rfl (zU (zE _ _)) ?_ | refine HLes.cons (z1 (zZ (zb xH))) rfl rfl rfl (zU (zE _ _)) ?_ | refine HLes.cons (z1 (zZ (zb y7))) rfl rfl rfl (zU (zE _ _)) ?_ | refine HLes.cons (z1 (zZ (zb y6))) rfl rfl rfl (zU (zE _ _)) ?_ | refine HLes.cons (z1 (zZ (zb xG))) rfl rfl rfl (zU (zE _ _)) ?_ | refine HLes.cons (z1 (zZ (zZ (zb xH)))) rfl rfl rfl (zU (zE _ _)) ?_ | refine HLes.cons (z1 (zZ (zZ (zb y7)))) rfl rfl rfl (zU (zE _ _)) ?_ | refine HLes.cons (z1 (zZ (zZ (zb y6)))) rfl rfl rfl (zU (zE _ _)) ?_ | refine HLes.cons (z1 (zZ (zZ (zb xG)))) rfl rfl rfl (zU (zE _ _)) ?_ | refine HLes.cons rfl rfl rfl rfl (by repeat' first | exact zk | refine zc ?_ ?_ | exact zo | exact le_refl rfl | exact zm rfl rfl | exact zt rfl | exact zt (congrArg some (by simp [zh] <;> omega)) | exact zm rfl (by simp) | exact zm (congrArg some (by simp [zh] <;> omega)) rfl | exact zm (congrArg some (by simp [zh] <;> omega)) (by simp [yk, endV, yO]) | exact z8 (congrArg _ (by assumption)) | exact z8 (congrArg _ (Eq.symm (by assumption)))) ?_) (fun j i x hi hx => by rw [ix9 hi]; exact v9 (zZ (zZ (zZ (yV hx))))) (by repeat' first | exact zk | refine zc ?_ ?_ | exact zo | exact le_refl rfl | exact zm rfl rfl | exact zt rfl | exact zt (congrArg some (by simp [zh] <;> omega)) | exact zm rfl (by simp) | exact zm (congrArg some (by simp [zh] <;> omega)) rfl | exact zm (congrArg some (by simp [zh] <;> omega)) (by simp [yk, endV, yO]) | exact z8 (congrArg _ (by assumption)) | exact z8 (congrArg _ (Eq.symm (by assumption)))))
end Go.Proofs.Ytojcojanokhnaaa.Ab
namespace Go.Proofs.Ytojcojanokhnaaa.Ab
open Go.RowKit
theorem ap_c {o : Oper} {ρ : Operand → V} {H : List Reg} {h hz : Nat} {v : V} {s x : Operand} {cells : List V} (ho : o.op = .call { callee := .builtin .append, args := #[s, x], argTypes := #[25, 25] })
    (hs : ρ s = .sl h 0 cells.length) (hH : H[h]? = some ⟨84, 1, cells, 0⟩) (hx : ρ x = .sl hz 0 1) (hzz : H[hz]? = some ⟨84, 1, [v], 0⟩) (hv : vk v = true) (hl : cells.length ≤ 100000000) :
    z4 Go.Proofs.Try.prog o ρ H (.sl H.length 0 (cells.length + 1)) (H.set h ⟨84, 1, cells, 2⟩ ++ [⟨84, 1, cells ++ [v], 0⟩]) := by
  have hsrc : Src H (ρ x) 1 [v] := by
    rw [hx]
    exact Src.sl (H := H) (off := 0) (m := 1) (r := ⟨84, 1, [v], 0⟩) hzz (Nat.zero_le _) (Nat.le_refl _)
  have := vL (P := Go.Proofs.Try.prog) (ρ := ρ) (ty := 25) (m := 1) ho hs hH rfl rfl rfl (by show cells.length * 1 ≤ cells.length; omega) hsrc rfl (fun c hc => by simp at hc; subst hc; exact hv) (by omega) (by simp only [maxLen]; omega)
  have e1 : (⟨84, 1, cells, 0⟩ : Reg).cells.take (cells.length * 1) = cells := by
    show cells.take _ = _
    rw [List.take_of_length_le (by omega)]
  rw [e1] at this
  exact this
theorem nN (a0 a1 a3 a4 a5 a6 : Reg) (c0 c1 c2 c3 c6 c7 c8 c9 : V) (out : List Rw) (cells : List V) (n : Nat) (hn : cells.length = n) (L : List Reg) (hl : n ≤ 100000000) :
    zx Go.Proofs.Try.prog 60 [.ptr 2 0] (a0 :: a1 :: bxS [c0, c1, c2, c3, .sl 7 0 out.length, .sl 8 0 n, c6, c7, c8, c9] :: a3 :: a4 :: a5 :: a6 :: rwR out :: ⟨84, 1, cells, 0⟩ :: L) (.tup [])
      (a0 :: a1 :: bxS [c0, c1, c2, c3, xx, .sl ((L ++ [(⟨84, 1, [.sl 7 0 out.length], 0⟩ : Reg)]).length + 9) 0 (n + 1), c6, c7, c8, c9] :: a3 :: a4 :: a5 :: a6 :: rwR out :: ⟨84, 1, cells, 2⟩ :: (L ++ [⟨84, 1, [.sl 7 0 out.length], 0⟩] ++ [⟨84, 1, cells ++ [.sl 7 0 out.length], 0⟩])) true := by
  subst hn
  refine zu [] Go.Proofs.Try.func60 rfl rfl ?_
  simp only [Go.Proofs.Try.ntmps60, List.length_cons, List.length_nil, Nat.reduceAdd, Nat.reduceSub, List.replicate_succ, List.replicate_zero, List.cons_append, List.nil_append]
  repeat' first | refine zL ?_ | refine zA ?_ | (refine isA ?_; refine zg rfl ?_) | (refine isL ?_; refine zW rfl (by kernel_rfl) rfl rfl ?_) | (refine zd rfl ?_; refine zV rfl (by kernel_rfl) rfl rfl ?_) | refine zD ?_ | refine zB _ rfl (by kernel_rfl) ?_ | refine zX rfl ?_ | refine zY rfl ?_ | refine zC ?_ | with_reducible refine zO ?_ | refine zI ?_ | refine zJ ?_ | (with_reducible first | refine zM ?_ | refine zN ?_ | refine zF ?_ | refine zH ?_ | refine zG ?_) | refine zP ?_
  refine sG 14 (fun H => H[2]? = some (bxS [c0, c1, c2, c3, .sl 7 0 out.length, .sl 8 0 cells.length, c6, c7, c8, c9])) 15 rfl ?_
  refine yc 0 (Or.inr rfl) rfl rfl (by kernel_rfl) rfl (fun _ => rfl) rfl ?_
  refine yc 1 (Or.inr rfl) rfl rfl (by kernel_rfl) rfl (fun _ => rfl) rfl ?_
  refine yc 2 (Or.inr rfl) rfl rfl (by kernel_rfl) rfl (fun _ => rfl) rfl ?_
  refine yc 3 (Or.inr rfl) rfl rfl (by kernel_rfl) rfl (fun _ => rfl) rfl ?_
  refine vi 4 rfl (by kernel_rfl) rfl (by kernel_rfl) rfl (fun _ hG => xE rfl rfl hG rfl rfl) rfl ?_
  refine yc 5 (Or.inr rfl) rfl rfl (by kernel_rfl) rfl (fun _ => rfl) rfl ?_
  refine yc 6 (Or.inr rfl) rfl rfl (by kernel_rfl) rfl (fun _ => rfl) rfl ?_
  refine yc 7 (Or.inr rfl) rfl rfl (by kernel_rfl) rfl (fun _ => rfl) rfl ?_
  refine vi 8 rfl (by kernel_rfl) rfl (by kernel_rfl) rfl (fun _ hG => xE rfl rfl hG rfl rfl) rfl ?_
  refine yc 9 (Or.inr rfl) rfl rfl (by kernel_rfl) rfl (fun _ => rfl) rfl ?_
  refine wQ 10 (by kernel_rfl) rfl rfl rfl (Or.inr rfl) rfl ?_
  refine uf 11 (by kernel_rfl) rfl rfl (ap_c rfl rfl rfl rfl (zb rfl) rfl hl) (Or.inr rfl) rfl ?_
  refine yc 12 (Or.inr rfl) rfl rfl (by kernel_rfl) rfl (fun _ => rfl) rfl ?_
  refine yc 13 (Or.inr rfl) rfl rfl (by kernel_rfl) rfl (fun _ => rfl) rfl ?_
  refine wQ 14 (by kernel_rfl) rfl rfl rfl (Or.inl (by kernel_rfl)) rfl ?_
  refine uK (by kernel_rfl) ?_
  repeat' first | refine zL ?_ | refine zA ?_ | refine zQ [] ?_ | (refine isA ?_; refine zg rfl ?_) | (refine isL ?_; refine zW rfl (by kernel_rfl) rfl rfl ?_) | (refine zd rfl ?_; refine zV rfl (by kernel_rfl) rfl rfl ?_) | refine zD ?_ | refine zB _ rfl (by kernel_rfl) ?_ | refine zX rfl ?_ | refine zY rfl ?_ | refine zC ?_ | with_reducible refine zO ?_ | refine zI ?_ | refine zJ ?_ | (with_reducible first | refine zM ?_ | refine zN ?_ | refine zF ?_ | refine zH ?_ | refine zG ?_) | refine zP ?_
  exact eG (Or.inr rfl) rfl
theorem sk (a0 a1 : Reg) (c0 c1 c2 c3 c4 c6 c7 c8 c9 : V) (h5 o5 n5 : Nat) (L : List Reg) :
    zx Go.Proofs.Try.prog 63 [.ptr 2 0] (a0 :: a1 :: bxS [c0, c1, c2, c3, c4, .sl h5 o5 n5, c6, c7, c8, c9] :: L) (.tup [])
      (a0 :: a1 :: bxS [c0, c1, c2, c3, c4, .sl h5 o5 n5, I 0, I 0, I (cond (decide (n5 = 0)) 4 (cond (decide (n5 = 1)) 3 2)), c9] :: L) true := by
  have e0 : decide (n5 = 0) = decide ((n5 : Int) = 0) := decide_eq_decide.2 (by omega)
  have e1 : decide (n5 = 1) = decide ((n5 : Int) = 1) := decide_eq_decide.2 (by omega)
  rw [e0, e1]
  refine zu [] Go.Proofs.Try.func63 rfl rfl ?_
  simp only [Go.Proofs.Try.ntmps63, List.length_cons, List.length_nil, Nat.reduceAdd, Nat.reduceSub, List.replicate_succ, List.replicate_zero, List.cons_append, List.nil_append]
  repeat' first | refine zL ?_ | refine zA ?_ | refine zQ [] ?_ | (refine isA ?_; refine zg rfl ?_) | (refine isL ?_; refine zW rfl (by kernel_rfl) rfl rfl ?_) | (refine zd rfl ?_; refine zV rfl (by kernel_rfl) rfl rfl ?_) | refine zD ?_ | refine zB _ rfl (by kernel_rfl) ?_ | refine zX rfl ?_ | refine zY rfl ?_ | refine zC ?_ | with_reducible refine zO ?_ | refine zI ?_ | refine zJ ?_ | (with_reducible first | refine zM ?_ | refine zN ?_ | refine zF ?_ | refine zH ?_ | refine zG ?_) | refine zP ?_ | refine zj rfl (fun hbr => ?_) (fun hbr => ?_)
  all_goals (refine eG (Or.inr rfl) ?_; simp only [*, cond_true, cond_false])
end Go.Proofs.Ytojcojanokhnaaa.Ab
namespace Go.Proofs.Ytojcojanokhnaaa.Ab
open Go.RowKit
theorem pk {ψ hs : List Nat} {rs : List Rn} {z : Rn} {k : Nat} (hψ : ψ = hs ++ (List.range' 9 rs.length ++ [k])) (h9 : hs.length = 9) : Les ψ (nC 9 (rs ++ [z])) (nC 9 rs ++ [.sl k 0 z.length]) := by
  have e : nC 9 rs ++ [.sl k 0 z.length] = nX (List.range' 9 rs.length ++ [k]) (rs ++ [z]) := by
    rw [kg (by simp), kj]; rfl
  rw [e]
  refine nq (by simp) fun j hj => ?_
  rw [hψ, ← h9, kc]
theorem s9 {H : List Reg} {rs : List Rn} {z : Rn} {k : Nat} (hR : ∀ j x, rs[j]? = some x → H[9 + j]? = some (rwR x)) (hz : H[k]? = some (rwR z)) : ∀ (j i : Nat) (x : Rn), (List.range' 9 rs.length ++ [k])[j]? = some i → (rs ++ [z])[j]? = some x → H[i]? = some (rwR x) := fun j i x hi hx => by
  rcases Nat.lt_or_ge j rs.length with h | h
  · rw [List.getElem?_append_left (by simpa using h)] at hi
    rw [List.getElem?_append_left h] at hx
    rw [ix9 hi]
    exact hR j x hx
  · rw [List.getElem?_append_right h] at hx
    rw [List.getElem?_append_right (by simpa using h), List.length_range'] at hi
    cases hj : j - rs.length with
    | zero =>
      rw [hj] at hi hx
      cases hi
      cases hx
      exact hz
    | succ q =>
      rw [hj] at hx
      simp at hx
theorem sb {hs : List Nat} {n k : Nat} (h1 : (k :: hs).Nodup) (h2 : ∀ h ∈ k :: hs, h < 9 ∨ 9 + n ≤ h) : (hs ++ (List.range' 9 n ++ [k])).Nodup := by
  rw [List.nodup_cons] at h1
  rw [List.nodup_append]
  refine ⟨h1.2, ?_, fun x hx y hy => ?_⟩
  · rw [List.nodup_append]
    refine ⟨List.nodup_range', by simp, fun x hx y hy => ?_⟩
    rw [List.mem_range'_1] at hx
    simp at hy
    have := h2 k (by simp)
    omega
  · rw [List.mem_append, List.mem_range'_1, List.mem_singleton] at hy
    have := h2 x (by simp [hx])
    rcases hy with hy | hy
    · omega
    · rintro rfl
      subst hy
      exact h1.1 hx
theorem dH (s : So) (g : Int) (hok : okSo s) (hb : VBa s) (hm : xJ s ≤ 60) (hp : s.ph = 1) (hf : tP s g) (hh : s.heap = []) (hd : 0 < s.dfr.length) : AW Go.Proofs.Try.prog uk (stQ s (yk s) g []) (stT s s g []) := by
  have g2 := hok.dfr
  have g4 := hok.out
  have g5 := hok.runs
  have hh0 : s.heap.length = 0 := by rw [hh]; rfl
  have ae := nN (bxS (soE s)) (bxS zS) (rwR []) (rwR s.input) (rwR s.heap) (rwR s.dfr) (.sl 4 0 s.input.length) (I s.pos) (.sl 5 0 s.heap.length) (.sl 6 0 s.dfr.length) (I s.lp) (I s.rp) (I s.ph) (I s.wr) s.out (nC 9 s.runs) s.runs.length (xN _ _) (nR rwT 78 s.runs) (by omega)
  repeat' first | (refine zj rfl (fun _ => ?_) (fun h => absurd hp (of_decide_eq_false h))) | (refine xK 10 (T10 s g) (y3 ?_) ?_) | (refine yW rfl rfl (fun _ => ?_) (fun h => absurd (of_decide_eq_false h) (by omega))) | (refine zj rfl (fun _ => ?_) (fun h => absurd (of_decide_eq_false h) (by omega))) | refine zL ?_ | refine zA ?_ | refine zQ [] ?_ | (refine isA ?_; refine zg rfl ?_) | (refine isL ?_; refine zW rfl (by kernel_rfl) rfl rfl ?_) | (refine zd rfl ?_; refine zV rfl (by kernel_rfl) rfl rfl ?_) | (refine zp 60 ?_; refine za rfl (yN rfl ae rfl) rfl ?_) | (refine zq 60 rfl ?_; refine zT rfl (by kernel_rfl) rfl (yN rfl ae rfl) rfl ?_) | refine zD ?_ | refine zB _ rfl (by kernel_rfl) ?_ | refine zX rfl ?_ | refine zY rfl ?_ | refine zC ?_ | with_reducible refine zO ?_ | refine zI ?_ | refine zJ ?_ | (with_reducible first | refine zM ?_ | refine zN ?_ | refine zF ?_ | refine zH ?_ | refine zG ?_) | refine zP ?_
  · exact xY (sC s g hok hb hm hf)
  · refine And.intro rfl (Sub.trans (Sub.trans ?_ (uu (l' := _) 78 3 (.rest _) (.cons (.rest _) (.cons (.rest _) (.cons (.cons (.same _) (.cons (.same _) (.cons (.same _) (.cons (.same _) (.cons .nil (.rest _)))))) (.rest _)))))) (uu (l' := _) 78 3 (.rest _) (.cons (.rest _) (.cons (.rest _) (.cons (.cons (.same _) (.cons (.same _) (.cons (.same _) (.cons .nil (.rest _))))) (.rest _))))))
    refine wV [0, 1, 2, 3, 4, 6, s.runs.length + 2 + 9, s.runs.length + 3 + 9, s.runs.length + 1 + 9] (List.range' 9 s.runs.length ++ [7]) rfl (by simp [yk]) (sb (by simp <;> omega) (fun h hh => by simp at hh; omega)) ?_ (s9 (fun j x hx => v9 (zZ (zZ (zZ (zZ (yV hx)))))) rfl) (by repeat' first | exact zk | refine zc ?_ ?_ | exact zo | exact le_refl rfl | exact zm rfl rfl | exact zt rfl | exact zt (congrArg some (by simp [zh] <;> omega)) | exact zm rfl (by simp) | exact zm (congrArg some (by simp [zh] <;> omega)) rfl | exact zm (congrArg some (by simp [zh] <;> omega)) (by simp [yk, endV, yO]) | exact z8 (congrArg _ (by assumption)) | exact z8 (congrArg _ (Eq.symm (by assumption))))
    refine .cons rfl rfl rfl rfl (z9 rfl) (.cons rfl rfl rfl rfl (z9 rfl) (.cons rfl rfl rfl rfl ?_ (.cons rfl rfl rfl rfl (zU (zE _ _)) (.cons rfl rfl rfl rfl (zU (zE _ _)) (.cons rfl rfl rfl rfl (zU (zE _ _)) (.cons (z1 (zZ (zb y6))) rfl rfl rfl (zU (zE _ _)) (.cons (z1 (zb xG)) rfl rfl rfl (zU (zE _ _)) (.cons (z1 (zZ (zZ (zb y7)))) rfl rfl rfl (pk rfl rfl) .nil))))))))
    exact (by repeat' first | exact zk | refine zc ?_ ?_ | exact zo | exact le_refl rfl | exact zm rfl rfl | exact zt rfl | exact zt (congrArg some (by simp [zh] <;> omega)) | exact zm rfl (by simp) | exact zm (congrArg some (by simp [zh] <;> omega)) rfl | exact zm (congrArg some (by simp [zh] <;> omega)) (by simp [yk, endV, yO]) | exact z8 (congrArg _ (by assumption)) | exact z8 (congrArg _ (Eq.symm (by assumption))))
theorem fT (s : So) (g : Int) (hok : okSo s) (hb : VBa s) (hm : xJ s ≤ 60) (hp : s.ph = 1) (hf : tP s g) (hh : s.heap = []) (hd : s.dfr = []) : AW Go.Proofs.Try.prog uk (stQ s (yO (vt s)) g []) (stT s s g []) := by
  have g2 := hok.dfr
  have g4 := hok.out
  have g5 := hok.runs
  have hh0 : s.heap.length = 0 := by rw [hh]; rfl
  have hd0 : s.dfr.length = 0 := by rw [hd]; rfl
  rcases Nat.eq_zero_or_pos s.out.length with h0 | h0
  · have e : yO (vt s) = { s with lp := 0, rp := 0, ph := cond (decide (s.runs.length = 0)) 4 (cond (decide (s.runs.length = 1)) 3 2) } := by
      rw [vt, decide_eq_false (by omega), cond_false, yO]
    rw [e]
    have an := sk (bxS (soE s)) (bxS zS) (.sl 4 0 s.input.length) (I s.pos) (.sl 5 0 s.heap.length) (.sl 6 0 s.dfr.length) (.sl 7 0 s.out.length) (I s.lp) (I s.rp) (I s.ph) (I s.wr) 8 0 s.runs.length (rwR [] :: soR 4 s)
    repeat' first | (refine zj rfl (fun _ => ?_) (fun h => absurd hp (of_decide_eq_false h))) | (refine xK 10 (T10 s g) (y3 ?_) ?_) | (refine yW rfl rfl (fun _ => ?_) (fun h => absurd (of_decide_eq_false h) (by omega))) | (refine zj rfl (fun h => absurd (of_decide_eq_true h) (by omega)) (fun _ => ?_)) | refine zL ?_ | refine zA ?_ | refine zQ [] ?_ | (refine isA ?_; refine zg rfl ?_) | (refine isL ?_; refine zW rfl (by kernel_rfl) rfl rfl ?_) | (refine zd rfl ?_; refine zV rfl (by kernel_rfl) rfl rfl ?_) | (refine zp 63 ?_; refine za rfl (yN rfl an rfl) rfl ?_) | (refine zq 63 rfl ?_; refine zT rfl (by kernel_rfl) rfl (yN rfl an rfl) rfl ?_) | refine zD ?_ | refine zB _ rfl (by kernel_rfl) ?_ | refine zX rfl ?_ | refine zY rfl ?_ | refine zC ?_ | with_reducible refine zO ?_ | refine zI ?_ | refine zJ ?_ | (with_reducible first | refine zM ?_ | refine zN ?_ | refine zF ?_ | refine zH ?_ | refine zG ?_) | refine zP ?_
    · exact xY (sC s g hok hb hm hf)
    · exact And.intro rfl (wV [0, 1, 2, 3, 4, 5, 6, 7, 8] (List.range' 9 s.runs.length) rfl (by simp) (yb (by simp <;> omega) (fun h hh => by simp at hh; omega)) (by repeat' first | exact HLes.nil | refine HLes.cons rfl rfl rfl rfl (zU (zE _ _)) ?_ | refine HLes.cons rfl rfl rfl rfl (z9 rfl) ?_ | refine HLes.cons rfl rfl rfl rfl (xM (fun j hj => xL _ 9 _ j hj)) ?_ | refine HLes.cons (z1 (zb xH)) rfl rfl rfl (zU (zE _ _)) ?_ | refine HLes.cons (z1 (zb y7)) rfl rfl rfl (zU (zE _ _)) ?_ | refine HLes.cons (z1 (zb y6)) rfl rfl rfl (zU (zE _ _)) ?_ | refine HLes.cons (z1 (zb xG)) rfl rfl rfl (zU (zE _ _)) ?_ | refine HLes.cons (z1 (zZ (zb xH))) rfl rfl rfl (zU (zE _ _)) ?_ | refine HLes.cons (z1 (zZ (zb y7))) rfl rfl rfl (zU (zE _ _)) ?_ | refine HLes.cons (z1 (zZ (zb y6))) rfl rfl rfl (zU (zE _ _)) ?_ | refine HLes.cons (z1 (zZ (zb xG))) rfl rfl rfl (zU (zE _ _)) ?_ | refine HLes.cons (z1 (zZ (zZ (zb xH)))) rfl rfl rfl (zU (zE _ _)) ?_ | refine HLes.cons (z1 (zZ (zZ (zb y7)))) rfl rfl rfl (zU (zE _ _)) ?_ | refine HLes.cons (z1 (zZ (zZ (zb y6)))) rfl rfl rfl (zU (zE _ _)) ?_ | refine HLes.cons (z1 (zZ (zZ (zb xG)))) rfl rfl rfl (zU (zE _ _)) ?_ | refine HLes.cons rfl rfl rfl rfl (by repeat' first | exact zk | refine zc ?_ ?_ | exact zo | exact le_refl rfl | exact zm rfl rfl | exact zt rfl | exact zt (congrArg some (by simp [zh] <;> omega)) | exact zm rfl (by simp) | exact zm (congrArg some (by simp [zh] <;> omega)) rfl | exact zm (congrArg some (by simp [zh] <;> omega)) (by simp [yk, endV, yO]) | exact z8 (congrArg _ (by assumption)) | exact z8 (congrArg _ (Eq.symm (by assumption)))) ?_) (fun j i x hi hx => by rw [ix9 hi]; exact v9 (yV hx)) (by repeat' first | exact zk | refine zc ?_ ?_ | exact zo | exact le_refl rfl | exact zm rfl rfl | exact zt rfl | exact zt (congrArg some (by simp [zh] <;> omega)) | exact zm rfl (by simp) | exact zm (congrArg some (by simp [zh] <;> omega)) rfl | exact zm (congrArg some (by simp [zh] <;> omega)) (by simp [yk, endV, yO]) | exact z8 (congrArg _ (by assumption)) | exact z8 (congrArg _ (Eq.symm (by assumption)))))
  · have e : yO (vt s) = { s with runs := s.runs ++ [s.out], out := [], lp := 0, rp := 0, ph := cond (decide (s.runs.length + 1 = 0)) 4 (cond (decide (s.runs.length + 1 = 1)) 3 2) } := by
      rw [vt, decide_eq_true h0, cond_true, yO, endV]
      simp
    rw [e]
    have ae := nN (bxS (soE s)) (bxS zS) (rwR []) (rwR s.input) (rwR s.heap) (rwR s.dfr) (.sl 4 0 s.input.length) (I s.pos) (.sl 5 0 s.heap.length) (.sl 6 0 s.dfr.length) (I s.lp) (I s.rp) (I s.ph) (I s.wr) s.out (nC 9 s.runs) s.runs.length (xN _ _) (nR rwT 78 s.runs) (by omega)
    repeat' first | (refine zj rfl (fun _ => ?_) (fun h => absurd hp (of_decide_eq_false h))) | (refine xK 10 (T10 s g) (y3 ?_) ?_) | (refine yW rfl rfl (fun _ => ?_) (fun h => absurd (of_decide_eq_false h) (by omega))) | (refine zj rfl (fun h => absurd (of_decide_eq_true h) (by omega)) (fun _ => ?_)) | (refine zj rfl (fun _ => ?_) (fun h => absurd (of_decide_eq_false h) (by omega))) | refine zL ?_ | refine zA ?_ | refine zQ [] ?_ | (refine isA ?_; refine zg rfl ?_) | (refine isL ?_; refine zW rfl (by kernel_rfl) rfl rfl ?_) | (refine zd rfl ?_; refine zV rfl (by kernel_rfl) rfl rfl ?_) | (refine zp 60 ?_; refine za rfl (yN rfl ae rfl) rfl ?_) | (refine zq 60 rfl ?_; refine zT rfl (by kernel_rfl) rfl (yN rfl ae rfl) rfl ?_) | (refine zp 63 ?_; refine za rfl (yN rfl (sk _ _ _ _ _ _ _ _ _ _ _ _ _ _ _) rfl) rfl ?_) | (refine zq 63 rfl ?_; refine zT rfl (by kernel_rfl) rfl (yN rfl (sk _ _ _ _ _ _ _ _ _ _ _ _ _ _ _) rfl) rfl ?_) | refine zD ?_ | refine zB _ rfl (by kernel_rfl) ?_ | refine zX rfl ?_ | refine zY rfl ?_ | refine zC ?_ | with_reducible refine zO ?_ | refine zI ?_ | refine zJ ?_ | (with_reducible first | refine zM ?_ | refine zN ?_ | refine zF ?_ | refine zH ?_ | refine zG ?_) | refine zP ?_
    · exact xY (sC s g hok hb hm hf)
    · refine And.intro rfl (Sub.trans ?_ (uu (l' := _) 78 3 (.rest _) (.cons (.rest _) (.cons (.rest _) (.cons (.cons (.same _) (.cons (.same _) (.cons (.same _) (.cons (.same _) (.cons .nil (.rest _)))))) (.rest _))))))
      refine wV [0, 1, 2, 3, 4, 5, 6, s.runs.length + 2 + 9, s.runs.length + 1 + 9] (List.range' 9 s.runs.length ++ [7]) rfl (by simp) (sb (by simp <;> omega) (fun h hh => by simp at hh; omega)) ?_ (s9 (fun j x hx => v9 (zZ (zZ (zZ (yV hx))))) rfl) (by repeat' first | exact zk | refine zc ?_ ?_ | exact zo | exact le_refl rfl | exact zm rfl rfl | exact zt rfl | exact zt (congrArg some (by simp [zh] <;> omega)) | exact zm rfl (by simp) | exact zm (congrArg some (by simp [zh] <;> omega)) rfl | exact zm (congrArg some (by simp [zh] <;> omega)) (by simp [yk, endV, yO]) | exact z8 (congrArg _ (by assumption)) | exact z8 (congrArg _ (Eq.symm (by assumption))))
      refine .cons rfl rfl rfl rfl (z9 rfl) (.cons rfl rfl rfl rfl (z9 rfl) (.cons rfl rfl rfl rfl ?_ (.cons rfl rfl rfl rfl (zU (zE _ _)) (.cons rfl rfl rfl rfl (zU (zE _ _)) (.cons rfl rfl rfl rfl (zU (zE _ _)) (.cons rfl rfl rfl rfl (zU (zE _ _)) (.cons (z1 (zb y6)) rfl rfl rfl (zU (zE _ _)) (.cons (z1 (zZ (zb y7))) rfl rfl rfl (pk rfl rfl) .nil))))))))
      exact (by repeat' first | exact zk | refine zc ?_ ?_ | exact zo | exact le_refl rfl | exact zm rfl rfl | exact zt rfl | exact zt (congrArg some (by simp [zh] <;> omega)) | exact zm rfl (by simp) | exact zm (congrArg some (by simp [zh] <;> omega)) rfl | exact zm (congrArg some (by simp [zh] <;> omega)) (by simp [yk, endV, yO]) | exact z8 (congrArg _ (by assumption)) | exact z8 (congrArg _ (Eq.symm (by assumption))))
end Go.Proofs.Ytojcojanokhnaaa.Ab
namespace Go.Proofs.Ytojcojanokhnaaa.Ab
open Go.RowKit
theorem get7 {a0 a1 a2 a3 a4 a5 a6 x : Reg} {L : List Reg} {j : Nat} (h : L[j]? = some x) : (a0 :: a1 :: a2 :: a3 :: a4 :: a5 :: a6 :: L)[7 + j]? = some x := by
  rw [Nat.add_comm]; exact h
theorem ix7 {n j i : Nat} (h : (List.range' 7 n)[j]? = some i) : i = 7 + j := by
  rw [List.getElem?_range'] at h
  · have := Option.some.inj h; omega
  · exact Nat.lt_of_not_le fun hn => by rw [List.getElem?_eq_none (by simpa using hn)] at h; cases h
theorem dN (s x : So) (g : Int) (r : List Rw) (hok : okSo s) (hv : vS s = true) (hp : s.ph = 1) (h : StepV s g x r) : AW Go.Proofs.Try.prog uk (stQ s x g r) (stT s s g []) := by
  have hV := sI.1 hv
  cases hV with
  | read b q =>
    have hm : xJ s ≤ 60 := by rw [pe q.ph]; exact q.mem
    cases h with
    | put _ hr hf => exact c_put s g _ hok b hm hp hr hf
    | pop _ hf hh hk hr => exact c_pop s g _ _ hok b hm hp hf hh hk hr
    | swap _ hf hh hd => exact dH s g hok b hm hp hf hh hd
    | close _ hf hh hd => exact fT s g hok b hm hp hf hh hd
    | merged h2 => omega
    | left h2 => omega
    | right h2 => omega
    | emit h2 => omega
  | merge b t ph => omega
  | emit b t ph => omega
  | done b t ph => omega
end Go.Proofs.Ytojcojanokhnaaa.Ab
namespace Go.Proofs.Ytojcojanokhnaaa.Ab
open Go.RowKit
theorem VwS.app {H : List Reg} : ∀ (cs : List V) {ds es : List V}, VwS H ds es → VwS H (cs ++ ds) (cs ++ es)
  | [], _, _, h => h
  | c :: cs, _, _, h => .cons (.same c) (VwS.app cs h)
abbrev rnR (rs : List Rn) : Reg := yo rnT 84 rs
theorem ti {o : Oper} {ρ : Operand → V} {H : List Reg} {h hz zi n : Nat} {s x : Operand} {outs : List Rn} (ho : o.op = .call { callee := .builtin .append, args := #[s, x], argTypes := #[25, 25] })
    (hs : ρ s = .sl h 0 outs.length) (hH0 : H[h]? = some (rnR outs)) (hx : ρ x = .sl hz 0 1) (hzz : H[hz]? = some ⟨84, 1, [.sl zi 0 n], 0⟩) (hl : outs.length ≤ 10000000) :
    z4 Go.Proofs.Try.prog o ρ H (.sl H.length 0 (outs.length + 1)) (H.set h ⟨84, 1, rnT.flat outs, 2⟩ ++ [⟨84, 1, rnT.flat outs ++ [.sl zi 0 n], 0⟩]) := by
  have hsrc : Src H (ρ x) 1 [.sl zi 0 n] := by
    rw [hx]
    have := Src.sl (H := H) (off := 0) (m := 1) (r := ⟨84, 1, [.sl zi 0 n], 0⟩) hzz (Nat.zero_le _) (Nat.le_refl _)
    exact this
  have hH : H[h]? = some ⟨84, 1, rnT.flat outs, 0⟩ := hH0
  have fl : (rnT.flat outs).length = outs.length := by rw [yH]; show outs.length * 1 = _; omega
  have := vL (P := Go.Proofs.Try.prog) (ρ := ρ) (ty := 25) (m := 1) ho hs hH rfl rfl rfl (by show outs.length * 1 ≤ (rnT.flat outs).length; omega) hsrc rfl (fun c hc => by simp at hc; subst hc; rfl) (by omega) (by simp only [maxLen]; omega)
  have e1 : (⟨84, 1, rnT.flat outs, 0⟩ : Reg).cells.take (outs.length * 1) = rnT.flat outs := by
    show (rnT.flat outs).take _ = _
    rw [List.take_of_length_le]; omega
  rw [e1] at this
  exact this
theorem mY {ψ : List Nat} : ∀ {cs ds es fs : List V}, Les ψ cs ds → Les ψ es fs → Les ψ (cs ++ es) (ds ++ fs)
  | [], ds, es, fs, h, k => by
    have := xp h
    rw [List.eq_nil_of_length_eq_zero (show ds.length = 0 from this)]
    exact k
  | c :: cs, ds, es, fs, h, k => by
    rw [Les] at h
    obtain ⟨d, ds', rfl, h1, h2⟩ := h
    exact zc h1 (mY h2 k)
theorem tf (outs : List Rn) (run : Rn) : rnT.flat (outs ++ [run]) = rnT.flat outs ++ [rwL run] := by rw [wv]; rfl
theorem l5 {l : List V} {outs : List Rn} {run : Rn} (hl : Les [0] l l) :
    Sub ⟨l, [rnR (outs ++ [run])], 0⟩ ⟨l, [⟨84, 1, rnT.flat outs ++ [.sl 1 0 run.length], 0⟩, rwR run], 0⟩ := by
  refine Sub.trans ?_ (pJ (h := 1) (r := rwR run) rfl rfl (Nat.zero_le _) (fun i hi => absurd hi (Nat.not_lt_zero _)))
  refine Sub.trans ?_ (l4 (l' := l) (K := [rnR (outs ++ [run]), { rwR run with mode := 1 }]) (.rest _) (.cons ?_ (.rest _)))
  · exact yX [0] rfl rfl (by decide) (.cons rfl rfl rfl rfl (zU (zE _ _)) .nil) hl
  · rw [tf]
    exact VwS.app _ (.cons (.pur (.sl (r := { rwR run with mode := 1 }) rfl (Or.inl rfl) (zE _ _) (show 0 < 3 by omega) (by show (0 + run.length) * 3 ≤ (rwT.flat run).length; rw [yH]; show _ ≤ run.length * 3; omega) (by show rwT.flat run = ((rwT.flat run).drop (0 * 3)).take (run.length * 3); rw [Nat.zero_mul, List.drop_zero, List.take_of_length_le (by rw [yH]; exact Nat.le_refl _)]))) (.rest _))
theorem sW {live : Bool} {H : List Reg} : ∀ {cs ds es fs : List V}, Purs live H cs ds → Purs live H es fs → Purs live H (cs ++ es) (ds ++ fs)
  | _, _, _, _, .nil, k => k
  | _, _, _, _, .cons h hs, k => .cons h (sW hs k)
theorem tT {live : Bool} {H : List Reg} : ∀ {cs : List V}, NoH cs → Purs live H cs cs
  | [], _ => .nil
  | c :: cs, h => .cons (.same (h c (List.mem_cons_self ..))) (tT fun d hd => h d (List.mem_cons_of_mem _ hd))
theorem xS {H : List Reg} {h zi ty : Nat} {outs : List Rn} {run : Rn} (hH : H[h]? = some ⟨ty, 1, rnT.flat outs ++ [.sl zi 0 run.length], 0⟩) (hz : H[zi]? = some (rwR run)) : Pur true H (.sl h 0 (outs.length + 1)) (rnL (outs ++ [run])) := by
  have fl : (rnT.flat outs).length = outs.length := by rw [yH]; show outs.length * 1 = _; omega
  have e : (outs ++ [run]).length = outs.length + 1 := by simp
  rw [← e]
  refine .slN hH (Or.inr ⟨rfl, rfl⟩) (Nat.lt_succ_self 0) (by simp only [List.length_append, fl, List.length_singleton]; omega) ?_
  have q : (List.take ((outs ++ [run]).length * 1) (List.drop (0 * 1) (rnT.flat outs ++ [.sl zi 0 run.length]))) = rnT.flat outs ++ [.sl zi 0 run.length] := by
    rw [Nat.zero_mul, List.drop_zero, List.take_of_length_le (by simp only [List.length_append, fl, List.length_singleton]; omega)]
  show Purs true H (List.take ((outs ++ [run]).length * 1) (List.drop (0 * 1) (rnT.flat outs ++ [.sl zi 0 run.length]))) (rnT.flat (outs ++ [run]))
  rw [q, tf]
  exact sW (tT (zE _ _)) (.cons (zy hz) .nil)
theorem lq (rs : List Rn) (hok : v5 rs) (hl : rs.length ≤ 10000000) : zx Go.Proofs.Try.prog 118 [rnL rs] [] (.sl 0 0 rs.length) [rnR rs] true := by
  refine zu [2] Go.Proofs.Try.func118 rfl rfl ?_
  simp only [Go.Proofs.Try.ntmps118, List.length_cons, List.length_nil, Nat.reduceAdd, Nat.reduceSub, List.replicate_succ, List.replicate_zero, List.cons_append, List.nil_append]
  repeat' first | refine zL ?_ | refine zA ?_ | refine zQ [] ?_ | (refine isA ?_; refine zg rfl ?_) | (refine isL ?_; refine zW rfl (by kernel_rfl) rfl rfl ?_) | (refine zd rfl ?_; refine zV rfl (by kernel_rfl) rfl rfl ?_) | refine zD ?_ | refine zB _ rfl (by kernel_rfl) ?_ | refine zX rfl ?_ | refine zY rfl ?_ | refine zC ?_ | with_reducible refine zO ?_ | refine zI ?_ | refine zJ ?_ | (with_reducible first | refine zM ?_ | refine zN ?_ | refine zF ?_ | refine zH ?_ | refine zG ?_) | refine zP ?_
  refine z5 (α := { i : Nat // i ≤ rs.length }) (fun i => ⟨[rnL rs, .any, .any, .sl 0 0 (rs.take i.1).length, I i.1, .any, .any, .any, .any, .any, .any, .any, .any, .any, .any, .any, .any, .any, .any, .any, .any, .any, .any, .any], [rnR (rs.take i.1)], 0⟩) (fun i => rs.length - i.1) ⟨0, Nat.zero_le _⟩ ?_ ?_
  · exact yX [0] rfl rfl (by decide) (by repeat' first | exact HLes.nil | refine HLes.cons rfl rfl rfl rfl ?_ ?_ | exact zk | refine zc ?_ ?_ | exact zo | exact le_refl rfl | exact zm rfl rfl | exact zt rfl) (by repeat' first | exact zk | refine zc ?_ ?_ | exact zo | exact le_refl rfl | exact zm rfl rfl | exact zt rfl)
  · rintro ⟨i, hi⟩
    repeat' first | refine zL ?_ | refine zA ?_ | refine zQ [] ?_ | (refine isA ?_; refine zg rfl ?_) | (refine isL ?_; refine zW rfl (by kernel_rfl) rfl rfl ?_) | (refine zd rfl ?_; refine zV rfl (by kernel_rfl) rfl rfl ?_) | refine zD ?_ | refine zB _ rfl (by kernel_rfl) ?_ | refine zX rfl ?_ | refine zY rfl ?_ | refine zC ?_ | with_reducible refine zO ?_ | refine zI ?_ | refine zJ ?_ | (with_reducible first | refine zM ?_ | refine zN ?_ | refine zF ?_ | refine zH ?_ | refine zG ?_) | refine zP ?_
    refine zj rfl (fun h => ?_) (fun h => ?_)
    · have hlt : i < rs.length := by simpa using h
      obtain ⟨x, hx⟩ : ∃ x, rs[i]? = some x := ⟨_, List.getElem?_eq_getElem hlt⟩
      have hxl := hok.at hx
      repeat' first | refine zL ?_ | refine zA ?_ | refine zQ [] ?_ | (refine isA ?_; refine zg rfl ?_) | (refine isL ?_; refine zW rfl (by kernel_rfl) rfl rfl ?_) | (refine zd rfl ?_; refine zV rfl (by kernel_rfl) rfl rfl ?_) | (refine z7 (x := .tmp 14) ?_; refine za rfl (zz (t := rnT) (z := x) rfl rfl rfl rfl (Int.natCast_nonneg i) hx) rfl ?_) | (refine z6 (x := .tmp 14) rfl ?_; refine zT rfl (by kernel_rfl) rfl (zz (t := rnT) (z := x) rfl rfl rfl rfl (Int.natCast_nonneg i) hx) rfl ?_) | (refine xt ?_; refine za rfl (yU (t := rwT) (xs := []) (ys := x) rfl rfl rfl rfl (.lst _ _) (by simp; omega) rfl) rfl ?_) | (refine xR rfl ?_; refine zT rfl (by kernel_rfl) rfl (yU (t := rwT) (xs := []) (ys := x) rfl rfl rfl rfl (.lst _ _) (by simp; omega) rfl) rfl ?_) | (refine xt ?_; refine za rfl (ti (outs := rs.take i) (hz := 3) (zi := 2) (n := x.length) rfl rfl rfl rfl rfl (by simp; omega)) rfl ?_) | (refine xR rfl ?_; refine zT rfl (by kernel_rfl) rfl (ti (outs := rs.take i) (hz := 3) (zi := 2) (n := x.length) rfl rfl rfl rfl rfl (by simp; omega)) rfl ?_) | refine zD ?_ | refine zB _ rfl (by kernel_rfl) ?_ | refine zX rfl ?_ | refine zY rfl ?_ | refine zC ?_ | with_reducible refine zO ?_ | refine zI ?_ | refine zJ ?_ | (with_reducible first | refine zM ?_ | refine zN ?_ | refine zF ?_ | refine zH ?_ | refine zG ?_) | refine zP ?_
      refine ⟨⟨i + 1, hlt⟩, by simp only; omega, ?_⟩
      simp only
      rw [yp hx]
      refine Sub.trans (l5 (outs := rs.take i) (run := x) (by repeat' first | exact zk | refine zc ?_ ?_ | exact zo | exact le_refl rfl | exact zm rfl rfl | exact zt rfl)) ?_
      exact yX [4, 2] rfl rfl (by decide) (.cons rfl rfl rfl rfl (mY (zU (zE _ _)) (zc (zm rfl rfl) zk)) (.cons rfl rfl rfl rfl (zU (zE _ _)) .nil)) (by
        repeat' first | exact zk | refine zc ?_ ?_ | exact zo | exact le_refl rfl | exact zm rfl rfl | exact zm rfl (by simp) | exact xa (by assumption) (by omega))
    · have hge : i = rs.length := by
        have : ¬ ((i : Int) < rs.length) := by simpa using h
        omega
      subst hge
      have e : rs.take rs.length = rs := List.take_length
      repeat' first | refine zL ?_ | refine zA ?_ | refine zQ [] ?_ | (refine isA ?_; refine zg rfl ?_) | (refine isL ?_; refine zW rfl (by kernel_rfl) rfl rfl ?_) | (refine zd rfl ?_; refine zV rfl (by kernel_rfl) rfl rfl ?_) | refine zD ?_ | refine zB _ rfl (by kernel_rfl) ?_ | refine zX rfl ?_ | refine zY rfl ?_ | refine zC ?_ | with_reducible refine zO ?_ | refine zI ?_ | refine zJ ?_ | (with_reducible first | refine zM ?_ | refine zN ?_ | refine zF ?_ | refine zH ?_ | refine zG ?_) | refine zP ?_
      exact dA 0 [0] (fun i hi => absurd hi (Nat.not_lt_zero _)) (by decide) rfl (zm rfl (congrArg List.length e)) (.cons rfl rfl rfl rfl (by show Les _ (rnT.flat rs) (rnT.flat (rs.take rs.length)); rw [e]; exact zU (zE _ _)) .nil)
abbrev soP (b : Nat) (s : So) : List V := [.sl b 0 s.input.length, I s.pos, .sl (b + 1) 0 s.heap.length, .sl (b + 2) 0 s.dfr.length, .sl (b + 3) 0 s.out.length, .sl (b + 4) 0 s.runs.length, I s.lp, I s.rp, I s.ph, I s.wr]
abbrev soW (s : So) : List Reg := [rwR s.input, rwR s.heap, rwR s.dfr, rwR s.out, rnR s.runs]
theorem xu (s : So) (hok : okSo s) : zx Go.Proofs.Try.prog 65 [.agg (soE s)] [] (.agg (soP 0 s)) (soW s) true := by
  have g1 := hok.input
  have g2 := hok.heap
  have g3 := hok.dfr
  have g4 := hok.out
  have g5 := hok.runs
  have a1 := lq s.runs hok.rn (by omega)
  refine xU 2 27 Go.Proofs.Try.func65 rfl rfl ?_
  simp only [Go.Proofs.Try.ntmps65, List.length_cons, List.length_nil, Nat.reduceAdd, Nat.reduceSub, List.replicate_succ, List.replicate_zero, List.cons_append, List.nil_append]
  repeat' first | refine zL ?_ | refine zA ?_ | refine zQ [] ?_ | (refine isA ?_; refine zg rfl ?_) | (refine isL ?_; refine zW rfl (by kernel_rfl) rfl rfl ?_) | (refine zd rfl ?_; refine zV rfl (by kernel_rfl) rfl rfl ?_) | (refine xt ?_; refine za rfl (yU (t := rwT) (xs := []) (ys := s.input) rfl rfl rfl rfl (.lst _ _) (by simp; omega) rfl) rfl ?_) | (refine xR rfl ?_; refine zT rfl (by kernel_rfl) rfl (yU (t := rwT) (xs := []) (ys := s.input) rfl rfl rfl rfl (.lst _ _) (by simp; omega) rfl) rfl ?_) | (refine xt ?_; refine za rfl (yU (t := rwT) (xs := []) (ys := s.heap) rfl rfl rfl rfl (.lst _ _) (by simp; omega) rfl) rfl ?_) | (refine xR rfl ?_; refine zT rfl (by kernel_rfl) rfl (yU (t := rwT) (xs := []) (ys := s.heap) rfl rfl rfl rfl (.lst _ _) (by simp; omega) rfl) rfl ?_) | (refine xt ?_; refine za rfl (yU (t := rwT) (xs := []) (ys := s.dfr) rfl rfl rfl rfl (.lst _ _) (by simp; omega) rfl) rfl ?_) | (refine xR rfl ?_; refine zT rfl (by kernel_rfl) rfl (yU (t := rwT) (xs := []) (ys := s.dfr) rfl rfl rfl rfl (.lst _ _) (by simp; omega) rfl) rfl ?_) | (refine xt ?_; refine za rfl (yU (t := rwT) (xs := []) (ys := s.out) rfl rfl rfl rfl (.lst _ _) (by simp; omega) rfl) rfl ?_) | (refine xR rfl ?_; refine zT rfl (by kernel_rfl) rfl (yU (t := rwT) (xs := []) (ys := s.out) rfl rfl rfl rfl (.lst _ _) (by simp; omega) rfl) rfl ?_) | (refine zp 118 ?_; refine za rfl (yI rfl a1 (.cons (.same rfl) .nil) (fun q hq => by simp at hq; subst hq; exact zE _ _) rfl rfl) rfl ?_) | (refine zq 118 rfl ?_; refine zT rfl (by kernel_rfl) rfl (yI rfl a1 (.cons (.same rfl) .nil) (fun q hq => by simp at hq; subst hq; exact zE _ _) rfl rfl) rfl ?_) | refine zD ?_ | refine zB _ rfl (by kernel_rfl) ?_ | refine zX rfl ?_ | refine zY rfl ?_ | refine zC ?_ | with_reducible refine zO ?_ | refine zI ?_ | refine zJ ?_ | (with_reducible first | refine zM ?_ | refine zN ?_ | refine zF ?_ | refine zH ?_ | refine zG ?_) | refine zP ?_
  exact eI [4, 6, 8, 10, 11] (by decide) (yP rfl rfl rfl rfl rfl) (tb (by repeat' first | exact zk | refine zc ?_ ?_ | exact zo | exact le_refl rfl | exact zm rfl rfl | exact zt rfl | exact zt (congrArg some (by simp [zh] <;> omega)) | exact zm rfl (by simp) | exact zm (congrArg some (by simp [zh] <;> omega)) rfl | exact zm (congrArg some (by simp [zh] <;> omega)) (by simp [yk, endV, yO]) | exact z8 (congrArg _ (by assumption)) | exact z8 (congrArg _ (Eq.symm (by assumption))))) (.cons rfl rfl rfl rfl (zU (zE _ _)) (.cons rfl rfl rfl rfl (zU (zE _ _)) (.cons rfl rfl rfl rfl (zU (zE _ _)) (.cons rfl rfl rfl rfl (zU (zE _ _)) (.cons rfl rfl rfl rfl (zU (zE _ _)) .nil)))))
end Go.Proofs.Ytojcojanokhnaaa.Ab
namespace Go.Proofs.Ytojcojanokhnaaa.Ab
open Go.RowKit
theorem wz {live : Bool} {H : List Reg} {a b : Int} (h : a = b) : Pur live H (I a) (I b) := by subst h; exact .same rfl
theorem s_put (s : So) (g : Int) (r : Rw) (hok : okSo s) (hv : vS s = true) (h1 : inV g 8 60 = true) (hb : VBa s) (hm : xJ s ≤ 60) (hp : s.ph = 1) (hr : s.input[s.pos.toNat]? = some r) (hf : xJ s + xB r ≤ g) : zx Go.Proofs.Try.prog 14 [.agg (soE s), I g] [] (.tup [.agg (soE (uy s r)), rwL [], B true]) [] true := by
  obtain ⟨p, hpp, hple⟩ := hb.pos
  have e1 : s.pos.toNat = p := by omega
  rw [e1] at hr
  have hlt := (List.getElem?_eq_some_iff.1 hr).1
  have g1 := hok.heap
  have g2 := hok.dfr
  have g3 := hok.input
  have g4 := hok.out
  have ac := xu s hok
  have am := ny s hok
  have a1 := tL s hok
  rw [hv] at a1
  have a2 := uB g 8 60
  rw [h1] at a2
  have ew : IntKind.i64.wrap (s.pos + 1) = s.pos + 1 := by rw [IntKind.wrap_i64]; omega
  refine yi 4 27 [5, 6] Go.Proofs.Try.func14 rfl rfl rfl ?_
  simp only [Go.Proofs.Try.ntmps14, List.length_cons, List.length_nil, Nat.reduceAdd, Nat.reduceSub, List.replicate_succ, List.replicate_zero, List.cons_append, List.nil_append]
  repeat' first | (refine zj rfl (fun h => absurd (of_decide_eq_true h) (by omega)) (fun _ => ?_)) | (refine zj rfl (fun _ => ?_) (fun h => absurd hp (of_decide_eq_false h))) | refine zL ?_ | refine zA ?_ | refine zQ [] ?_ | (refine isA ?_; refine zg rfl ?_) | (refine isL ?_; refine zW rfl (by kernel_rfl) rfl rfl ?_) | (refine zd rfl ?_; refine zV rfl (by kernel_rfl) rfl rfl ?_) | (refine zp 65 ?_; refine za rfl (z0 (r' := .agg (soP 2 s)) (H' := bxS (soE s) :: bxS zS :: soW s) rfl ac (.cons (.same rfl) .nil) rfl (by simp only [List.map_cons, List.map_nil, shR, yA _ (yM (zE _ _))]; rfl)) rfl ?_) | (refine zq 65 rfl ?_; refine zT rfl (by kernel_rfl) rfl (z0 (r' := .agg (soP 2 s)) (H' := bxS (soE s) :: bxS zS :: soW s) rfl ac (.cons (.same rfl) .nil) rfl (by simp only [List.map_cons, List.map_nil, shR, yA _ (yM (zE _ _))]; rfl)) rfl ?_) | (refine zp 18 ?_; refine za rfl (zK rfl a1 (.cons (.same rfl) .nil) rfl) rfl ?_) | (refine zq 18 rfl ?_; refine zT rfl (by kernel_rfl) rfl (zK rfl a1 (.cons (.same rfl) .nil) rfl) rfl ?_) | (refine zp 66 ?_; refine za rfl (zK rfl a2 (.cons (.same rfl) (.cons (.same rfl) (.cons (.same rfl) .nil))) rfl) rfl ?_) | (refine zq 66 rfl ?_; refine zT rfl (by kernel_rfl) rfl (zK rfl a2 (.cons (.same rfl) (.cons (.same rfl) (.cons (.same rfl) .nil))) rfl) rfl ?_) | refine zD ?_ | refine zB _ rfl (by kernel_rfl) ?_ | refine zX rfl ?_ | refine zY rfl ?_ | refine zC ?_ | with_reducible refine zO ?_ | refine zI ?_ | refine zJ ?_ | (with_reducible first | refine zM ?_ | refine zN ?_ | refine zF ?_ | refine zH ?_ | refine zG ?_) | refine zP ?_
  refine yG rfl rfl rfl rfl (fun _ => ?_) (fun h => absurd (of_decide_eq_false h) (by omega))
  repeat' first | refine zL ?_ | refine zA ?_ | refine zQ [] ?_ | (refine isA ?_; refine zg rfl ?_) | (refine isL ?_; refine zW rfl (by kernel_rfl) rfl rfl ?_) | (refine zd rfl ?_; refine zV rfl (by kernel_rfl) rfl rfl ?_) | (refine zp 20 ?_; refine za rfl (zK rfl am (.cons (.same rfl) .nil) rfl) rfl ?_) | (refine zq 20 rfl ?_; refine zT rfl (by kernel_rfl) rfl (zK rfl am (.cons (.same rfl) .nil) rfl) rfl ?_) | (refine z7 (x := .tmp 42) ?_; refine za rfl (zz (t := rwT) (z := r) rfl rfl rfl rfl (by omega) (by rw [e1]; exact hr)) rfl ?_) | (refine z6 (x := .tmp 42) rfl ?_; refine zT rfl (by kernel_rfl) rfl (zz (t := rwT) (z := r) rfl rfl rfl rfl (by omega) (by rw [e1]; exact hr)) rfl ?_) | (refine zp 67 ?_; refine za rfl (zK rfl (wI r) (.cons (.same rfl) .nil) rfl) rfl ?_) | (refine zq 67 rfl ?_; refine zT rfl (by kernel_rfl) rfl (zK rfl (wI r) (.cons (.same rfl) .nil) rfl) rfl ?_) | refine zD ?_ | refine zB _ rfl (by kernel_rfl) ?_ | refine zX rfl ?_ | refine zY rfl ?_ | refine zC ?_ | with_reducible refine zO ?_ | refine zI ?_ | refine zJ ?_ | (with_reducible first | refine zM ?_ | refine zN ?_ | refine zF ?_ | refine zH ?_ | refine zG ?_) | refine zP ?_
  refine zj rfl (fun _ => ?_) (fun h => absurd (of_decide_eq_false h) (by rw [qk hm]; omega))
  repeat' first | refine zL ?_ | refine zA ?_ | refine zQ [] ?_ | (refine isA ?_; refine zg rfl ?_) | (refine isL ?_; refine zW rfl (by kernel_rfl) rfl rfl ?_) | (refine zd rfl ?_; refine zV rfl (by kernel_rfl) rfl rfl ?_) | (refine z7 (x := .tmp 53) ?_; refine za rfl (zz (t := rwT) (z := r) rfl rfl rfl rfl (by omega) (by rw [e1]; exact hr)) rfl ?_) | (refine z6 (x := .tmp 53) rfl ?_; refine zT rfl (by kernel_rfl) rfl (zz (t := rwT) (z := r) rfl rfl rfl rfl (by omega) (by rw [e1]; exact hr)) rfl ?_) | (refine vK (x := .tmp 8) ?_; refine za rfl (xh rfl rfl rfl rfl rfl (wh r) rfl rfl) rfl ?_) | (refine vJ (x := .tmp 8) rfl ?_; refine zT rfl (by kernel_rfl) rfl (xh rfl rfl rfl rfl rfl (wh r) rfl rfl) rfl ?_) | refine zD ?_ | refine zB _ rfl (by kernel_rfl) ?_ | refine zX rfl ?_ | refine zY rfl ?_ | refine zC ?_ | with_reducible refine zO ?_ | refine zI ?_ | refine zJ ?_ | (with_reducible first | refine zM ?_ | refine zN ?_ | refine zF ?_ | refine zH ?_ | refine zG ?_) | refine zP ?_
  refine yG rfl rfl rfl rfl (fun h => ?_) (fun h => ?_)
  · have h0 : 0 < s.out.length := by have := of_decide_eq_true h; omega
    obtain ⟨y, hy⟩ : ∃ z, s.out[s.out.length - 1]? = some z := ⟨_, List.getElem?_eq_getElem (by omega)⟩
    have ew2 : IntKind.i64.wrap ((s.out.length : Int) - 1) = ((s.out.length - 1 : Nat) : Int) := by rw [IntKind.wrap_i64]; omega
    have hbe : bel r s.out = decide (y8 r y < 0) := by unfold bel; rw [hy]; rfl
    repeat' first | refine zL ?_ | refine zA ?_ | refine zQ [] ?_ | (refine isA ?_; refine zg rfl ?_) | (refine isL ?_; refine zW rfl (by kernel_rfl) rfl rfl ?_) | (refine zd rfl ?_; refine zV rfl (by kernel_rfl) rfl rfl ?_) | (refine z7 (x := .tmp 69) ?_; refine za rfl (zz (t := rwT) (j := ((s.out.length - 1 : Nat) : Int)) (z := y) rfl rfl rfl (congrArg I ew2) (Int.natCast_nonneg _) hy) rfl ?_) | (refine z6 (x := .tmp 69) rfl ?_; refine zT rfl (by kernel_rfl) rfl (zz (t := rwT) (j := ((s.out.length - 1 : Nat) : Int)) (z := y) rfl rfl rfl (congrArg I ew2) (Int.natCast_nonneg _) hy) rfl ?_) | (refine zp 68 ?_; refine za rfl (zK rfl (xy r y) (.cons (.same rfl) (.cons (.same rfl) .nil)) rfl) rfl ?_) | (refine zq 68 rfl ?_; refine zT rfl (by kernel_rfl) rfl (zK rfl (xy r y) (.cons (.same rfl) (.cons (.same rfl) .nil)) rfl) rfl ?_) | refine zD ?_ | refine zB _ rfl (by kernel_rfl) ?_ | refine zX rfl ?_ | refine zY rfl ?_ | refine zC ?_ | with_reducible refine zO ?_ | refine zI ?_ | refine zJ ?_ | (with_reducible first | refine zM ?_ | refine zN ?_ | refine zF ?_ | refine zH ?_ | refine zG ?_) | refine zP ?_
    refine zj rfl (fun p2 => ?_) (fun p2 => ?_)
    · have e : uy s r = { s with dfr := s.dfr ++ [r], pos := s.pos + 1 } := by unfold uy; rw [hbe, p2]; rfl
      rw [e]
      repeat' first | (refine isA ?_; refine za rfl (yR rfl rfl rfl rfl rfl) rfl ?_) | refine zL ?_ | refine zA ?_ | refine zQ [] ?_ | (refine isA ?_; refine zg rfl ?_) | (refine isL ?_; refine zW rfl (by kernel_rfl) rfl rfl ?_) | (refine zd rfl ?_; refine zV rfl (by kernel_rfl) rfl rfl ?_) | (refine xt ?_; refine za rfl (yU (t := rwT) (xs := s.dfr) (ys := [r]) rfl rfl rfl rfl (.lst _ _) (by simp; omega) rfl) rfl ?_) | (refine xR rfl ?_; refine zT rfl (by kernel_rfl) rfl (yU (t := rwT) (xs := s.dfr) (ys := [r]) rfl rfl rfl rfl (.lst _ _) (by simp; omega) rfl) rfl ?_) | refine zD ?_ | refine zB _ rfl (by kernel_rfl) ?_ | refine zX rfl ?_ | refine zY rfl ?_ | refine zC ?_ | with_reducible refine zO ?_ | refine zI ?_ | refine zJ ?_ | (with_reducible first | refine zM ?_ | refine zN ?_ | refine zF ?_ | refine zH ?_ | refine zG ?_) | refine zP ?_
      exact ww (yP rfl rfl rfl rfl rfl) (.tup (.cons (.agg (by repeat' first | exact Purs.nil | refine Purs.cons ?_ ?_ | exact zy rfl | exact xS rfl rfl | exact zy (T := rwT) (x := []) rfl | exact Pur.nil | exact Pur.same rfl | exact wz (by assumption))) (.cons (.same rfl) (.cons (.same rfl) .nil))))
    · have e : uy s r = { s with heap := s.heap ++ [r], pos := s.pos + 1 } := by unfold uy; rw [hbe, p2]; rfl
      rw [e]
      repeat' first | (refine isA ?_; refine za rfl (yR rfl rfl rfl rfl rfl) rfl ?_) | refine zL ?_ | refine zA ?_ | refine zQ [] ?_ | (refine isA ?_; refine zg rfl ?_) | (refine isL ?_; refine zW rfl (by kernel_rfl) rfl rfl ?_) | (refine zd rfl ?_; refine zV rfl (by kernel_rfl) rfl rfl ?_) | (refine xt ?_; refine za rfl (yU (t := rwT) (xs := s.heap) (ys := [r]) rfl rfl rfl rfl (.lst _ _) (by simp; omega) rfl) rfl ?_) | (refine xR rfl ?_; refine zT rfl (by kernel_rfl) rfl (yU (t := rwT) (xs := s.heap) (ys := [r]) rfl rfl rfl rfl (.lst _ _) (by simp; omega) rfl) rfl ?_) | refine zD ?_ | refine zB _ rfl (by kernel_rfl) ?_ | refine zX rfl ?_ | refine zY rfl ?_ | refine zC ?_ | with_reducible refine zO ?_ | refine zI ?_ | refine zJ ?_ | (with_reducible first | refine zM ?_ | refine zN ?_ | refine zF ?_ | refine zH ?_ | refine zG ?_) | refine zP ?_
      exact ww (yP rfl rfl rfl rfl rfl) (.tup (.cons (.agg (by repeat' first | exact Purs.nil | refine Purs.cons ?_ ?_ | exact zy rfl | exact xS rfl rfl | exact zy (T := rwT) (x := []) rfl | exact Pur.nil | exact Pur.same rfl | exact wz (by assumption))) (.cons (.same rfl) (.cons (.same rfl) .nil))))
  · have hbe : bel r s.out = false := by
      rw [List.eq_nil_of_length_eq_zero (show s.out.length = 0 by have := of_decide_eq_false h; omega)]; rfl
    have e : uy s r = { s with heap := s.heap ++ [r], pos := s.pos + 1 } := by unfold uy; rw [hbe]; rfl
    rw [e]
    repeat' first | (refine isA ?_; refine za rfl (yR rfl rfl rfl rfl rfl) rfl ?_) | refine zL ?_ | refine zA ?_ | refine zQ [] ?_ | (refine isA ?_; refine zg rfl ?_) | (refine isL ?_; refine zW rfl (by kernel_rfl) rfl rfl ?_) | (refine zd rfl ?_; refine zV rfl (by kernel_rfl) rfl rfl ?_) | (refine xt ?_; refine za rfl (yU (t := rwT) (xs := s.heap) (ys := [r]) rfl rfl rfl rfl (.lst _ _) (by simp; omega) rfl) rfl ?_) | (refine xR rfl ?_; refine zT rfl (by kernel_rfl) rfl (yU (t := rwT) (xs := s.heap) (ys := [r]) rfl rfl rfl rfl (.lst _ _) (by simp; omega) rfl) rfl ?_) | refine zD ?_ | refine zB _ rfl (by kernel_rfl) ?_ | refine zX rfl ?_ | refine zY rfl ?_ | refine zC ?_ | with_reducible refine zO ?_ | refine zI ?_ | refine zJ ?_ | (with_reducible first | refine zM ?_ | refine zN ?_ | refine zF ?_ | refine zH ?_ | refine zG ?_) | refine zP ?_
    exact ww (yP rfl rfl rfl rfl rfl) (.tup (.cons (.agg (by repeat' first | exact Purs.nil | refine Purs.cons ?_ ?_ | exact zy rfl | exact xS rfl rfl | exact zy (T := rwT) (x := []) rfl | exact Pur.nil | exact Pur.same rfl | exact wz (by assumption))) (.cons (.same rfl) (.cons (.same rfl) .nil))))
end Go.Proofs.Ytojcojanokhnaaa.Ab
namespace Go.Proofs.Ytojcojanokhnaaa.Ab
open Go.RowKit
theorem qr {l : List V} {H K : List Reg} {m : Nat} {t : Tmp} {n : Nat} {v r : V} (hv : CellIs l H t n v) (hr : v = r) (hK : H = K) : (Exit.ret = .ret ∨ Exit.ret = .normal) ∧ ∃ v, CellIs l H t n v ∧ Out true r K v ⟨l, H, m⟩ := by
  subst hr
  subst hK
  exact ⟨Or.inl rfl, _, hv, nk (S := ⟨l, H, m⟩)⟩
theorem mu (a0 a1 a2 a3 a4 a5 a6 a7 : Reg) (x1 x6 x7 x8 x9 : Int) (h0 o0 n0 h2 o2 n2 h3 o3 n3 h4 o4 n4 h5 o5 n5 : Nat) :
    zx Go.Proofs.Try.prog 70 [.agg [.sl h0 o0 n0, I x1, .sl h2 o2 n2, .sl h3 o3 n3, .sl h4 o4 n4, .sl h5 o5 n5, I x6, I x7, I x8, I x9]] [a0, a1, a2, a3, a4, a5, a6, a7] (.agg [.sl h0 o0 n0, I x1, .sl h2 o2 n2, .sl h3 o3 n3, .sl h4 o4 n4, .sl h5 o5 n5, I 0, I 0, I (cond (decide (n5 = 0)) 4 (cond (decide (n5 = 1)) 3 2)), I x9])
      [a0, a1, a2, a3, a4, a5, a6, a7, bxS [.sl h0 o0 n0, I x1, .sl h2 o2 n2, .sl h3 o3 n3, .sl h4 o4 n4, .sl h5 o5 n5, I 0, I 0, I (cond (decide (n5 = 0)) 4 (cond (decide (n5 = 1)) 3 2)), I x9], bxS [.sl h0 o0 n0, I x1, .sl h2 o2 n2, .sl h3 o3 n3, .sl h4 o4 n4, .sl h5 o5 n5, I 0, I 0, I (cond (decide (n5 = 0)) 4 (cond (decide (n5 = 1)) 3 2)), I x9]] true := by
  have e0 : decide (n5 = 0) = decide ((n5 : Int) = 0) := decide_eq_decide.2 (by omega)
  have e1 : decide (n5 = 1) = decide ((n5 : Int) = 1) := decide_eq_decide.2 (by omega)
  rw [e0, e1]
  refine xU 2 27 Go.Proofs.Try.func70 rfl rfl ?_
  simp only [Go.Proofs.Try.ntmps70, List.length_cons, List.length_nil, Nat.reduceAdd, Nat.reduceSub, List.replicate_succ, List.replicate_zero, List.cons_append, List.nil_append]
  repeat' first | refine zL ?_ | refine zA ?_ | refine zQ [] ?_ | (refine isA ?_; refine zg rfl ?_) | (refine isL ?_; refine zW rfl (by kernel_rfl) rfl rfl ?_) | (refine zd rfl ?_; refine zV rfl (by kernel_rfl) rfl rfl ?_) | refine zD ?_ | refine zB _ rfl (by kernel_rfl) ?_ | refine zX rfl ?_ | refine zY rfl ?_ | refine zC ?_ | with_reducible refine zO ?_ | refine zI ?_ | refine zJ ?_ | (with_reducible first | refine zM ?_ | refine zN ?_ | refine zF ?_ | refine zH ?_ | refine zG ?_) | refine zP ?_ | refine zj rfl (fun hbr => ?_) (fun hbr => ?_)
  all_goals first
    | (exfalso; have p1 := of_decide_eq_true (by assumption : decide ((n5 : Int) = 1) = true); have p2 := of_decide_eq_true (by assumption : decide ((n5 : Int) = 0) = true); omega)
    | (refine qr (yP rfl rfl rfl rfl rfl) ?_ ?_ <;> simp only [*, cond_true, cond_false] <;> rfl)
theorem tJ (a0 a1 a2 a3 a4 a5 a6 a7 a8 a9 a10 : Reg) (x1 x6 x7 x8 x9 : Int) (h0 o0 n0 h2 o2 n2 h3 o3 n3 h4 o4 n4 h5 o5 n5 : Nat) :
    zx Go.Proofs.Try.prog 70 [.agg [.sl h0 o0 n0, I x1, .sl h2 o2 n2, .sl h3 o3 n3, .sl h4 o4 n4, .sl h5 o5 n5, I x6, I x7, I x8, I x9]] [a0, a1, a2, a3, a4, a5, a6, a7, a8, a9, a10] (.agg [.sl h0 o0 n0, I x1, .sl h2 o2 n2, .sl h3 o3 n3, .sl h4 o4 n4, .sl h5 o5 n5, I 0, I 0, I (cond (decide (n5 = 0)) 4 (cond (decide (n5 = 1)) 3 2)), I x9])
      [a0, a1, a2, a3, a4, a5, a6, a7, a8, a9, a10, bxS [.sl h0 o0 n0, I x1, .sl h2 o2 n2, .sl h3 o3 n3, .sl h4 o4 n4, .sl h5 o5 n5, I 0, I 0, I (cond (decide (n5 = 0)) 4 (cond (decide (n5 = 1)) 3 2)), I x9], bxS [.sl h0 o0 n0, I x1, .sl h2 o2 n2, .sl h3 o3 n3, .sl h4 o4 n4, .sl h5 o5 n5, I 0, I 0, I (cond (decide (n5 = 0)) 4 (cond (decide (n5 = 1)) 3 2)), I x9]] true := by
  have e0 : decide (n5 = 0) = decide ((n5 : Int) = 0) := decide_eq_decide.2 (by omega)
  have e1 : decide (n5 = 1) = decide ((n5 : Int) = 1) := decide_eq_decide.2 (by omega)
  rw [e0, e1]
  refine xU 2 27 Go.Proofs.Try.func70 rfl rfl ?_
  simp only [Go.Proofs.Try.ntmps70, List.length_cons, List.length_nil, Nat.reduceAdd, Nat.reduceSub, List.replicate_succ, List.replicate_zero, List.cons_append, List.nil_append]
  repeat' first | refine zL ?_ | refine zA ?_ | refine zQ [] ?_ | (refine isA ?_; refine zg rfl ?_) | (refine isL ?_; refine zW rfl (by kernel_rfl) rfl rfl ?_) | (refine zd rfl ?_; refine zV rfl (by kernel_rfl) rfl rfl ?_) | refine zD ?_ | refine zB _ rfl (by kernel_rfl) ?_ | refine zX rfl ?_ | refine zY rfl ?_ | refine zC ?_ | with_reducible refine zO ?_ | refine zI ?_ | refine zJ ?_ | (with_reducible first | refine zM ?_ | refine zN ?_ | refine zF ?_ | refine zH ?_ | refine zG ?_) | refine zP ?_ | refine zj rfl (fun hbr => ?_) (fun hbr => ?_)
  all_goals first
    | (exfalso; have p1 := of_decide_eq_true (by assumption : decide ((n5 : Int) = 1) = true); have p2 := of_decide_eq_true (by assumption : decide ((n5 : Int) = 0) = true); omega)
    | (refine qr (yP rfl rfl rfl rfl rfl) ?_ ?_ <;> simp only [*, cond_true, cond_false] <;> rfl)
theorem dM (a0 a1 a7 : Reg) (s : So) (k : Nat) (r : Rw) (hok : okSo s) (hk : nm s.heap = (k : Nat)) (hr : s.heap[k]? = some r) :
    zx Go.Proofs.Try.prog 69 [.agg (soP 2 s)] [a0, a1, rwR s.input, rwR s.heap, rwR s.dfr, rwR s.out, rnR s.runs, a7]
      (.agg [.sl 2 0 s.input.length, I s.pos, .sl 11 0 (s.heap.take k ++ s.heap.drop (k + 1)).length, .sl 4 0 s.dfr.length, .sl 10 0 (s.out ++ [r]).length, .sl 6 0 s.runs.length, I s.lp, I s.rp, I s.ph, I (IntKind.i64.wrap (s.wr + xB r))])
      [a0, a1, rwR s.input, rwR s.heap, rwR s.dfr, { rwR s.out with mode := 2 }, rnR s.runs, a7, bxS [.sl 2 0 s.input.length, I s.pos, .sl 11 0 (s.heap.take k ++ s.heap.drop (k + 1)).length, .sl 4 0 s.dfr.length, .sl 10 0 (s.out ++ [r]).length, .sl 6 0 s.runs.length, I s.lp, I s.rp, I s.ph, I (IntKind.i64.wrap (s.wr + xB r))], bxS [.sl 2 0 s.input.length, I s.pos, .sl 11 0 (s.heap.take k ++ s.heap.drop (k + 1)).length, .sl 4 0 s.dfr.length, .sl 10 0 (s.out ++ [r]).length, .sl 6 0 s.runs.length, I s.lp, I s.rp, I s.ph, I (IntKind.i64.wrap (s.wr + xB r))], rwR (s.out ++ [r]), rwR (s.heap.take k ++ s.heap.drop (k + 1))] true := by
  have g1 := hok.heap
  have g4 := hok.out
  have hlt := (List.getElem?_eq_some_iff.1 hr).1
  have ai := dI s.heap (by omega)
  rw [hk] at ai
  refine xU 2 27 Go.Proofs.Try.func69 rfl rfl ?_
  simp only [Go.Proofs.Try.ntmps69, List.length_cons, List.length_nil, Nat.reduceAdd, Nat.reduceSub, List.replicate_succ, List.replicate_zero, List.cons_append, List.nil_append]
  repeat' first | (refine zQ (id := 9) [8, 10] ?_) | (refine tn rfl ?_; refine zT rfl (by kernel_rfl) rfl (yR rfl rfl rfl rfl rfl) rfl ?_) | (refine xR rfl ?_; refine tm rfl (by kernel_rfl) rfl (yU (t := rwT) (xs := s.out) (ys := [r]) rfl rfl rfl rfl (.lst _ _) (by simp; omega) rfl) rfl ?_) | (refine zj rfl (fun h => absurd (of_decide_eq_true h) (by omega)) (fun _ => ?_)) | (refine isA ?_; refine za rfl (yR rfl rfl rfl rfl rfl) rfl ?_) | refine zL ?_ | refine zA ?_ | refine zQ [10] ?_ | (refine isA ?_; refine zg rfl ?_) | (refine isL ?_; refine zW rfl (by kernel_rfl) rfl rfl ?_) | (refine zd rfl ?_; refine zV rfl (by kernel_rfl) rfl rfl ?_) | (refine zp 119 ?_; refine za rfl (zK rfl ai (.cons (zy rfl) .nil) rfl) rfl ?_) | (refine zq 119 rfl ?_; refine zT rfl (by kernel_rfl) rfl (zK rfl ai (.cons (zy rfl) .nil) rfl) rfl ?_) | (refine z7 (x := .tmp 30) ?_; refine za rfl (zn (j := (k : Int)) rfl rfl rfl (Nat.zero_le _) rfl rfl (Int.natCast_nonneg _) (by omega)) rfl ?_) | (refine z6 (x := .tmp 30) rfl ?_; refine zT rfl (by kernel_rfl) rfl (zn (j := (k : Int)) rfl rfl rfl (Nat.zero_le _) rfl rfl (Int.natCast_nonneg _) (by omega)) rfl ?_) | (refine yt (x := .tmp 32) ?_; refine za rfl (yx (T := rwT) (i := 0 + k) (z := r) rfl rfl rfl (by rw [Nat.zero_add]; exact hr)) rfl ?_) | (refine yr (x := .tmp 32) rfl ?_; refine zT rfl (by kernel_rfl) rfl (yx (T := rwT) (i := 0 + k) (z := r) rfl rfl rfl (by rw [Nat.zero_add]; exact hr)) rfl ?_) | (refine zp 67 ?_; refine za rfl (zK rfl (wI r) (.cons (.same rfl) .nil) rfl) rfl ?_) | (refine zq 67 rfl ?_; refine zT rfl (by kernel_rfl) rfl (zK rfl (wI r) (.cons (.same rfl) .nil) rfl) rfl ?_) | (refine z7 (x := .tmp 40) ?_; refine za rfl (zn (j := (k : Int)) rfl rfl rfl (Nat.zero_le _) rfl rfl (Int.natCast_nonneg _) (by omega)) rfl ?_) | (refine z6 (x := .tmp 40) rfl ?_; refine zT rfl (by kernel_rfl) rfl (zn (j := (k : Int)) rfl rfl rfl (Nat.zero_le _) rfl rfl (Int.natCast_nonneg _) (by omega)) rfl ?_) | (refine yt (x := .tmp 42) ?_; refine za rfl (yx (T := rwT) (i := 0 + k) (z := r) rfl rfl rfl (by rw [Nat.zero_add]; exact hr)) rfl ?_) | (refine yr (x := .tmp 42) rfl ?_; refine zT rfl (by kernel_rfl) rfl (yx (T := rwT) (i := 0 + k) (z := r) rfl rfl rfl (by rw [Nat.zero_add]; exact hr)) rfl ?_) | (refine zp 120 ?_; refine za rfl (yI rfl (gW s.heap k hlt (by omega)) (.cons (zy rfl) (.cons (.same rfl) .nil)) (fun q hq => by simp at hq; subst hq; exact zE _ _) rfl rfl) rfl ?_) | (refine zq 120 rfl ?_; refine zT rfl (by kernel_rfl) rfl (yI rfl (gW s.heap k hlt (by omega)) (.cons (zy rfl) (.cons (.same rfl) .nil)) (fun q hq => by simp at hq; subst hq; exact zE _ _) rfl rfl) rfl ?_) | (refine isL ?_; refine vQ rfl (by kernel_rfl) rfl rfl ?_) | refine zD ?_ | refine zB _ rfl (by kernel_rfl) ?_ | refine zX rfl ?_ | refine zY rfl ?_ | refine zC ?_ | with_reducible refine zO ?_ | refine zI ?_ | refine zJ ?_ | (with_reducible first | refine zM ?_ | refine zN ?_ | refine zF ?_ | refine zH ?_ | refine zG ?_) | refine zP ?_
  exact qr (yP rfl rfl rfl rfl rfl) rfl rfl
theorem dL (a0 a1 a7 : Reg) (s : So) (hok : okSo s) (hh : s.heap = []) :
    zx Go.Proofs.Try.prog 69 [.agg (soP 2 s)] [a0, a1, rwR s.input, rwR s.heap, rwR s.dfr, rwR s.out, rnR s.runs, a7]
      (.agg [.sl 2 0 s.input.length, I s.pos, .sl 4 0 s.dfr.length, .lst 0 [], .lst 0 [], .sl 11 0 (s.runs.length + 1), I s.lp, I s.rp, I s.ph, I s.wr])
      [a0, a1, rwR s.input, rwR s.heap, rwR s.dfr, rwR s.out, { rnR s.runs with mode := 2 }, a7, bxS [.sl 2 0 s.input.length, I s.pos, .sl 4 0 s.dfr.length, .lst 0 [], .lst 0 [], .sl 11 0 (s.runs.length + 1), I s.lp, I s.rp, I s.ph, I s.wr], bxS [.sl 2 0 s.input.length, I s.pos, .sl 4 0 s.dfr.length, .lst 0 [], .lst 0 [], .sl 11 0 (s.runs.length + 1), I s.lp, I s.rp, I s.ph, I s.wr], ⟨84, 1, [.sl 5 0 s.out.length], 0⟩, ⟨84, 1, rnT.flat s.runs ++ [.sl 5 0 s.out.length], 0⟩] true := by
  have g5 := hok.runs
  have hh0 : s.heap.length = 0 := by rw [hh]; rfl
  refine xU 2 27 Go.Proofs.Try.func69 rfl rfl ?_
  simp only [Go.Proofs.Try.ntmps69, List.length_cons, List.length_nil, Nat.reduceAdd, Nat.reduceSub, List.replicate_succ, List.replicate_zero, List.cons_append, List.nil_append]
  repeat' first | (refine zj rfl (fun _ => ?_) (fun h => absurd (of_decide_eq_false h) (by omega))) | (refine isA ?_; refine za rfl (yR (ps := []) rfl rfl rfl rfl rfl) rfl ?_) | refine zL ?_ | refine zA ?_ | refine zQ [] ?_ | (refine isA ?_; refine zg rfl ?_) | (refine isL ?_; refine zW rfl (by kernel_rfl) rfl rfl ?_) | (refine zd rfl ?_; refine zV rfl (by kernel_rfl) rfl rfl ?_) | (refine xt ?_; refine za rfl (ti (outs := s.runs) (hz := 10) (zi := 5) (n := s.out.length) rfl rfl rfl rfl rfl (by omega)) rfl ?_) | (refine xR rfl ?_; refine zT rfl (by kernel_rfl) rfl (ti (outs := s.runs) (hz := 10) (zi := 5) (n := s.out.length) rfl rfl rfl rfl rfl (by omega)) rfl ?_) | refine zD ?_ | refine zB _ rfl (by kernel_rfl) ?_ | refine zX rfl ?_ | refine zY rfl ?_ | refine zC ?_ | with_reducible refine zO ?_ | refine zI ?_ | refine zJ ?_ | (with_reducible first | refine zM ?_ | refine zN ?_ | refine zF ?_ | refine zH ?_ | refine zG ?_) | refine zP ?_
  exact qr (yP rfl rfl rfl rfl rfl) rfl rfl
end Go.Proofs.Ytojcojanokhnaaa.Ab
namespace Go.Proofs.Ytojcojanokhnaaa.Ab
open Go.RowKit
abbrev R8 (s : So) : List Reg := [bxS (soE s), bxS zS, rwR s.input, rwR s.heap, rwR s.dfr, rwR s.out, rnR s.runs, bxS (soP 2 s)]
abbrev T6 (s : So) (g : Int) : St := ⟨(.any :: (I g) :: (.ptr 0 0) :: .any :: (.ptr 1 0) :: .any :: .any :: (.ptr 7 0) :: .any :: .any :: .any :: .any :: .any :: .any :: .any :: .any :: .any :: .any :: .any :: .any :: .any :: .any :: .any :: .any :: .any :: .any :: .any :: .any :: .any :: (I s.ph) :: .any :: .any :: .any :: .any :: .any :: .any :: .any :: .any :: .any :: .any :: .any :: .any :: .any :: .any :: .any :: .any :: .any :: .any :: .any :: .any :: .any :: .any :: .any :: .any :: .any :: .any :: .any :: .any :: .any :: .any :: .any :: .any :: .any :: .any :: .any :: .any :: .any :: .any :: .any :: .any :: .any :: .any :: .any :: .any :: .any :: .any :: .any :: .any :: .any :: .any :: .any :: .any :: .any :: .any :: .any :: .any :: .any :: .any :: .any :: .any :: .any :: .any :: .any :: .any :: .any :: .any :: .any :: .any :: .any :: .any :: .any :: .any :: .any :: .any :: .any :: .any :: .any :: .any :: .any :: .any :: .any :: .any :: .any :: .any :: .any :: .any :: .any :: .any :: .any :: .any :: .any :: .any :: .any :: .any :: .any :: .any :: .any :: .any :: .any :: .any :: .any :: .any :: .any :: .any :: .any :: .any :: .any :: .any :: .any :: .any :: .any :: .any :: .any :: .any :: .any :: .any :: .any :: .any :: .any :: .any :: .any :: .any :: .any :: .any :: .any :: .any :: .any :: .any :: .any :: .any :: .any :: .any :: .any :: .any :: .any :: .any :: .any :: .any :: .any :: .any :: .any :: .any :: .any :: .any :: .any :: .any :: .any :: .any :: .any :: .any :: .any :: .any :: .any :: .any :: .any :: .any :: .any :: .any :: .any :: .any :: .any :: .any :: .any :: .any :: .any :: .any :: .any :: .any :: .any :: .any :: .any :: .any :: .any :: .any :: .any :: .any :: .any :: .any :: .any :: .any :: .any :: .any :: .any :: .any :: .any :: .any :: .any :: .any :: .any :: .any :: .any :: .any :: .any :: .any :: .any :: .any :: .any :: .any :: .any :: .any :: .any :: .any :: .any :: .any :: .any :: []), R8 s, 0⟩
noncomputable def seq6 : Code := match (Go.Proofs.Try.f14).body with
  | some (.seq _ (.seq _ (.seq _ (.seq (.seq _ (.block _ (.seq _ (.cond _ (.seq m _) _)))) _)))) => m
  | _ => .skip
theorem hl8 {ψ : List Nat} {s : So} (h : ∀ i, i < 8 → ψ[i]? = some i) : HLes ψ (R8 s) [0, 1, 2, 3, 4, 5, 6, 7] (R8 s) :=
  .cons rfl rfl rfl rfl (z9 rfl) (.cons rfl rfl rfl rfl (z9 rfl) (.cons rfl rfl rfl rfl (zU (zE _ _)) (.cons rfl rfl rfl rfl (zU (zE _ _)) (.cons rfl rfl rfl rfl (zU (zE _ _)) (.cons rfl rfl rfl rfl (zU (zE _ _)) (.cons rfl rfl rfl rfl (zU (zE _ _)) (.cons rfl rfl rfl rfl (zc (zm (h 2 (by decide)) rfl) (zc (le_refl rfl) (zc (zm (h 3 (by decide)) rfl) (zc (zm (h 4 (by decide)) rfl) (zc (zm (h 5 (by decide)) rfl) (zc (zm (h 6 (by decide)) rfl) (zc (le_refl rfl) (zc (le_refl rfl) (zc (le_refl rfl) (zc (le_refl rfl) zk)))))))))) .nil)))))))
theorem id8 : ∀ i, i < 8 → [0, 1, 2, 3, 4, 5, 6, 7][i]? = some i := by decide
theorem t5 (s : So) (g : Int) (hok : okSo s) (hb : VBa s) (hm : xJ s ≤ 60) (hf : tP s g) : AW Go.Proofs.Try.prog seq6 (fun e S' => e = .normal ∧ Sub (T6 s g) S') (T6 s g) := by
  obtain ⟨p, hpp, hple⟩ := hb.pos
  have e1 : s.pos.toNat = p := by omega
  have g3 := hok.input
  have am := ny s hok
  repeat' first | refine zL ?_ | refine zA ?_ | refine zQ [] ?_ | (refine isA ?_; refine zg rfl ?_) | (refine isL ?_; refine zW rfl (by kernel_rfl) rfl rfl ?_) | (refine zd rfl ?_; refine zV rfl (by kernel_rfl) rfl rfl ?_) | refine zD ?_ | refine zB _ rfl (by kernel_rfl) ?_ | refine zX rfl ?_ | refine zY rfl ?_ | refine zC ?_ | with_reducible refine zO ?_ | refine zI ?_ | refine zJ ?_ | (with_reducible first | refine zM ?_ | refine zN ?_ | refine zF ?_ | refine zH ?_ | refine zG ?_) | refine zP ?_
  refine yG rfl rfl rfl rfl (fun h => ?_) (fun h => ?_)
  · have hlt : p < s.input.length := by have := of_decide_eq_true h; omega
    obtain ⟨z, hz⟩ : ∃ z, s.input[p]? = some z := ⟨_, List.getElem?_eq_getElem hlt⟩
    have hfz := hf z (by rw [e1]; exact hz)
    repeat' first | (refine zj rfl (fun h => absurd (of_decide_eq_true h) (by rw [qk hm]; omega)) (fun _ => ?_)) | refine zL ?_ | refine zA ?_ | refine zQ [] ?_ | (refine isA ?_; refine zg rfl ?_) | (refine isL ?_; refine zW rfl (by kernel_rfl) rfl rfl ?_) | (refine zd rfl ?_; refine zV rfl (by kernel_rfl) rfl rfl ?_) | (refine zp 20 ?_; refine za rfl (zK rfl am (.cons (.same rfl) .nil) rfl) rfl ?_) | (refine zq 20 rfl ?_; refine zT rfl (by kernel_rfl) rfl (zK rfl am (.cons (.same rfl) .nil) rfl) rfl ?_) | (refine z7 (x := .tmp 42) ?_; refine za rfl (zz (t := rwT) (z := z) rfl rfl rfl rfl (by omega) (by rw [e1]; exact hz)) rfl ?_) | (refine z6 (x := .tmp 42) rfl ?_; refine zT rfl (by kernel_rfl) rfl (zz (t := rwT) (z := z) rfl rfl rfl rfl (by omega) (by rw [e1]; exact hz)) rfl ?_) | (refine zp 67 ?_; refine za rfl (zK rfl (wI z) (.cons (.same rfl) .nil) rfl) rfl ?_) | (refine zq 67 rfl ?_; refine zT rfl (by kernel_rfl) rfl (zK rfl (wI z) (.cons (.same rfl) .nil) rfl) rfl ?_) | refine zD ?_ | refine zB _ rfl (by kernel_rfl) ?_ | refine zX rfl ?_ | refine zY rfl ?_ | refine zC ?_ | with_reducible refine zO ?_ | refine zI ?_ | refine zJ ?_ | (with_reducible first | refine zM ?_ | refine zN ?_ | refine zF ?_ | refine zH ?_ | refine zG ?_) | refine zP ?_
    exact ⟨rfl, yX [0, 1, 2, 3, 4, 5, 6, 7] rfl rfl (by decide) (hl8 id8) (by repeat' first | exact zk | refine zc ?_ ?_ | exact zo | exact le_refl rfl | exact zm rfl rfl | exact zt rfl)⟩
  · repeat' first | refine zL ?_ | refine zA ?_ | refine zQ [] ?_ | (refine isA ?_; refine zg rfl ?_) | (refine isL ?_; refine zW rfl (by kernel_rfl) rfl rfl ?_) | (refine zd rfl ?_; refine zV rfl (by kernel_rfl) rfl rfl ?_) | refine zD ?_ | refine zB _ rfl (by kernel_rfl) ?_ | refine zX rfl ?_ | refine zY rfl ?_ | refine zC ?_ | with_reducible refine zO ?_ | refine zI ?_ | refine zJ ?_ | (with_reducible first | refine zM ?_ | refine zN ?_ | refine zF ?_ | refine zH ?_ | refine zG ?_) | refine zP ?_
    exact ⟨rfl, yX [0, 1, 2, 3, 4, 5, 6, 7] rfl rfl (by decide) (hl8 id8) (by repeat' first | exact zk | refine zc ?_ ?_ | exact zo | exact le_refl rfl | exact zm rfl rfl | exact zt rfl)⟩
theorem s_pop (s : So) (g : Int) (k : Nat) (r : Rw) (hok : okSo s) (hv : vS s = true) (h1 : inV g 8 60 = true) (hb : VBa s) (hm : xJ s ≤ 60) (hp : s.ph = 1) (hf : tP s g) (hh : 0 < s.heap.length) (hk : nm s.heap = (k : Nat)) (hr : s.heap[k]? = some r) : zx Go.Proofs.Try.prog 14 [.agg (soE s), I g] [] (.tup [.agg (soE (kd s k r)), rwL [], B true]) [] true := by
  have g1 := hok.heap
  have g2 := hok.dfr
  have ac := xu s hok
  have a1 := tL s hok
  rw [hv] at a1
  have a2 := uB g 8 60
  rw [h1] at a2
  have ao := dM (bxS (soE s)) (bxS zS) (bxS (soP 2 s)) s k r hok hk hr
  refine yi 4 27 [5, 6] Go.Proofs.Try.func14 rfl rfl rfl ?_
  simp only [Go.Proofs.Try.ntmps14, List.length_cons, List.length_nil, Nat.reduceAdd, Nat.reduceSub, List.replicate_succ, List.replicate_zero, List.cons_append, List.nil_append]
  repeat' first | (refine wc 6 (T6 s g) (y3 ?_) ?_) | (refine zj rfl (fun h => absurd (of_decide_eq_true h) (by omega)) (fun _ => ?_)) | (refine zj rfl (fun _ => ?_) (fun h => absurd hp (of_decide_eq_false h))) | (refine zj rfl (fun _ => ?_) (fun h => absurd (of_decide_eq_false h) (by rw [IntKind.wrap_i64]; omega))) | (refine isA ?_; refine za rfl (yR rfl rfl rfl rfl rfl) rfl ?_) | refine zL ?_ | refine zA ?_ | refine zQ [] ?_ | (refine isA ?_; refine zg rfl ?_) | (refine isL ?_; refine zW rfl (by kernel_rfl) rfl rfl ?_) | (refine zd rfl ?_; refine zV rfl (by kernel_rfl) rfl rfl ?_) | (refine zp 65 ?_; refine za rfl (z0 (r' := .agg (soP 2 s)) (H' := bxS (soE s) :: bxS zS :: soW s) rfl ac (.cons (.same rfl) .nil) rfl (by simp only [List.map_cons, List.map_nil, shR, yA _ (yM (zE _ _))]; rfl)) rfl ?_) | (refine zq 65 rfl ?_; refine zT rfl (by kernel_rfl) rfl (z0 (r' := .agg (soP 2 s)) (H' := bxS (soE s) :: bxS zS :: soW s) rfl ac (.cons (.same rfl) .nil) rfl (by simp only [List.map_cons, List.map_nil, shR, yA _ (yM (zE _ _))]; rfl)) rfl ?_) | (refine zp 18 ?_; refine za rfl (zK rfl a1 (.cons (.same rfl) .nil) rfl) rfl ?_) | (refine zq 18 rfl ?_; refine zT rfl (by kernel_rfl) rfl (zK rfl a1 (.cons (.same rfl) .nil) rfl) rfl ?_) | (refine zp 66 ?_; refine za rfl (zK rfl a2 (.cons (.same rfl) (.cons (.same rfl) (.cons (.same rfl) .nil))) rfl) rfl ?_) | (refine zq 66 rfl ?_; refine zT rfl (by kernel_rfl) rfl (zK rfl a2 (.cons (.same rfl) (.cons (.same rfl) (.cons (.same rfl) .nil))) rfl) rfl ?_) | (refine zp 69 ?_; refine za rfl (yN rfl ao rfl) rfl ?_) | (refine zq 69 rfl ?_; refine zT rfl (by kernel_rfl) rfl (yN rfl ao rfl) rfl ?_) | refine zD ?_ | refine zB _ rfl (by kernel_rfl) ?_ | refine zX rfl ?_ | refine zY rfl ?_ | refine zC ?_ | with_reducible refine zO ?_ | refine zI ?_ | refine zJ ?_ | (with_reducible first | refine zM ?_ | refine zN ?_ | refine zF ?_ | refine zH ?_ | refine zG ?_) | refine zP ?_
  · exact xY (uo (yX [0, 1, 2, 3, 4, 5, 6, 7] rfl rfl (by decide) (hl8 id8) (by repeat' first | exact zk | refine zc ?_ ?_ | exact zo | exact le_refl rfl | exact zm rfl rfl | exact zt rfl)) (t5 s g hok hb hm hf))
  · exact ww (yP rfl rfl rfl rfl rfl) (.tup (.cons (.agg (by repeat' first | exact Purs.nil | refine Purs.cons ?_ ?_ | exact zy rfl | exact xS rfl rfl | exact zy (T := rwT) (x := []) rfl | exact Pur.nil | exact Pur.same rfl | exact wz (by assumption))) (.cons (.same rfl) (.cons (.same rfl) .nil))))
theorem ef (s : So) (g : Int) (hok : okSo s) (hv : vS s = true) (h1 : inV g 8 60 = true) (hb : VBa s) (hm : xJ s ≤ 60) (hp : s.ph = 1) (hf : tP s g) (hh : s.heap = []) (hd : 0 < s.dfr.length) : zx Go.Proofs.Try.prog 14 [.agg (soE s), I g] [] (.tup [.agg (soE (yk s)), rwL [], B true]) [] true := by
  have g1 := hok.heap
  have g2 := hok.dfr
  have g4 := hok.out
  have g5 := hok.runs
  have hh0 : s.heap.length = 0 := by rw [hh]; rfl
  have ac := xu s hok
  have a1 := tL s hok
  rw [hv] at a1
  have a2 := uB g 8 60
  rw [h1] at a2
  have ao := dL (bxS (soE s)) (bxS zS) (bxS (soP 2 s)) s hok hh
  refine yi 4 27 [5, 6] Go.Proofs.Try.func14 rfl rfl rfl ?_
  simp only [Go.Proofs.Try.ntmps14, List.length_cons, List.length_nil, Nat.reduceAdd, Nat.reduceSub, List.replicate_succ, List.replicate_zero, List.cons_append, List.nil_append]
  repeat' first | (refine wc 6 (T6 s g) (y3 ?_) ?_) | (refine zj rfl (fun h => absurd (of_decide_eq_true h) (by omega)) (fun _ => ?_)) | (refine zj rfl (fun _ => ?_) (fun h => absurd hp (of_decide_eq_false h))) | (refine zj rfl (fun _ => ?_) (fun h => absurd (of_decide_eq_false h) (by rw [IntKind.wrap_i64]; omega))) | (refine isA ?_; refine za rfl (yR rfl rfl rfl rfl rfl) rfl ?_) | refine zL ?_ | refine zA ?_ | refine zQ [] ?_ | (refine isA ?_; refine zg rfl ?_) | (refine isL ?_; refine zW rfl (by kernel_rfl) rfl rfl ?_) | (refine zd rfl ?_; refine zV rfl (by kernel_rfl) rfl rfl ?_) | (refine zp 65 ?_; refine za rfl (z0 (r' := .agg (soP 2 s)) (H' := bxS (soE s) :: bxS zS :: soW s) rfl ac (.cons (.same rfl) .nil) rfl (by simp only [List.map_cons, List.map_nil, shR, yA _ (yM (zE _ _))]; rfl)) rfl ?_) | (refine zq 65 rfl ?_; refine zT rfl (by kernel_rfl) rfl (z0 (r' := .agg (soP 2 s)) (H' := bxS (soE s) :: bxS zS :: soW s) rfl ac (.cons (.same rfl) .nil) rfl (by simp only [List.map_cons, List.map_nil, shR, yA _ (yM (zE _ _))]; rfl)) rfl ?_) | (refine zp 18 ?_; refine za rfl (zK rfl a1 (.cons (.same rfl) .nil) rfl) rfl ?_) | (refine zq 18 rfl ?_; refine zT rfl (by kernel_rfl) rfl (zK rfl a1 (.cons (.same rfl) .nil) rfl) rfl ?_) | (refine zp 66 ?_; refine za rfl (zK rfl a2 (.cons (.same rfl) (.cons (.same rfl) (.cons (.same rfl) .nil))) rfl) rfl ?_) | (refine zq 66 rfl ?_; refine zT rfl (by kernel_rfl) rfl (zK rfl a2 (.cons (.same rfl) (.cons (.same rfl) (.cons (.same rfl) .nil))) rfl) rfl ?_) | (refine zp 69 ?_; refine za rfl (yN rfl ao rfl) rfl ?_) | (refine zq 69 rfl ?_; refine zT rfl (by kernel_rfl) rfl (yN rfl ao rfl) rfl ?_) | refine zD ?_ | refine zB _ rfl (by kernel_rfl) ?_ | refine zX rfl ?_ | refine zY rfl ?_ | refine zC ?_ | with_reducible refine zO ?_ | refine zI ?_ | refine zJ ?_ | (with_reducible first | refine zM ?_ | refine zN ?_ | refine zF ?_ | refine zH ?_ | refine zG ?_) | refine zP ?_
  · exact xY (uo (yX [0, 1, 2, 3, 4, 5, 6, 7] rfl rfl (by decide) (hl8 id8) (by repeat' first | exact zk | refine zc ?_ ?_ | exact zo | exact le_refl rfl | exact zm rfl rfl | exact zt rfl)) (t5 s g hok hb hm hf))
  · exact ww (yP rfl rfl rfl rfl rfl) (.tup (.cons (.agg (by repeat' first | exact Purs.nil | refine Purs.cons ?_ ?_ | exact zy rfl | exact xS rfl rfl | exact zy (T := rwT) (x := []) rfl | exact Pur.nil | exact Pur.same rfl | exact wz (by assumption))) (.cons (.same rfl) (.cons (.same rfl) .nil))))
theorem g8 (s : So) (g : Int) (hok : okSo s) (hv : vS s = true) (h1 : inV g 8 60 = true) (hb : VBa s) (hm : xJ s ≤ 60) (hp : s.ph = 1) (hf : tP s g) (hh : s.heap = []) (hd : s.dfr = []) : zx Go.Proofs.Try.prog 14 [.agg (soE s), I g] [] (.tup [.agg (soE (yO (vt s))), rwL [], B true]) [] true := by
  have g1 := hok.heap
  have g2 := hok.dfr
  have g4 := hok.out
  have g5 := hok.runs
  have hh0 : s.heap.length = 0 := by rw [hh]; rfl
  have ac := xu s hok
  have a1 := tL s hok
  rw [hv] at a1
  have a2 := uB g 8 60
  rw [h1] at a2
  have hd0 : s.dfr.length = 0 := by rw [hd]; rfl
  rcases Nat.eq_zero_or_pos s.out.length with h0 | h0
  · have e : yO (vt s) = { s with lp := 0, rp := 0, ph := cond (decide (s.runs.length = 0)) 4 (cond (decide (s.runs.length = 1)) 3 2) } := by
      rw [vt, decide_eq_false (by omega), cond_false, yO]
    rw [e]
    refine yi 4 27 [5, 6] Go.Proofs.Try.func14 rfl rfl rfl ?_
    simp only [Go.Proofs.Try.ntmps14, List.length_cons, List.length_nil, Nat.reduceAdd, Nat.reduceSub, List.replicate_succ, List.replicate_zero, List.cons_append, List.nil_append]
    repeat' first | (refine wc 6 (T6 s g) (y3 ?_) ?_) | (refine zj rfl (fun h => absurd (of_decide_eq_true h) (by omega)) (fun _ => ?_)) | (refine zj rfl (fun _ => ?_) (fun h => absurd hp (of_decide_eq_false h))) | (refine zj rfl (fun h => absurd (of_decide_eq_true h) (by rw [IntKind.wrap_i64]; omega)) (fun _ => ?_)) | (refine isA ?_; refine za rfl (yR rfl rfl rfl rfl rfl) rfl ?_) | refine zL ?_ | refine zA ?_ | refine zQ [] ?_ | (refine isA ?_; refine zg rfl ?_) | (refine isL ?_; refine zW rfl (by kernel_rfl) rfl rfl ?_) | (refine zd rfl ?_; refine zV rfl (by kernel_rfl) rfl rfl ?_) | (refine zp 65 ?_; refine za rfl (z0 (r' := .agg (soP 2 s)) (H' := bxS (soE s) :: bxS zS :: soW s) rfl ac (.cons (.same rfl) .nil) rfl (by simp only [List.map_cons, List.map_nil, shR, yA _ (yM (zE _ _))]; rfl)) rfl ?_) | (refine zq 65 rfl ?_; refine zT rfl (by kernel_rfl) rfl (z0 (r' := .agg (soP 2 s)) (H' := bxS (soE s) :: bxS zS :: soW s) rfl ac (.cons (.same rfl) .nil) rfl (by simp only [List.map_cons, List.map_nil, shR, yA _ (yM (zE _ _))]; rfl)) rfl ?_) | (refine zp 18 ?_; refine za rfl (zK rfl a1 (.cons (.same rfl) .nil) rfl) rfl ?_) | (refine zq 18 rfl ?_; refine zT rfl (by kernel_rfl) rfl (zK rfl a1 (.cons (.same rfl) .nil) rfl) rfl ?_) | (refine zp 66 ?_; refine za rfl (zK rfl a2 (.cons (.same rfl) (.cons (.same rfl) (.cons (.same rfl) .nil))) rfl) rfl ?_) | (refine zq 66 rfl ?_; refine zT rfl (by kernel_rfl) rfl (zK rfl a2 (.cons (.same rfl) (.cons (.same rfl) (.cons (.same rfl) .nil))) rfl) rfl ?_) | (refine zp 70 ?_; refine za rfl (yN rfl (mu _ _ _ _ _ _ _ _ _ _ _ _ _ _ _ _ _ _ _ _ _ _ _ _ _ _ _ _) rfl) rfl ?_) | (refine zq 70 rfl ?_; refine zT rfl (by kernel_rfl) rfl (yN rfl (mu _ _ _ _ _ _ _ _ _ _ _ _ _ _ _ _ _ _ _ _ _ _ _ _ _ _ _ _) rfl) rfl ?_) | refine zD ?_ | refine zB _ rfl (by kernel_rfl) ?_ | refine zX rfl ?_ | refine zY rfl ?_ | refine zC ?_ | with_reducible refine zO ?_ | refine zI ?_ | refine zJ ?_ | (with_reducible first | refine zM ?_ | refine zN ?_ | refine zF ?_ | refine zH ?_ | refine zG ?_) | refine zP ?_
    · exact xY (uo (yX [0, 1, 2, 3, 4, 5, 6, 7] rfl rfl (by decide) (hl8 id8) (by repeat' first | exact zk | refine zc ?_ ?_ | exact zo | exact le_refl rfl | exact zm rfl rfl | exact zt rfl)) (t5 s g hok hb hm hf))
    · exact ww (yP rfl rfl rfl rfl rfl) (.tup (.cons (.agg (by repeat' first | exact Purs.nil | refine Purs.cons ?_ ?_ | exact zy rfl | exact xS rfl rfl | exact zy (T := rwT) (x := []) rfl | exact Pur.nil | exact Pur.same rfl | exact wz (by assumption))) (.cons (.same rfl) (.cons (.same rfl) .nil))))
  · have e : yO (vt s) = { s with runs := s.runs ++ [s.out], out := [], lp := 0, rp := 0, ph := cond (decide (s.runs.length + 1 = 0)) 4 (cond (decide (s.runs.length + 1 = 1)) 3 2) } := by
      rw [vt, decide_eq_true h0, cond_true, yO, endV]
      simp
    rw [e]
    refine yi 4 27 [5, 6] Go.Proofs.Try.func14 rfl rfl rfl ?_
    simp only [Go.Proofs.Try.ntmps14, List.length_cons, List.length_nil, Nat.reduceAdd, Nat.reduceSub, List.replicate_succ, List.replicate_zero, List.cons_append, List.nil_append]
    repeat' first | (refine wc 6 (T6 s g) (y3 ?_) ?_) | (refine zj rfl (fun h => absurd (of_decide_eq_true h) (by omega)) (fun _ => ?_)) | (refine zj rfl (fun _ => ?_) (fun h => absurd hp (of_decide_eq_false h))) | (refine zj rfl (fun h => absurd (of_decide_eq_true h) (by rw [IntKind.wrap_i64]; omega)) (fun _ => ?_)) | (refine zj rfl (fun _ => ?_) (fun h => absurd (of_decide_eq_false h) (by omega))) | refine zL ?_ | refine zA ?_ | refine zQ [] ?_ | (refine isA ?_; refine zg rfl ?_) | (refine isL ?_; refine zW rfl (by kernel_rfl) rfl rfl ?_) | (refine zd rfl ?_; refine zV rfl (by kernel_rfl) rfl rfl ?_) | (refine zp 65 ?_; refine za rfl (z0 (r' := .agg (soP 2 s)) (H' := bxS (soE s) :: bxS zS :: soW s) rfl ac (.cons (.same rfl) .nil) rfl (by simp only [List.map_cons, List.map_nil, shR, yA _ (yM (zE _ _))]; rfl)) rfl ?_) | (refine zq 65 rfl ?_; refine zT rfl (by kernel_rfl) rfl (z0 (r' := .agg (soP 2 s)) (H' := bxS (soE s) :: bxS zS :: soW s) rfl ac (.cons (.same rfl) .nil) rfl (by simp only [List.map_cons, List.map_nil, shR, yA _ (yM (zE _ _))]; rfl)) rfl ?_) | (refine zp 18 ?_; refine za rfl (zK rfl a1 (.cons (.same rfl) .nil) rfl) rfl ?_) | (refine zq 18 rfl ?_; refine zT rfl (by kernel_rfl) rfl (zK rfl a1 (.cons (.same rfl) .nil) rfl) rfl ?_) | (refine zp 66 ?_; refine za rfl (zK rfl a2 (.cons (.same rfl) (.cons (.same rfl) (.cons (.same rfl) .nil))) rfl) rfl ?_) | (refine zq 66 rfl ?_; refine zT rfl (by kernel_rfl) rfl (zK rfl a2 (.cons (.same rfl) (.cons (.same rfl) (.cons (.same rfl) .nil))) rfl) rfl ?_) | (refine xt ?_; refine za rfl (ti (outs := s.runs) (hz := 8) (zi := 5) (n := s.out.length) rfl rfl rfl rfl rfl (by omega)) rfl ?_) | (refine xR rfl ?_; refine zT rfl (by kernel_rfl) rfl (ti (outs := s.runs) (hz := 8) (zi := 5) (n := s.out.length) rfl rfl rfl rfl rfl (by omega)) rfl ?_) | (refine zp 70 ?_; refine za rfl (yN rfl (tJ _ _ _ _ _ _ _ _ _ _ _ _ _ _ _ _ _ _ _ _ _ _ _ _ _ _ _ _ _ _ _) rfl) rfl ?_) | (refine zq 70 rfl ?_; refine zT rfl (by kernel_rfl) rfl (yN rfl (tJ _ _ _ _ _ _ _ _ _ _ _ _ _ _ _ _ _ _ _ _ _ _ _ _ _ _ _ _ _ _ _) rfl) rfl ?_) | refine zD ?_ | refine zB _ rfl (by kernel_rfl) ?_ | refine zX rfl ?_ | refine zY rfl ?_ | refine zC ?_ | with_reducible refine zO ?_ | refine zI ?_ | refine zJ ?_ | (with_reducible first | refine zM ?_ | refine zN ?_ | refine zF ?_ | refine zH ?_ | refine zG ?_) | refine zP ?_
    · exact xY (uo (yX [0, 1, 2, 3, 4, 5, 6, 7] rfl rfl (by decide) (hl8 id8) (by repeat' first | exact zk | refine zc ?_ ?_ | exact zo | exact le_refl rfl | exact zm rfl rfl | exact zt rfl)) (t5 s g hok hb hm hf))
    · exact ww (yP rfl rfl rfl rfl rfl) (.tup (.cons (.agg (by repeat' first | exact Purs.nil | refine Purs.cons ?_ ?_ | exact zy rfl | exact xS rfl rfl | exact zy (T := rwT) (x := []) rfl | exact Pur.nil | exact Pur.same rfl | exact wz (by assumption))) (.cons (zy (T := rwT) (x := []) rfl) (.cons (.same rfl) .nil))))
theorem gJ (s x : So) (g : Int) (r : List Rw) (hok : okSo s) (hv : vS s = true) (h1 : inV g 8 60 = true) (hp : s.ph = 1) (h : StepV s g x r) : zx Go.Proofs.Try.prog 14 [.agg (soE s), I g] [] (.tup [.agg (soE x), rwL r, B true]) [] true := by
  have hV := sI.1 hv
  cases hV with
  | read b q =>
    have hm : xJ s ≤ 60 := by rw [pe q.ph]; exact q.mem
    cases h with
    | put _ hr hf => exact s_put s g _ hok hv h1 b hm hp hr hf
    | pop _ hf hh hk hr => exact s_pop s g _ _ hok hv h1 b hm hp hf hh hk hr
    | swap _ hf hh hd => exact ef s g hok hv h1 b hm hp hf hh hd
    | close _ hf hh hd => exact g8 s g hok hv h1 b hm hp hf hh hd
    | merged h2 => omega
    | left h2 => omega
    | right h2 => omega
    | emit h2 => omega
  | merge b t ph => omega
  | emit b t ph => omega
  | done b t ph => omega
end Go.Proofs.Ytojcojanokhnaaa.Ab
namespace Go.Proofs.Ytojcojanokhnaaa.Ab
open Go.RowKit
theorem eg (inp heap dfr out : List Rw) (pos wr g : Int) (a b : Rn) (rest : List Rn) (i k : Nat) (r : Rw) (hok : okSo ⟨inp, pos, heap, dfr, out, a :: b :: rest, i, k, 2, wr⟩) (hv : vS ⟨inp, pos, heap, dfr, out, a :: b :: rest, i, k, 2, wr⟩ = true) (hg : inV g 8 60 = true) (h1 : a[i]? = some r) (hk : k ≤ b.length) (h2 : ∀ q, b[k]? = some q → leW r q) :
    zx Go.Proofs.Try.prog 14 [.agg (soE ⟨inp, pos, heap, dfr, out, a :: b :: rest, i, k, 2, wr⟩), I g] [] (.tup [.agg (soE (pm ⟨inp, pos, heap, dfr, out, a :: b :: rest, i, k, 2, wr⟩ r)), rwL [], B true]) [] true := by
  have g4 := hok.out
  have g6 := hok.tot
  simp only [tot, List.map_cons, List.sum_cons] at g4 g6
  have hlt := (List.getElem?_eq_some_iff.1 h1).1
  have ew : IntKind.i64.wrap ((i : Int) + 1) = (i : Int) + 1 := by rw [IntKind.wrap_i64]; omega
  have ac := xu _ hok
  have a1 := tL _ hok
  rw [hv] at a1
  have a2 := uB g 8 60
  rw [hg] at a2
  have b1 := wT (a :: b :: rest) 0 i hok.rn (by decide)
  have b2 := wT (a :: b :: rest) 1 k hok.rn (by decide)
  have e0 : wX (a :: b :: rest) 0 i = (a[i]?).toList := rfl
  have e1 : wX (a :: b :: rest) 1 k = (b[k]?).toList := rfl
  rw [e0] at b1
  rw [e1] at b2
  rw [h1] at b1
  have hz1 : ([r] : List Rw)[0]? = some r := rfl
  rcases hq : b[k]? with _ | q
  · rw [hq] at b2
    refine yi 4 27 [5, 6] Go.Proofs.Try.func14 rfl rfl rfl ?_
    simp only [Go.Proofs.Try.ntmps14, List.length_cons, List.length_nil, Nat.reduceAdd, Nat.reduceSub, List.replicate_succ, List.replicate_zero, List.cons_append, List.nil_append]
    repeat' first | (refine zj rfl (fun h => absurd (of_decide_eq_true h) (by simp only; decide)) (fun _ => ?_)) | (refine zj rfl (fun _ => ?_) (fun h => absurd (of_decide_eq_false h) (by simp only; decide))) | (refine isA ?_; refine za rfl (yR rfl rfl rfl rfl rfl) rfl ?_) | (refine zQ (id := 27) [6, 8] ?_) | (refine zQ (id := 28) [8] ?_) | (refine tn rfl ?_; refine zT rfl (by kernel_rfl) rfl (yR rfl rfl rfl rfl rfl) rfl ?_) | (refine xR rfl ?_; refine tm rfl (by kernel_rfl) rfl (yU (t := rwT) (xs := out) (ys := [r]) rfl rfl rfl rfl (.lst _ _) (by simp; omega) rfl) rfl ?_) | refine zL ?_ | refine zA ?_ | refine zQ [] ?_ | (refine isA ?_; refine zg rfl ?_) | (refine isL ?_; refine zW rfl (by kernel_rfl) rfl rfl ?_) | (refine zd rfl ?_; refine zV rfl (by kernel_rfl) rfl rfl ?_) | (refine zp 65 ?_; refine za rfl (z0 (r' := .agg (soP 2 ⟨inp, pos, heap, dfr, out, a :: b :: rest, i, k, 2, wr⟩)) (H' := bxS (soE ⟨inp, pos, heap, dfr, out, a :: b :: rest, i, k, 2, wr⟩) :: bxS zS :: soW ⟨inp, pos, heap, dfr, out, a :: b :: rest, i, k, 2, wr⟩) rfl ac (.cons (.same rfl) .nil) rfl (by simp only [List.map_cons, List.map_nil, shR, yA _ (yM (zE _ _))]; rfl)) rfl ?_) | (refine zq 65 rfl ?_; refine zT rfl (by kernel_rfl) rfl (z0 (r' := .agg (soP 2 ⟨inp, pos, heap, dfr, out, a :: b :: rest, i, k, 2, wr⟩)) (H' := bxS (soE ⟨inp, pos, heap, dfr, out, a :: b :: rest, i, k, 2, wr⟩) :: bxS zS :: soW ⟨inp, pos, heap, dfr, out, a :: b :: rest, i, k, 2, wr⟩) rfl ac (.cons (.same rfl) .nil) rfl (by simp only [List.map_cons, List.map_nil, shR, yA _ (yM (zE _ _))]; rfl)) rfl ?_) | (refine zp 18 ?_; refine za rfl (zK rfl a1 (.cons (.same rfl) .nil) rfl) rfl ?_) | (refine zq 18 rfl ?_; refine zT rfl (by kernel_rfl) rfl (zK rfl a1 (.cons (.same rfl) .nil) rfl) rfl ?_) | (refine zp 66 ?_; refine za rfl (zK rfl a2 (.cons (.same rfl) (.cons (.same rfl) (.cons (.same rfl) .nil))) rfl) rfl ?_) | (refine zq 66 rfl ?_; refine zT rfl (by kernel_rfl) rfl (zK rfl a2 (.cons (.same rfl) (.cons (.same rfl) (.cons (.same rfl) .nil))) rfl) rfl ?_) | (refine zp 71 (x := #[.tmp 124, .tmp 126]) ?_; refine za rfl (zK rfl b1 (.cons (.same rfl) (.cons (.same rfl) (.cons (.same rfl) .nil))) rfl) rfl ?_) | (refine zq 71 (x := #[.tmp 124, .tmp 126]) rfl ?_; refine zT rfl (by kernel_rfl) rfl (zK rfl b1 (.cons (.same rfl) (.cons (.same rfl) (.cons (.same rfl) .nil))) rfl) rfl ?_) | (refine zp 71 ?_; refine za rfl (zK rfl b1 (.cons (.same rfl) (.cons (.same rfl) (.cons (.same rfl) .nil))) rfl) rfl ?_) | (refine zq 71 rfl ?_; refine zT rfl (by kernel_rfl) rfl (zK rfl b1 (.cons (.same rfl) (.cons (.same rfl) (.cons (.same rfl) .nil))) rfl) rfl ?_) | (refine zp 71 ?_; refine za rfl (zK rfl b2 (.cons (.same rfl) (.cons (.same rfl) (.cons (.same rfl) .nil))) rfl) rfl ?_) | (refine zq 71 rfl ?_; refine zT rfl (by kernel_rfl) rfl (zK rfl b2 (.cons (.same rfl) (.cons (.same rfl) (.cons (.same rfl) .nil))) rfl) rfl ?_) | (refine z7 (x := .tmp 173) ?_; refine za rfl (zz (t := rwT) (xs := [r]) (z := r) rfl rfl rfl rfl (Int.le_refl 0) hz1) rfl ?_) | (refine z6 (x := .tmp 173) rfl ?_; refine zT rfl (by kernel_rfl) rfl (zz (t := rwT) (xs := [r]) (z := r) rfl rfl rfl rfl (Int.le_refl 0) hz1) rfl ?_) | (refine z7 (x := .tmp 181) ?_; refine za rfl (zz (t := rwT) (xs := [r]) (z := r) rfl rfl rfl rfl (Int.le_refl 0) hz1) rfl ?_) | (refine z6 (x := .tmp 181) rfl ?_; refine zT rfl (by kernel_rfl) rfl (zz (t := rwT) (xs := [r]) (z := r) rfl rfl rfl rfl (Int.le_refl 0) hz1) rfl ?_) | (refine zp 67 ?_; refine za rfl (zK rfl (wI r) (.cons (.same rfl) .nil) rfl) rfl ?_) | (refine zq 67 rfl ?_; refine zT rfl (by kernel_rfl) rfl (zK rfl (wI r) (.cons (.same rfl) .nil) rfl) rfl ?_) | (refine isL ?_; refine vQ rfl (by kernel_rfl) rfl rfl ?_) | refine zD ?_ | refine zB _ rfl (by kernel_rfl) ?_ | refine zX rfl ?_ | refine zY rfl ?_ | refine zC ?_ | with_reducible refine zO ?_ | refine zI ?_ | refine zJ ?_ | (with_reducible first | refine zM ?_ | refine zN ?_ | refine zF ?_ | refine zH ?_ | refine zG ?_) | refine zP ?_
    exact ww (yP rfl rfl rfl rfl rfl) (.tup (.cons (.agg (by repeat' first | exact Purs.nil | refine Purs.cons ?_ ?_ | exact zy rfl | exact xS rfl rfl | exact zy (T := rwT) (x := []) rfl | exact Pur.nil | exact Pur.same rfl | exact wz (by assumption))) (.cons (.same rfl) (.cons (.same rfl) .nil))))
  · rw [hq] at b2
    have hle : decide (y8 r q ≤ 0) = true := decide_eq_true (h2 q hq)
    refine yi 4 27 [5, 6] Go.Proofs.Try.func14 rfl rfl rfl ?_
    simp only [Go.Proofs.Try.ntmps14, List.length_cons, List.length_nil, Nat.reduceAdd, Nat.reduceSub, List.replicate_succ, List.replicate_zero, List.cons_append, List.nil_append]
    repeat' first | (refine zj rfl (fun h => absurd (of_decide_eq_true h) (by simp only; decide)) (fun _ => ?_)) | (refine zj rfl (fun _ => ?_) (fun h => absurd (of_decide_eq_false h) (by simp only; decide))) | (refine isA ?_; refine za rfl (yR rfl rfl rfl rfl rfl) rfl ?_) | (refine zQ (id := 27) [6, 8] ?_) | (refine zQ (id := 28) [8] ?_) | (refine tn rfl ?_; refine zT rfl (by kernel_rfl) rfl (yR rfl rfl rfl rfl rfl) rfl ?_) | (refine xR rfl ?_; refine tm rfl (by kernel_rfl) rfl (yU (t := rwT) (xs := out) (ys := [r]) rfl rfl rfl rfl (.lst _ _) (by simp; omega) rfl) rfl ?_) | refine zL ?_ | refine zA ?_ | refine zQ [] ?_ | (refine isA ?_; refine zg rfl ?_) | (refine isL ?_; refine zW rfl (by kernel_rfl) rfl rfl ?_) | (refine zd rfl ?_; refine zV rfl (by kernel_rfl) rfl rfl ?_) | (refine zp 65 ?_; refine za rfl (z0 (r' := .agg (soP 2 ⟨inp, pos, heap, dfr, out, a :: b :: rest, i, k, 2, wr⟩)) (H' := bxS (soE ⟨inp, pos, heap, dfr, out, a :: b :: rest, i, k, 2, wr⟩) :: bxS zS :: soW ⟨inp, pos, heap, dfr, out, a :: b :: rest, i, k, 2, wr⟩) rfl ac (.cons (.same rfl) .nil) rfl (by simp only [List.map_cons, List.map_nil, shR, yA _ (yM (zE _ _))]; rfl)) rfl ?_) | (refine zq 65 rfl ?_; refine zT rfl (by kernel_rfl) rfl (z0 (r' := .agg (soP 2 ⟨inp, pos, heap, dfr, out, a :: b :: rest, i, k, 2, wr⟩)) (H' := bxS (soE ⟨inp, pos, heap, dfr, out, a :: b :: rest, i, k, 2, wr⟩) :: bxS zS :: soW ⟨inp, pos, heap, dfr, out, a :: b :: rest, i, k, 2, wr⟩) rfl ac (.cons (.same rfl) .nil) rfl (by simp only [List.map_cons, List.map_nil, shR, yA _ (yM (zE _ _))]; rfl)) rfl ?_) | (refine zp 18 ?_; refine za rfl (zK rfl a1 (.cons (.same rfl) .nil) rfl) rfl ?_) | (refine zq 18 rfl ?_; refine zT rfl (by kernel_rfl) rfl (zK rfl a1 (.cons (.same rfl) .nil) rfl) rfl ?_) | (refine zp 66 ?_; refine za rfl (zK rfl a2 (.cons (.same rfl) (.cons (.same rfl) (.cons (.same rfl) .nil))) rfl) rfl ?_) | (refine zq 66 rfl ?_; refine zT rfl (by kernel_rfl) rfl (zK rfl a2 (.cons (.same rfl) (.cons (.same rfl) (.cons (.same rfl) .nil))) rfl) rfl ?_) | (refine zp 71 (x := #[.tmp 124, .tmp 126]) ?_; refine za rfl (zK rfl b1 (.cons (.same rfl) (.cons (.same rfl) (.cons (.same rfl) .nil))) rfl) rfl ?_) | (refine zq 71 (x := #[.tmp 124, .tmp 126]) rfl ?_; refine zT rfl (by kernel_rfl) rfl (zK rfl b1 (.cons (.same rfl) (.cons (.same rfl) (.cons (.same rfl) .nil))) rfl) rfl ?_) | (refine zp 71 ?_; refine za rfl (zK rfl b1 (.cons (.same rfl) (.cons (.same rfl) (.cons (.same rfl) .nil))) rfl) rfl ?_) | (refine zq 71 rfl ?_; refine zT rfl (by kernel_rfl) rfl (zK rfl b1 (.cons (.same rfl) (.cons (.same rfl) (.cons (.same rfl) .nil))) rfl) rfl ?_) | (refine zp 71 ?_; refine za rfl (zK rfl b2 (.cons (.same rfl) (.cons (.same rfl) (.cons (.same rfl) .nil))) rfl) rfl ?_) | (refine zq 71 rfl ?_; refine zT rfl (by kernel_rfl) rfl (zK rfl b2 (.cons (.same rfl) (.cons (.same rfl) (.cons (.same rfl) .nil))) rfl) rfl ?_) | (refine z7 (x := .tmp 161) ?_; refine za rfl (zz (t := rwT) (xs := [r]) (z := r) rfl rfl rfl rfl (Int.le_refl 0) rfl) rfl ?_) | (refine z6 (x := .tmp 161) rfl ?_; refine zT rfl (by kernel_rfl) rfl (zz (t := rwT) (xs := [r]) (z := r) rfl rfl rfl rfl (Int.le_refl 0) rfl) rfl ?_) | (refine z7 (x := .tmp 164) ?_; refine za rfl (zz (t := rwT) (xs := [q]) (z := q) rfl rfl rfl rfl (Int.le_refl 0) rfl) rfl ?_) | (refine z6 (x := .tmp 164) rfl ?_; refine zT rfl (by kernel_rfl) rfl (zz (t := rwT) (xs := [q]) (z := q) rfl rfl rfl rfl (Int.le_refl 0) rfl) rfl ?_) | (refine zp 68 ?_; refine za rfl (zK rfl (xy r q) (.cons (.same rfl) (.cons (.same rfl) .nil)) rfl) rfl ?_) | (refine zq 68 rfl ?_; refine zT rfl (by kernel_rfl) rfl (zK rfl (xy r q) (.cons (.same rfl) (.cons (.same rfl) .nil)) rfl) rfl ?_) | (refine z7 (x := .tmp 173) ?_; refine za rfl (zz (t := rwT) (xs := [r]) (z := r) rfl rfl rfl rfl (Int.le_refl 0) hz1) rfl ?_) | (refine z6 (x := .tmp 173) rfl ?_; refine zT rfl (by kernel_rfl) rfl (zz (t := rwT) (xs := [r]) (z := r) rfl rfl rfl rfl (Int.le_refl 0) hz1) rfl ?_) | (refine z7 (x := .tmp 181) ?_; refine za rfl (zz (t := rwT) (xs := [r]) (z := r) rfl rfl rfl rfl (Int.le_refl 0) hz1) rfl ?_) | (refine z6 (x := .tmp 181) rfl ?_; refine zT rfl (by kernel_rfl) rfl (zz (t := rwT) (xs := [r]) (z := r) rfl rfl rfl rfl (Int.le_refl 0) hz1) rfl ?_) | (refine zp 67 ?_; refine za rfl (zK rfl (wI r) (.cons (.same rfl) .nil) rfl) rfl ?_) | (refine zq 67 rfl ?_; refine zT rfl (by kernel_rfl) rfl (zK rfl (wI r) (.cons (.same rfl) .nil) rfl) rfl ?_) | (refine isL ?_; refine vQ rfl (by kernel_rfl) rfl rfl ?_) | refine zD ?_ | refine zB _ rfl (by kernel_rfl) ?_ | refine zX rfl ?_ | refine zY rfl ?_ | refine zC ?_ | with_reducible refine zO ?_ | refine zI ?_ | refine zJ ?_ | (with_reducible first | refine zM ?_ | refine zN ?_ | refine zF ?_ | refine zH ?_ | refine zG ?_) | refine zP ?_
    refine zj rfl (fun _ => ?_) (fun h => absurd (hle.symm.trans h) (by decide))
    repeat' first | (refine isA ?_; refine za rfl (yR rfl rfl rfl rfl rfl) rfl ?_) | (refine zQ (id := 27) [6, 8] ?_) | (refine zQ (id := 28) [8] ?_) | (refine tn rfl ?_; refine zT rfl (by kernel_rfl) rfl (yR rfl rfl rfl rfl rfl) rfl ?_) | (refine xR rfl ?_; refine tm rfl (by kernel_rfl) rfl (yU (t := rwT) (xs := out) (ys := [r]) rfl rfl rfl rfl (.lst _ _) (by simp; omega) rfl) rfl ?_) | refine zL ?_ | refine zA ?_ | refine zQ [] ?_ | (refine isA ?_; refine zg rfl ?_) | (refine isL ?_; refine zW rfl (by kernel_rfl) rfl rfl ?_) | (refine zd rfl ?_; refine zV rfl (by kernel_rfl) rfl rfl ?_) | (refine z7 (x := .tmp 173) ?_; refine za rfl (zz (t := rwT) (xs := [r]) (z := r) rfl rfl rfl rfl (Int.le_refl 0) hz1) rfl ?_) | (refine z6 (x := .tmp 173) rfl ?_; refine zT rfl (by kernel_rfl) rfl (zz (t := rwT) (xs := [r]) (z := r) rfl rfl rfl rfl (Int.le_refl 0) hz1) rfl ?_) | (refine z7 (x := .tmp 181) ?_; refine za rfl (zz (t := rwT) (xs := [r]) (z := r) rfl rfl rfl rfl (Int.le_refl 0) hz1) rfl ?_) | (refine z6 (x := .tmp 181) rfl ?_; refine zT rfl (by kernel_rfl) rfl (zz (t := rwT) (xs := [r]) (z := r) rfl rfl rfl rfl (Int.le_refl 0) hz1) rfl ?_) | (refine zp 67 ?_; refine za rfl (zK rfl (wI r) (.cons (.same rfl) .nil) rfl) rfl ?_) | (refine zq 67 rfl ?_; refine zT rfl (by kernel_rfl) rfl (zK rfl (wI r) (.cons (.same rfl) .nil) rfl) rfl ?_) | (refine isL ?_; refine vQ rfl (by kernel_rfl) rfl rfl ?_) | refine zD ?_ | refine zB _ rfl (by kernel_rfl) ?_ | refine zX rfl ?_ | refine zY rfl ?_ | refine zC ?_ | with_reducible refine zO ?_ | refine zI ?_ | refine zJ ?_ | (with_reducible first | refine zM ?_ | refine zN ?_ | refine zF ?_ | refine zH ?_ | refine zG ?_) | refine zP ?_
    exact ww (yP rfl rfl rfl rfl rfl) (.tup (.cons (.agg (by repeat' first | exact Purs.nil | refine Purs.cons ?_ ?_ | exact zy rfl | exact xS rfl rfl | exact zy (T := rwT) (x := []) rfl | exact Pur.nil | exact Pur.same rfl | exact wz (by assumption))) (.cons (.same rfl) (.cons (.same rfl) .nil))))
theorem gz (inp heap dfr out : List Rw) (pos wr g : Int) (a b : Rn) (rest : List Rn) (i k : Nat) (r : Rw) (hok : okSo ⟨inp, pos, heap, dfr, out, a :: b :: rest, i, k, 2, wr⟩) (hv : vS ⟨inp, pos, heap, dfr, out, a :: b :: rest, i, k, 2, wr⟩ = true) (hg : inV g 8 60 = true) (h1 : b[k]? = some r) (hi : i ≤ a.length) (h2 : ∀ q, a[i]? = some q → ¬ leW q r) :
    zx Go.Proofs.Try.prog 14 [.agg (soE ⟨inp, pos, heap, dfr, out, a :: b :: rest, i, k, 2, wr⟩), I g] [] (.tup [.agg (soE (sV ⟨inp, pos, heap, dfr, out, a :: b :: rest, i, k, 2, wr⟩ r)), rwL [], B true]) [] true := by
  have g4 := hok.out
  have g6 := hok.tot
  simp only [tot, List.map_cons, List.sum_cons] at g4 g6
  have hlt := (List.getElem?_eq_some_iff.1 h1).1
  have ew : IntKind.i64.wrap ((k : Int) + 1) = (k : Int) + 1 := by rw [IntKind.wrap_i64]; omega
  have ac := xu _ hok
  have a1 := tL _ hok
  rw [hv] at a1
  have a2 := uB g 8 60
  rw [hg] at a2
  have b1 := wT (a :: b :: rest) 0 i hok.rn (by decide)
  have b2 := wT (a :: b :: rest) 1 k hok.rn (by decide)
  have e0 : wX (a :: b :: rest) 0 i = (a[i]?).toList := rfl
  have e1 : wX (a :: b :: rest) 1 k = (b[k]?).toList := rfl
  rw [e0] at b1
  rw [e1] at b2
  rw [h1] at b2
  have hz1 : ([r] : List Rw)[0]? = some r := rfl
  rcases hq : a[i]? with _ | q
  · rw [hq] at b1
    refine yi 4 27 [5, 6] Go.Proofs.Try.func14 rfl rfl rfl ?_
    simp only [Go.Proofs.Try.ntmps14, List.length_cons, List.length_nil, Nat.reduceAdd, Nat.reduceSub, List.replicate_succ, List.replicate_zero, List.cons_append, List.nil_append]
    repeat' first | (refine zj rfl (fun h => absurd (of_decide_eq_true h) (by simp only; decide)) (fun _ => ?_)) | (refine zj rfl (fun _ => ?_) (fun h => absurd (of_decide_eq_false h) (by simp only; decide))) | (refine isA ?_; refine za rfl (yR rfl rfl rfl rfl rfl) rfl ?_) | (refine zQ (id := 30) [6, 8] ?_) | (refine zQ (id := 31) [8] ?_) | (refine tn rfl ?_; refine zT rfl (by kernel_rfl) rfl (yR rfl rfl rfl rfl rfl) rfl ?_) | (refine xR rfl ?_; refine tm rfl (by kernel_rfl) rfl (yU (t := rwT) (xs := out) (ys := [r]) rfl rfl rfl rfl (.lst _ _) (by simp; omega) rfl) rfl ?_) | refine zL ?_ | refine zA ?_ | refine zQ [] ?_ | (refine isA ?_; refine zg rfl ?_) | (refine isL ?_; refine zW rfl (by kernel_rfl) rfl rfl ?_) | (refine zd rfl ?_; refine zV rfl (by kernel_rfl) rfl rfl ?_) | (refine zp 65 ?_; refine za rfl (z0 (r' := .agg (soP 2 ⟨inp, pos, heap, dfr, out, a :: b :: rest, i, k, 2, wr⟩)) (H' := bxS (soE ⟨inp, pos, heap, dfr, out, a :: b :: rest, i, k, 2, wr⟩) :: bxS zS :: soW ⟨inp, pos, heap, dfr, out, a :: b :: rest, i, k, 2, wr⟩) rfl ac (.cons (.same rfl) .nil) rfl (by simp only [List.map_cons, List.map_nil, shR, yA _ (yM (zE _ _))]; rfl)) rfl ?_) | (refine zq 65 rfl ?_; refine zT rfl (by kernel_rfl) rfl (z0 (r' := .agg (soP 2 ⟨inp, pos, heap, dfr, out, a :: b :: rest, i, k, 2, wr⟩)) (H' := bxS (soE ⟨inp, pos, heap, dfr, out, a :: b :: rest, i, k, 2, wr⟩) :: bxS zS :: soW ⟨inp, pos, heap, dfr, out, a :: b :: rest, i, k, 2, wr⟩) rfl ac (.cons (.same rfl) .nil) rfl (by simp only [List.map_cons, List.map_nil, shR, yA _ (yM (zE _ _))]; rfl)) rfl ?_) | (refine zp 18 ?_; refine za rfl (zK rfl a1 (.cons (.same rfl) .nil) rfl) rfl ?_) | (refine zq 18 rfl ?_; refine zT rfl (by kernel_rfl) rfl (zK rfl a1 (.cons (.same rfl) .nil) rfl) rfl ?_) | (refine zp 66 ?_; refine za rfl (zK rfl a2 (.cons (.same rfl) (.cons (.same rfl) (.cons (.same rfl) .nil))) rfl) rfl ?_) | (refine zq 66 rfl ?_; refine zT rfl (by kernel_rfl) rfl (zK rfl a2 (.cons (.same rfl) (.cons (.same rfl) (.cons (.same rfl) .nil))) rfl) rfl ?_) | (refine zp 71 (x := #[.tmp 124, .tmp 126]) ?_; refine za rfl (zK rfl b1 (.cons (.same rfl) (.cons (.same rfl) (.cons (.same rfl) .nil))) rfl) rfl ?_) | (refine zq 71 (x := #[.tmp 124, .tmp 126]) rfl ?_; refine zT rfl (by kernel_rfl) rfl (zK rfl b1 (.cons (.same rfl) (.cons (.same rfl) (.cons (.same rfl) .nil))) rfl) rfl ?_) | (refine zp 71 ?_; refine za rfl (zK rfl b1 (.cons (.same rfl) (.cons (.same rfl) (.cons (.same rfl) .nil))) rfl) rfl ?_) | (refine zq 71 rfl ?_; refine zT rfl (by kernel_rfl) rfl (zK rfl b1 (.cons (.same rfl) (.cons (.same rfl) (.cons (.same rfl) .nil))) rfl) rfl ?_) | (refine zp 71 ?_; refine za rfl (zK rfl b2 (.cons (.same rfl) (.cons (.same rfl) (.cons (.same rfl) .nil))) rfl) rfl ?_) | (refine zq 71 rfl ?_; refine zT rfl (by kernel_rfl) rfl (zK rfl b2 (.cons (.same rfl) (.cons (.same rfl) (.cons (.same rfl) .nil))) rfl) rfl ?_) | (refine z7 (x := .tmp 193) ?_; refine za rfl (zz (t := rwT) (xs := [r]) (z := r) rfl rfl rfl rfl (Int.le_refl 0) hz1) rfl ?_) | (refine z6 (x := .tmp 193) rfl ?_; refine zT rfl (by kernel_rfl) rfl (zz (t := rwT) (xs := [r]) (z := r) rfl rfl rfl rfl (Int.le_refl 0) hz1) rfl ?_) | (refine z7 (x := .tmp 201) ?_; refine za rfl (zz (t := rwT) (xs := [r]) (z := r) rfl rfl rfl rfl (Int.le_refl 0) hz1) rfl ?_) | (refine z6 (x := .tmp 201) rfl ?_; refine zT rfl (by kernel_rfl) rfl (zz (t := rwT) (xs := [r]) (z := r) rfl rfl rfl rfl (Int.le_refl 0) hz1) rfl ?_) | (refine zp 67 ?_; refine za rfl (zK rfl (wI r) (.cons (.same rfl) .nil) rfl) rfl ?_) | (refine zq 67 rfl ?_; refine zT rfl (by kernel_rfl) rfl (zK rfl (wI r) (.cons (.same rfl) .nil) rfl) rfl ?_) | (refine isL ?_; refine vQ rfl (by kernel_rfl) rfl rfl ?_) | refine zD ?_ | refine zB _ rfl (by kernel_rfl) ?_ | refine zX rfl ?_ | refine zY rfl ?_ | refine zC ?_ | with_reducible refine zO ?_ | refine zI ?_ | refine zJ ?_ | (with_reducible first | refine zM ?_ | refine zN ?_ | refine zF ?_ | refine zH ?_ | refine zG ?_) | refine zP ?_
    exact ww (yP rfl rfl rfl rfl rfl) (.tup (.cons (.agg (by repeat' first | exact Purs.nil | refine Purs.cons ?_ ?_ | exact zy rfl | exact xS rfl rfl | exact zy (T := rwT) (x := []) rfl | exact Pur.nil | exact Pur.same rfl | exact wz (by assumption))) (.cons (.same rfl) (.cons (.same rfl) .nil))))
  · rw [hq] at b1
    have hle : decide (y8 q r ≤ 0) = false := decide_eq_false (h2 q hq)
    refine yi 4 27 [5, 6] Go.Proofs.Try.func14 rfl rfl rfl ?_
    simp only [Go.Proofs.Try.ntmps14, List.length_cons, List.length_nil, Nat.reduceAdd, Nat.reduceSub, List.replicate_succ, List.replicate_zero, List.cons_append, List.nil_append]
    repeat' first | (refine zj rfl (fun h => absurd (of_decide_eq_true h) (by simp only; decide)) (fun _ => ?_)) | (refine zj rfl (fun _ => ?_) (fun h => absurd (of_decide_eq_false h) (by simp only; decide))) | (refine isA ?_; refine za rfl (yR rfl rfl rfl rfl rfl) rfl ?_) | (refine zQ (id := 30) [6, 8] ?_) | (refine zQ (id := 31) [8] ?_) | (refine tn rfl ?_; refine zT rfl (by kernel_rfl) rfl (yR rfl rfl rfl rfl rfl) rfl ?_) | (refine xR rfl ?_; refine tm rfl (by kernel_rfl) rfl (yU (t := rwT) (xs := out) (ys := [r]) rfl rfl rfl rfl (.lst _ _) (by simp; omega) rfl) rfl ?_) | refine zL ?_ | refine zA ?_ | refine zQ [] ?_ | (refine isA ?_; refine zg rfl ?_) | (refine isL ?_; refine zW rfl (by kernel_rfl) rfl rfl ?_) | (refine zd rfl ?_; refine zV rfl (by kernel_rfl) rfl rfl ?_) | (refine zp 65 ?_; refine za rfl (z0 (r' := .agg (soP 2 ⟨inp, pos, heap, dfr, out, a :: b :: rest, i, k, 2, wr⟩)) (H' := bxS (soE ⟨inp, pos, heap, dfr, out, a :: b :: rest, i, k, 2, wr⟩) :: bxS zS :: soW ⟨inp, pos, heap, dfr, out, a :: b :: rest, i, k, 2, wr⟩) rfl ac (.cons (.same rfl) .nil) rfl (by simp only [List.map_cons, List.map_nil, shR, yA _ (yM (zE _ _))]; rfl)) rfl ?_) | (refine zq 65 rfl ?_; refine zT rfl (by kernel_rfl) rfl (z0 (r' := .agg (soP 2 ⟨inp, pos, heap, dfr, out, a :: b :: rest, i, k, 2, wr⟩)) (H' := bxS (soE ⟨inp, pos, heap, dfr, out, a :: b :: rest, i, k, 2, wr⟩) :: bxS zS :: soW ⟨inp, pos, heap, dfr, out, a :: b :: rest, i, k, 2, wr⟩) rfl ac (.cons (.same rfl) .nil) rfl (by simp only [List.map_cons, List.map_nil, shR, yA _ (yM (zE _ _))]; rfl)) rfl ?_) | (refine zp 18 ?_; refine za rfl (zK rfl a1 (.cons (.same rfl) .nil) rfl) rfl ?_) | (refine zq 18 rfl ?_; refine zT rfl (by kernel_rfl) rfl (zK rfl a1 (.cons (.same rfl) .nil) rfl) rfl ?_) | (refine zp 66 ?_; refine za rfl (zK rfl a2 (.cons (.same rfl) (.cons (.same rfl) (.cons (.same rfl) .nil))) rfl) rfl ?_) | (refine zq 66 rfl ?_; refine zT rfl (by kernel_rfl) rfl (zK rfl a2 (.cons (.same rfl) (.cons (.same rfl) (.cons (.same rfl) .nil))) rfl) rfl ?_) | (refine zp 71 (x := #[.tmp 124, .tmp 126]) ?_; refine za rfl (zK rfl b1 (.cons (.same rfl) (.cons (.same rfl) (.cons (.same rfl) .nil))) rfl) rfl ?_) | (refine zq 71 (x := #[.tmp 124, .tmp 126]) rfl ?_; refine zT rfl (by kernel_rfl) rfl (zK rfl b1 (.cons (.same rfl) (.cons (.same rfl) (.cons (.same rfl) .nil))) rfl) rfl ?_) | (refine zp 71 ?_; refine za rfl (zK rfl b1 (.cons (.same rfl) (.cons (.same rfl) (.cons (.same rfl) .nil))) rfl) rfl ?_) | (refine zq 71 rfl ?_; refine zT rfl (by kernel_rfl) rfl (zK rfl b1 (.cons (.same rfl) (.cons (.same rfl) (.cons (.same rfl) .nil))) rfl) rfl ?_) | (refine zp 71 ?_; refine za rfl (zK rfl b2 (.cons (.same rfl) (.cons (.same rfl) (.cons (.same rfl) .nil))) rfl) rfl ?_) | (refine zq 71 rfl ?_; refine zT rfl (by kernel_rfl) rfl (zK rfl b2 (.cons (.same rfl) (.cons (.same rfl) (.cons (.same rfl) .nil))) rfl) rfl ?_) | (refine z7 (x := .tmp 161) ?_; refine za rfl (zz (t := rwT) (xs := [q]) (z := q) rfl rfl rfl rfl (Int.le_refl 0) rfl) rfl ?_) | (refine z6 (x := .tmp 161) rfl ?_; refine zT rfl (by kernel_rfl) rfl (zz (t := rwT) (xs := [q]) (z := q) rfl rfl rfl rfl (Int.le_refl 0) rfl) rfl ?_) | (refine z7 (x := .tmp 164) ?_; refine za rfl (zz (t := rwT) (xs := [r]) (z := r) rfl rfl rfl rfl (Int.le_refl 0) rfl) rfl ?_) | (refine z6 (x := .tmp 164) rfl ?_; refine zT rfl (by kernel_rfl) rfl (zz (t := rwT) (xs := [r]) (z := r) rfl rfl rfl rfl (Int.le_refl 0) rfl) rfl ?_) | (refine zp 68 ?_; refine za rfl (zK rfl (xy q r) (.cons (.same rfl) (.cons (.same rfl) .nil)) rfl) rfl ?_) | (refine zq 68 rfl ?_; refine zT rfl (by kernel_rfl) rfl (zK rfl (xy q r) (.cons (.same rfl) (.cons (.same rfl) .nil)) rfl) rfl ?_) | (refine z7 (x := .tmp 193) ?_; refine za rfl (zz (t := rwT) (xs := [r]) (z := r) rfl rfl rfl rfl (Int.le_refl 0) hz1) rfl ?_) | (refine z6 (x := .tmp 193) rfl ?_; refine zT rfl (by kernel_rfl) rfl (zz (t := rwT) (xs := [r]) (z := r) rfl rfl rfl rfl (Int.le_refl 0) hz1) rfl ?_) | (refine z7 (x := .tmp 201) ?_; refine za rfl (zz (t := rwT) (xs := [r]) (z := r) rfl rfl rfl rfl (Int.le_refl 0) hz1) rfl ?_) | (refine z6 (x := .tmp 201) rfl ?_; refine zT rfl (by kernel_rfl) rfl (zz (t := rwT) (xs := [r]) (z := r) rfl rfl rfl rfl (Int.le_refl 0) hz1) rfl ?_) | (refine zp 67 ?_; refine za rfl (zK rfl (wI r) (.cons (.same rfl) .nil) rfl) rfl ?_) | (refine zq 67 rfl ?_; refine zT rfl (by kernel_rfl) rfl (zK rfl (wI r) (.cons (.same rfl) .nil) rfl) rfl ?_) | (refine isL ?_; refine vQ rfl (by kernel_rfl) rfl rfl ?_) | refine zD ?_ | refine zB _ rfl (by kernel_rfl) ?_ | refine zX rfl ?_ | refine zY rfl ?_ | refine zC ?_ | with_reducible refine zO ?_ | refine zI ?_ | refine zJ ?_ | (with_reducible first | refine zM ?_ | refine zN ?_ | refine zF ?_ | refine zH ?_ | refine zG ?_) | refine zP ?_
    refine zj rfl (fun h => absurd (hle.symm.trans h) (by decide)) (fun _ => ?_)
    repeat' first | (refine isA ?_; refine za rfl (yR rfl rfl rfl rfl rfl) rfl ?_) | (refine zQ (id := 30) [6, 8] ?_) | (refine zQ (id := 31) [8] ?_) | (refine tn rfl ?_; refine zT rfl (by kernel_rfl) rfl (yR rfl rfl rfl rfl rfl) rfl ?_) | (refine xR rfl ?_; refine tm rfl (by kernel_rfl) rfl (yU (t := rwT) (xs := out) (ys := [r]) rfl rfl rfl rfl (.lst _ _) (by simp; omega) rfl) rfl ?_) | refine zL ?_ | refine zA ?_ | refine zQ [] ?_ | (refine isA ?_; refine zg rfl ?_) | (refine isL ?_; refine zW rfl (by kernel_rfl) rfl rfl ?_) | (refine zd rfl ?_; refine zV rfl (by kernel_rfl) rfl rfl ?_) | (refine z7 (x := .tmp 193) ?_; refine za rfl (zz (t := rwT) (xs := [r]) (z := r) rfl rfl rfl rfl (Int.le_refl 0) hz1) rfl ?_) | (refine z6 (x := .tmp 193) rfl ?_; refine zT rfl (by kernel_rfl) rfl (zz (t := rwT) (xs := [r]) (z := r) rfl rfl rfl rfl (Int.le_refl 0) hz1) rfl ?_) | (refine z7 (x := .tmp 201) ?_; refine za rfl (zz (t := rwT) (xs := [r]) (z := r) rfl rfl rfl rfl (Int.le_refl 0) hz1) rfl ?_) | (refine z6 (x := .tmp 201) rfl ?_; refine zT rfl (by kernel_rfl) rfl (zz (t := rwT) (xs := [r]) (z := r) rfl rfl rfl rfl (Int.le_refl 0) hz1) rfl ?_) | (refine zp 67 ?_; refine za rfl (zK rfl (wI r) (.cons (.same rfl) .nil) rfl) rfl ?_) | (refine zq 67 rfl ?_; refine zT rfl (by kernel_rfl) rfl (zK rfl (wI r) (.cons (.same rfl) .nil) rfl) rfl ?_) | (refine isL ?_; refine vQ rfl (by kernel_rfl) rfl rfl ?_) | refine zD ?_ | refine zB _ rfl (by kernel_rfl) ?_ | refine zX rfl ?_ | refine zY rfl ?_ | refine zC ?_ | with_reducible refine zO ?_ | refine zI ?_ | refine zJ ?_ | (with_reducible first | refine zM ?_ | refine zN ?_ | refine zF ?_ | refine zH ?_ | refine zG ?_) | refine zP ?_
    exact ww (yP rfl rfl rfl rfl rfl) (.tup (.cons (.agg (by repeat' first | exact Purs.nil | refine Purs.cons ?_ ?_ | exact zy rfl | exact xS rfl rfl | exact zy (T := rwT) (x := []) rfl | exact Pur.nil | exact Pur.same rfl | exact wz (by assumption))) (.cons (.same rfl) (.cons (.same rfl) .nil))))
end Go.Proofs.Ytojcojanokhnaaa.Ab
namespace Go.Proofs.Ytojcojanokhnaaa.Ab
open Go.RowKit
theorem ek (inp heap dfr out : List Rw) (pos wr rp g : Int) (a : Rn) (i : Nat) (r : Rw) (hok : okSo ⟨inp, pos, heap, dfr, out, [a], i, rp, 3, wr⟩) (hv : vS ⟨inp, pos, heap, dfr, out, [a], i, rp, 3, wr⟩ = true) (hg : inV g 8 60 = true) (h1 : a[i]? = some r) :
    zx Go.Proofs.Try.prog 14 [.agg (soE ⟨inp, pos, heap, dfr, out, [a], i, rp, 3, wr⟩), I g] [] (.tup [.agg (soE (vu ⟨inp, pos, heap, dfr, out, [a], i, rp, 3, wr⟩)), rwL [r], B true]) [] true := by
  have g4 := hok.out
  have g6 := hok.tot
  simp only [tot, List.map_cons, List.sum_cons] at g4 g6
  have hlt := (List.getElem?_eq_some_iff.1 h1).1
  have ew : IntKind.i64.wrap ((i : Int) + 1) = (i : Int) + 1 := by rw [IntKind.wrap_i64]; omega
  have ac := xu _ hok
  have a1 := tL _ hok
  rw [hv] at a1
  have a2 := uB g 8 60
  rw [hg] at a2
  have hz0 : ([a] : List Rn)[0]? = some a := rfl
  refine yi 4 27 [5, 6] Go.Proofs.Try.func14 rfl rfl rfl ?_
  simp only [Go.Proofs.Try.ntmps14, List.length_cons, List.length_nil, Nat.reduceAdd, Nat.reduceSub, List.replicate_succ, List.replicate_zero, List.cons_append, List.nil_append]
  repeat' first | (refine zj rfl (fun h => absurd (of_decide_eq_true h) (by simp only; decide)) (fun _ => ?_)) | refine zL ?_ | refine zA ?_ | refine zQ [] ?_ | (refine isA ?_; refine zg rfl ?_) | (refine isL ?_; refine zW rfl (by kernel_rfl) rfl rfl ?_) | (refine zd rfl ?_; refine zV rfl (by kernel_rfl) rfl rfl ?_) | (refine zp 65 ?_; refine za rfl (z0 (r' := .agg (soP 2 ⟨inp, pos, heap, dfr, out, [a], i, rp, 3, wr⟩)) (H' := bxS (soE ⟨inp, pos, heap, dfr, out, [a], i, rp, 3, wr⟩) :: bxS zS :: soW ⟨inp, pos, heap, dfr, out, [a], i, rp, 3, wr⟩) rfl ac (.cons (.same rfl) .nil) rfl (by simp only [List.map_cons, List.map_nil, shR, yA _ (yM (zE _ _))]; rfl)) rfl ?_) | (refine zq 65 rfl ?_; refine zT rfl (by kernel_rfl) rfl (z0 (r' := .agg (soP 2 ⟨inp, pos, heap, dfr, out, [a], i, rp, 3, wr⟩)) (H' := bxS (soE ⟨inp, pos, heap, dfr, out, [a], i, rp, 3, wr⟩) :: bxS zS :: soW ⟨inp, pos, heap, dfr, out, [a], i, rp, 3, wr⟩) rfl ac (.cons (.same rfl) .nil) rfl (by simp only [List.map_cons, List.map_nil, shR, yA _ (yM (zE _ _))]; rfl)) rfl ?_) | (refine zp 18 ?_; refine za rfl (zK rfl a1 (.cons (.same rfl) .nil) rfl) rfl ?_) | (refine zq 18 rfl ?_; refine zT rfl (by kernel_rfl) rfl (zK rfl a1 (.cons (.same rfl) .nil) rfl) rfl ?_) | (refine zp 66 ?_; refine za rfl (zK rfl a2 (.cons (.same rfl) (.cons (.same rfl) (.cons (.same rfl) .nil))) rfl) rfl ?_) | (refine zq 66 rfl ?_; refine zT rfl (by kernel_rfl) rfl (zK rfl a2 (.cons (.same rfl) (.cons (.same rfl) (.cons (.same rfl) .nil))) rfl) rfl ?_) | refine zD ?_ | refine zB _ rfl (by kernel_rfl) ?_ | refine zX rfl ?_ | refine zY rfl ?_ | refine zC ?_ | with_reducible refine zO ?_ | refine zI ?_ | refine zJ ?_ | (with_reducible first | refine zM ?_ | refine zN ?_ | refine zF ?_ | refine zH ?_ | refine zG ?_) | refine zP ?_
  refine zj rfl (fun h => ?_) (fun h => ?_)
  · have e : vu ⟨inp, pos, heap, dfr, out, [a], (i : Int), rp, 3, wr⟩ = ⟨inp, pos, heap, dfr, out, [a], (i : Int) + 1, rp, 4, wr⟩ := by
      have h' : decide ((i : Int) + 1 = (inp.length : Int)) = true := by rw [← ew]; exact h
      simp only [vu, h', cond_true]
    rw [e]
    repeat' first | refine zL ?_ | refine zA ?_ | (refine isA ?_; refine zg rfl ?_) | (refine isL ?_; refine zW rfl (by kernel_rfl) rfl rfl ?_) | (refine zd rfl ?_; refine zV rfl (by kernel_rfl) rfl rfl ?_) | refine zD ?_ | refine zB _ rfl (by kernel_rfl) ?_ | refine zX rfl ?_ | refine zY rfl ?_ | refine zC ?_ | with_reducible refine zO ?_ | refine zI ?_ | refine zJ ?_ | (with_reducible first | refine zM ?_ | refine zN ?_ | refine zF ?_ | refine zH ?_ | refine zG ?_) | refine zP ?_
    refine nO 0 7 14 rfl ?_
    refine xF 0 ⟨rfl, rfl⟩ rfl (by kernel_rfl) rfl (fun H hG => fv rfl rfl (hG.2.trans rfl) rfl rfl rfl) rfl ?_
    refine yQ 1 ⟨rfl, rfl⟩ rfl (by kernel_rfl) rfl (fun _ => rfl) rfl ?_
    refine xF 2 ⟨rfl, rfl⟩ rfl (by kernel_rfl) rfl (fun H hG => xE rfl rfl (hG.1.trans rfl) rfl rfl) rfl ?_
    refine xF 3 ⟨rfl, rfl⟩ rfl (by kernel_rfl) rfl (fun H hG => zz (t := rnT) (xs := [a]) (z := a) rfl rfl rfl rfl (Int.le_refl 0) hz0) rfl ?_
    refine yQ 4 ⟨rfl, rfl⟩ rfl (by kernel_rfl) rfl (fun _ => rfl) rfl ?_
    refine yQ 5 ⟨rfl, rfl⟩ rfl (by kernel_rfl) rfl (fun _ => rfl) rfl ?_
    refine yQ 6 ⟨rfl, rfl⟩ rfl (by kernel_rfl) rfl (fun _ => rfl) rfl ?_
    refine xF 7 ⟨rfl, rfl⟩ rfl (by kernel_rfl) rfl (fun H hG => xE rfl rfl (hG.1.trans rfl) rfl rfl) rfl ?_
    refine xF 8 ⟨rfl, rfl⟩ rfl (by kernel_rfl) rfl (fun H hG => zz (t := rwT) (xs := a) (z := r) rfl rfl rfl rfl (Int.natCast_nonneg i) h1) rfl ?_
    refine yQ 9 ⟨rfl, rfl⟩ rfl (by kernel_rfl) rfl (fun _ => rfl) rfl ?_
    refine xF 10 ⟨rfl, rfl⟩ rfl (by kernel_rfl) rfl (fun H hG => yR (cs := rwE r) rfl rfl rfl rfl rfl) rfl ?_
    refine wY 11 (by kernel_rfl) ?_
    refine sq rfl rfl (sK (m := 0) (T := tab) TabC.ok rfl rfl rfl rfl rfl rfl rfl rfl rfl rfl) ⟨rfl, rfl⟩ rfl ?_
    refine yQ 12 ⟨rfl, rfl⟩ rfl (by kernel_rfl) rfl (fun _ => rfl) rfl ?_
    refine yQ 13 ⟨rfl, rfl⟩ rfl (by kernel_rfl) rfl (fun _ => rfl) rfl ?_
    refine w8 (by kernel_rfl) ?_
    repeat' first | refine zL ?_ | refine zA ?_ | refine zQ [] ?_ | (refine isA ?_; refine zg rfl ?_) | (refine isL ?_; refine zW rfl (by kernel_rfl) rfl rfl ?_) | (refine zd rfl ?_; refine zV rfl (by kernel_rfl) rfl rfl ?_) | refine zD ?_ | refine zB _ rfl (by kernel_rfl) ?_ | refine zX rfl ?_ | refine zY rfl ?_ | refine zC ?_ | with_reducible refine zO ?_ | refine zI ?_ | refine zJ ?_ | (with_reducible first | refine zM ?_ | refine zN ?_ | refine zF ?_ | refine zH ?_ | refine zG ?_) | refine zP ?_
    exact ww (yP rfl rfl rfl rfl rfl) (.tup (.cons (.agg (by repeat' first | exact Purs.nil | refine Purs.cons ?_ ?_ | exact zy rfl | exact xS rfl rfl | exact zy (T := rwT) (x := []) rfl | exact Pur.nil | exact Pur.same rfl | exact wz (by assumption))) (.cons (.same rfl) (.cons (.same rfl) .nil))))
  · have e : vu ⟨inp, pos, heap, dfr, out, [a], (i : Int), rp, 3, wr⟩ = ⟨inp, pos, heap, dfr, out, [a], (i : Int) + 1, rp, 3, wr⟩ := by
      have h' : decide ((i : Int) + 1 = (inp.length : Int)) = false := by rw [← ew]; exact h
      simp only [vu, h', cond_false]
    rw [e]
    repeat' first | refine zL ?_ | refine zA ?_ | (refine isA ?_; refine zg rfl ?_) | (refine isL ?_; refine zW rfl (by kernel_rfl) rfl rfl ?_) | (refine zd rfl ?_; refine zV rfl (by kernel_rfl) rfl rfl ?_) | refine zD ?_ | refine zB _ rfl (by kernel_rfl) ?_ | refine zX rfl ?_ | refine zY rfl ?_ | refine zC ?_ | with_reducible refine zO ?_ | refine zI ?_ | refine zJ ?_ | (with_reducible first | refine zM ?_ | refine zN ?_ | refine zF ?_ | refine zH ?_ | refine zG ?_) | refine zP ?_
    refine nO 0 7 14 rfl ?_
    refine xF 0 ⟨rfl, rfl⟩ rfl (by kernel_rfl) rfl (fun H hG => fv rfl rfl (hG.2.trans rfl) rfl rfl rfl) rfl ?_
    refine yQ 1 ⟨rfl, rfl⟩ rfl (by kernel_rfl) rfl (fun _ => rfl) rfl ?_
    refine xF 2 ⟨rfl, rfl⟩ rfl (by kernel_rfl) rfl (fun H hG => xE rfl rfl (hG.1.trans rfl) rfl rfl) rfl ?_
    refine xF 3 ⟨rfl, rfl⟩ rfl (by kernel_rfl) rfl (fun H hG => zz (t := rnT) (xs := [a]) (z := a) rfl rfl rfl rfl (Int.le_refl 0) hz0) rfl ?_
    refine yQ 4 ⟨rfl, rfl⟩ rfl (by kernel_rfl) rfl (fun _ => rfl) rfl ?_
    refine yQ 5 ⟨rfl, rfl⟩ rfl (by kernel_rfl) rfl (fun _ => rfl) rfl ?_
    refine yQ 6 ⟨rfl, rfl⟩ rfl (by kernel_rfl) rfl (fun _ => rfl) rfl ?_
    refine xF 7 ⟨rfl, rfl⟩ rfl (by kernel_rfl) rfl (fun H hG => xE rfl rfl (hG.1.trans rfl) rfl rfl) rfl ?_
    refine xF 8 ⟨rfl, rfl⟩ rfl (by kernel_rfl) rfl (fun H hG => zz (t := rwT) (xs := a) (z := r) rfl rfl rfl rfl (Int.natCast_nonneg i) h1) rfl ?_
    refine yQ 9 ⟨rfl, rfl⟩ rfl (by kernel_rfl) rfl (fun _ => rfl) rfl ?_
    refine xF 10 ⟨rfl, rfl⟩ rfl (by kernel_rfl) rfl (fun H hG => yR (cs := rwE r) rfl rfl rfl rfl rfl) rfl ?_
    refine wY 11 (by kernel_rfl) ?_
    refine sq rfl rfl (sK (m := 0) (T := tab) TabC.ok rfl rfl rfl rfl rfl rfl rfl rfl rfl rfl) ⟨rfl, rfl⟩ rfl ?_
    refine yQ 12 ⟨rfl, rfl⟩ rfl (by kernel_rfl) rfl (fun _ => rfl) rfl ?_
    refine yQ 13 ⟨rfl, rfl⟩ rfl (by kernel_rfl) rfl (fun _ => rfl) rfl ?_
    refine w8 (by kernel_rfl) ?_
    repeat' first | refine zL ?_ | refine zA ?_ | refine zQ [] ?_ | (refine isA ?_; refine zg rfl ?_) | (refine isL ?_; refine zW rfl (by kernel_rfl) rfl rfl ?_) | (refine zd rfl ?_; refine zV rfl (by kernel_rfl) rfl rfl ?_) | refine zD ?_ | refine zB _ rfl (by kernel_rfl) ?_ | refine zX rfl ?_ | refine zY rfl ?_ | refine zC ?_ | with_reducible refine zO ?_ | refine zI ?_ | refine zJ ?_ | (with_reducible first | refine zM ?_ | refine zN ?_ | refine zF ?_ | refine zH ?_ | refine zG ?_) | refine zP ?_
    exact ww (yP rfl rfl rfl rfl rfl) (.tup (.cons (.agg (by repeat' first | exact Purs.nil | refine Purs.cons ?_ ?_ | exact zy rfl | exact xS rfl rfl | exact zy (T := rwT) (x := []) rfl | exact Pur.nil | exact Pur.same rfl | exact wz (by assumption))) (.cons (.same rfl) (.cons (.same rfl) .nil))))
end Go.Proofs.Ytojcojanokhnaaa.Ab
namespace Go.Proofs.Ytojcojanokhnaaa.Ab
open Go.RowKit
section
variable {P : Program} {md : Region.Mode} {ops : Array Oper} {s : Nat} {G : List Reg → Prop} {Q : Exit → St → Prop}
theorem pD {i : Nat} {oi : Oper} {v : V} (hi : ops[i]? = some oi) (hne : i ≠ s) (fu : Nat) (hed : Region.reachB md ops i fu s = true) :
    ∀ (n : Nat) (listed : Array Bool) (S : St), G S.H → listed.getD s true = false → xA md ops listed →
      (∀ j oj, ops[j]? = some oj → j ≠ i → listed.getD j true = false → (∀ e ∈ oj.after, Region.binds md e = true → e.on ≠ i) → oi.apart ops oj = true) →
      i ∈ Region.ready md ops listed → vH P ops G oi v S →
      uE P md ops s G Q n (listed.setIfInBounds i true) (S.put oi.dst v S.H) → uE P md ops s G Q (n + 1) listed S := by
  intro n
  induction n with
  | zero =>
    intro listed S hG hB hC _ hr hy H
    refine ⟨fun h => (by rw [h] at hr; cases hr), fun j hj => ?_⟩
    by_cases hji : j = i
    · subst hji
      unfold tR
      rw [hi]
      rcases hy with ⟨h1, h2⟩ | ⟨h1, rfl⟩
      · exact Or.inl ⟨h1, _, .of (h2 _ hG), fun v1 H1 hp hb => by obtain ⟨_, rfl⟩ := hp; exact hG, fun v1 H1 hp => by obtain ⟨rfl, rfl⟩ := hp; exact H⟩
      · exact Or.inr ⟨h1, H⟩
    · have := ready_mono hj hji
      rw [H.1] at this
      cases this
  | succ n ih =>
    intro listed S hG hB hC hfree hr hy H
    refine ⟨fun h => (by rw [h] at hr; cases hr), fun j hj => ?_⟩
    by_cases hji : j = i
    · subst hji
      unfold tR
      rw [hi]
      rcases hy with ⟨h1, h2⟩ | ⟨h1, rfl⟩
      · exact Or.inl ⟨h1, _, .of (h2 _ hG), fun v1 H1 hp hb => by obtain ⟨_, rfl⟩ := hp; exact hG, fun v1 H1 hp => by obtain ⟨rfl, rfl⟩ := hp; exact H⟩
      · exact Or.inr ⟨h1, H⟩
    · have h1 := H.2 j (ready_mono hj hji)
      obtain ⟨hjun, oj, hoj, hall⟩ := mem_ready.1 hj
      have hiun := (mem_ready.1 hr).1
      have hnot : ∀ e ∈ oj.after, Region.binds md e = true → e.on ≠ i := fun e he hb heq => by
        have h1 := hall e he hb
        rw [heq] at h1
        rcases Nat.lt_or_ge i listed.size with h' | h'
        · simp [h'] at hiun h1; rw [hiun] at h1; cases h1
        · simp [Array.getElem?_eq_none h'] at h1
      have hjs : j ≠ s := fun hjs => by
        subst hjs
        exact Region.reach_not_ready hC hed hiun hj
      have hfree' : ∀ k ok, ops[k]? = some ok → k ≠ i → (listed.setIfInBounds j true).getD k true = false →
          (∀ e ∈ ok.after, Region.binds md e = true → e.on ≠ i) → oi.apart ops ok = true := fun k ok hk hki hun hno => by
        refine hfree k ok hk hki ?_ hno
        by_cases hjk : j = k
        · subst hjk; exact hjun
        · rw [getD_set_ne true hjk] at hun; exact hun
      have hb2 : ((listed.setIfInBounds i true).setIfInBounds j true).getD s true = (listed.setIfInBounds j true).getD s true := by
        rw [Array.setIfInBounds_comm _ _ (Ne.symm hji), xb hne]
      have hBj : (listed.setIfInBounds j true).getD s true = false := by rw [xb hjs]; exact hB
      obtain ⟨p1, p2, p3⟩ := Oper.apart_spec (hfree j oj hoj hji hjun hnot)
      have key : ∀ (u : V) (H' : List Reg), G H' → uE P md ops s G Q n ((listed.setIfInBounds j true).setIfInBounds i true) ((S.put oj.dst u H').put oi.dst v H') → uE P md ops s G Q (n + 1) (listed.setIfInBounds j true) (S.put oj.dst u H') := fun u H' hGH hk => by
        refine ih (listed.setIfInBounds j true) (S.put oj.dst u H') (by rw [xv]; exact hGH) hBj (hC.set hj) hfree' (ready_mono hr (Ne.symm hji)) (hy.keep p3) ?_
        rw [xv]
        exact hk
      unfold tR at h1 ⊢
      rw [hoj] at h1 ⊢
      simp only at h1 ⊢
      rw [w7 p1, xv] at h1
      rcases h1 with ⟨hw, post, hs, hH, hk⟩ | ⟨hw, hk⟩
      · rw [hb2] at hH
        refine Or.inl ⟨hw, post, hs.congr (fun x hx => (xo p1 x hx).symm), hH, fun u H' hp => key u H' (hH u H' hp hBj) ?_⟩
        rw [Array.setIfInBounds_comm _ _ hji, ← wt v u S.H H' p2]
        exact hk u H' hp
      · refine Or.inr ⟨hw, key (.k undef) S.H hG ?_⟩
        rw [Array.setIfInBounds_comm _ _ hji, ← wt v (.k undef) S.H S.H p2]
        exact hk
end
section
variable {P : Program} {T : Tab} {ops : Array Oper} {s : Nat} {G : List Reg → Prop} {Q : Exit → St → Prop} {l l' : List V} {H H' K : List Reg} {m : Nat} {o : Oper} {d : List Nat} {n : Nat}
def eK (ops : Array Oper) (d : List Nat) (s i : Nat) : Bool := !((mkL ops.size d).getD s true) && Region.reachB .any ops i ops.size s && Region.closedB .any ops (mkL ops.size d) && !(i == s)
theorem nj (i : Nat) {v : V} (hG : G H) (he : eK ops d s i = true) (ho : ops[i]? = some o) (hc : u5 ops d i = true) (hw : yZ ops ⟨l, H, m⟩ o = some true) (hs : ∀ H, G H → z4 P o (St.ev ⟨l, H, m⟩) H v H) (hp : vE l H o.dst v = some (l', K)) (hk : APerS P ops s G (i :: d) n Q ⟨l', K, m⟩) : APerS P ops s G d (n + 1) Q ⟨l, H, m⟩ := by
  simp only [u5, Bool.and_eq_true] at hc
  simp only [eK, Bool.and_eq_true, Bool.not_eq_true'] at he
  obtain ⟨⟨⟨e1, e2⟩, e3⟩, e4⟩ := he
  refine ⟨pD ho (by simpa using e4) _ e2 n _ _ hG e1 (Region.closedB_spec e3) (Region.free_spec ho hc.1) (by simpa using hc.2) (Or.inl ⟨hw, hs⟩) ?_⟩
  rw [show (⟨l, H, m⟩ : St).put o.dst v (⟨l, H, m⟩ : St).H = ⟨l', K, m⟩ from y0 hp m]
  exact hk.out
end
end Go.Proofs.Ytojcojanokhnaaa.Ab
namespace Go.Proofs.Ytojcojanokhnaaa.Ab
open Go.RowKit
section
variable {P : Program} {o : Oper} {ρ : Operand → V} {H : List Reg}
theorem pN {post : V → List Reg → Prop}
    (h : ∀ (C : Cx) (A : Nat → Prop) (φ : List Hd) (a : Act) (w : World), InvA C A φ H w → (∀ x ∈ o.op.operands, Rel A w φ (ρ x) (a.eval x)) →
      ∃ v H' x w' A' φ', post v H' ∧ (execOp a.eval o).run P w = .ok (.value x) w' ∧ InvA C A' φ' H' w' ∧ (∀ b, A b → A' b ∧ w'.heap[b]? = w.heap[b]?) ∧ (∀ (h : Nat) (hd : Hd), φ[h]? = some hd → φ'[h]? = some hd) ∧ Rel A' w' φ' v x) : wU P o ρ H post := by
  intro S hS hρ C φ a w hI next Q hn
  obtain ⟨hm, ⟨A, hA, hr⟩, hs, hd⟩ := hI
  subst hS
  obtain ⟨v, H', x, w', A', φ', h0, h1, h2, h3, h4, h5⟩ := h C A φ a w hA (fun y hy => by rw [← hρ y hy]; exact wS hr y)
  have h6 : zv A' w' φ' S.tmps (fun i => a.tmps[i]?) := zv.mono h3 h4 hr
  obtain ⟨h7, h8⟩ := wP (H := H') hs h6 h5 o.dst
  unfold Oper.wp
  rw [h1]
  refine hn v H' x w' φ' h0 ⟨by cases o.dst <;> exact hm, ⟨A', ?_, h7⟩, h8, by cases o.dst <;> exact hd⟩
  have : (S.put o.dst v H').H = H' := by cases o.dst <;> rfl
  rw [this]
  exact h2
theorem uT (w : World) (t ty e : TypeId) (i : TypeInfo) (ht : P.underlying t = some (.slice e)) (hi : P.info? e = some i)
    (g off sLen sCap : Nat) (cur : Array Value) (hg : w.heap[g]? = some (.cells cur e (0, 0)))
    (a : Addr) (m c : Nat) (news : List Value) (hl : news.length = m * i.size) (hnews : ∀ j u, news[j]? = some u → w.cell? (a.add j) = some u) (h1 : ∀ u ∈ news, u.oneCell' = true)
    (hroom : sLen + m ≤ sCap) (hfit : off + sLen * i.size + news.length ≤ cur.size) :
    (Builtin.append_ #[t, t] ty #[.slice (some ⟨g, off, none⟩) sLen sCap, .slice (some a) m c]).run P w =
      .ok (.slice (some ⟨g, off, none⟩) (sLen + m) sCap) (w.setRow g (cur.toList.take (off + sLen * i.size) ++ news ++ cur.toList.drop (off + sLen * i.size + news.length)).toArray) := by
  have hf := run_firstCells_some (P := P) w i.size m a m c news hl hnews
  have hst := run_storeCells_at P g (off + sLen * i.size) e news 0 cur w hg (by simpa using hfit) h1
  simp only [Nat.add_zero] at hst
  simp [Builtin.append_, run_underlying ht, sizeOf, typeInfo, hi, Builtin.lenOf, hroom, hf, Addr.add_lit, hst]
def dW (H : List Reg) (h off k m n : Nat) (e : TypeId) (r : Reg) (src : List V) (v : V) (H' : List Reg) : Prop :=
  ∃ (o' : Nat) (pre : List V), v = .sl H.length o' (k + m) ∧ pre.length = o' * n ∧ (o' = off ∨ o' = 0) ∧ H' = H.set h { r with mode := 2 } ++ [⟨e, n, pre ++ (r.cells.drop (off * n)).take (k * n) ++ src, 0⟩]
theorem qa {s x : Operand} {t ty e n b h m k off : Nat} {r : Reg} {src : List V} [ht : Sl P t e n b] (ho : o.op = .call { callee := .builtin .append, args := #[s, x], argTypes := #[t, t] })
    (hs : ρ s = .sl h off k) (hr : H[h]? = some r) (hm : r.mode = 0) (he : r.e = e) (hes : r.esz = n) (hk : (off + k) * n ≤ r.cells.length) (hx : Src H (ρ x) m src) (hsl : src.length = m * n) (hm0 : 0 < m) (h1 : ∀ c ∈ src, vk c = true)
    (hb : (k + m) * b ≤ 140737488355328) (hmax : k + m ≤ maxLen) : wU P o ρ H (dW H h off k m n e r src) := pN fun C A φ a w hA hh => by
  have hs1 := hh s (by simp [ho, Op.operands, Call.operands])
  have hx1 := hh x (by simp [ho, Op.operands, Call.operands])
  obtain ⟨ad, c, news, ex, n1, n2, n3, n4⟩ := sS hx hA.ok hx1 h1
  rw [hs, Rel] at hs1
  obtain ⟨hd, e1, hs1⟩ := hs1
  obtain ⟨⟨f1, f2, f3⟩, f4⟩ := hA.ok.regs h hd r e1 hr (by omega)
  obtain ⟨i, z, i1, i2, i3, i4, i5⟩ := ht.i
  have hpos := ht.pos
  subst he
  have hlive : ∀ g, hd.blk = some g → zw φ H h g := fun g hg => ⟨hd, r, e1, hr, hm, hg⟩
  have hK := hA.kill hr
  have hklen : (H.set h { r with mode := 2 }).length = H.length := by simp
  have hsmall : k + m ≤ 9223372036854775807 := by simp only [maxLen] at hmax; omega
  have hnl : news.length = m * n := n1.trans hsl
  have hzs : z.cells.size = n := i5
  have hmn : 0 < m * n := Nat.mul_pos hm0 hpos
  obtain ⟨ad', rfl, n5⟩ : ∃ ad', ad = some ad' ∧ ∀ j u, news[j]? = some u → w.cell? (ad'.add j) = some u := by
    rcases n4 with n4 | n4
    · rw [n4] at hsl; simp at hsl; omega
    · exact n4
  have hkn : (off + k) * n = off * n + k * n := Nat.add_mul ..
  have hpl : ((r.cells.drop (off * n)).take (k * n)).length = k * n := by simp only [List.length_take, List.length_drop]; omega
  have hop : ∀ (v : Value) (w' : World), (Builtin.append_ #[t, t] o.type #[a.eval s, a.eval x]).run P w = .ok v w' → (execOp a.eval o).run P w = .ok (.value v) w' := fun v w' hv => by
    simp only [execOp, ho, resolve, Sem.run_bind]
    simp [invoke, builtin, hv]
  have hnew : ∀ (olds : List Value) (cap : Nat), olds.length = k * n → zv A w φ ((r.cells.drop (off * n)).take (k * n)) (fun i => olds[i]?) → k + m ≤ cap → cap ≤ maxLen →
      (Builtin.append_ #[t, t] o.type #[a.eval s, a.eval x]).run P w = .ok (.slice (some ⟨w.heap.size, 0, none⟩) (k + m) cap) ((w.drewN 1).alloc (.cells (olds.toArray ++ news.toArray ++ Builtin.zeroCells z.cells (cap - (k + m))) r.e)) →
      ∃ v H' x w' A' φ', dW H h off k m n r.e r src v H' ∧ (execOp a.eval o).run P w = .ok (.value x) w' ∧ InvA C A' φ' H' w' ∧ (∀ b, A b → A' b ∧ w'.heap[b]? = w.heap[b]?) ∧ (∀ (h : Nat) (hd : Hd), φ[h]? = some hd → φ'[h]? = some hd) ∧ Rel A' w' φ' v x := fun olds cap ol or hc1 hc2 hrun => by
    have hsz : (olds.toArray ++ news.toArray ++ Builtin.zeroCells z.cells (cap - (k + m))).size = cap * n := by
      simp only [Array.size_append, List.size_toArray, size_zeroCells, hzs, ol, hnl, ← Nat.add_mul]
      congr 1
      omega
    have hcl : ((r.cells.drop (off * n)).take (k * n) ++ src).length = (k + m) * n := by rw [List.length_append, hpl, hsl, Nat.add_mul]
    refine ⟨_, _, _, _, A, φ ++ [⟨some w.heap.size, cap, n, r.e⟩], ⟨0, [], rfl, by simp, Or.inr rfl, rfl⟩, hop _ _ hrun, wd hK hsz hc2 (by rw [hcl, hsz]; exact Nat.mul_le_mul_right _ hc1) (sa n3 n1 _ _ or (by rw [ol, hpl]) _) 1, wJ hA _ 1, fun h hd hh => zZ hh, ?_⟩
    have := uL (H := H.set h { r with mode := 2 }) hK (hd := ⟨some w.heap.size, cap, n, r.e⟩) rfl hc1 ((w.drewN 1).alloc (.cells (olds.toArray ++ news.toArray ++ Builtin.zeroCells z.cells (cap - (k + m))) r.e))
    rw [hklen] at this
    exact this
  have hempty : ∀ base : Option Addr, k = 0 → a.eval s = .slice base 0 0 → ∃ v H' x w' A' φ', dW H h off k m n r.e r src v H' ∧ (execOp a.eval o).run P w = .ok (.value x) w' ∧ InvA C A' φ' H' w' ∧ (∀ b, A b → A' b ∧ w'.heap[b]? = w.heap[b]?) ∧ (∀ (h : Nat) (hd : Hd), φ[h]? = some hd → φ'[h]? = some hd) ∧ Rel A' w' φ' v x := fun base hk0 e2' => by
    subst hk0
    cases base with
    | none =>
      have hrun := run_append_nil (P := P) w t o.type r.e i z ht.u i1 i4 ad' m c news (by rw [hnl, i2]) n5 (by omega) (by omega) (by rw [i3]; simp only [Nat.zero_add] at hb; omega)
      refine hnew [] (grownCap w m 0 r.e) (by simp) (by simp [zv]) (by simpa using grownCap_ge w m 0 r.e) (grownCap_le_maxLen w m 0 r.e (by omega)) ?_
      rw [e2', ex, hrun]
      simp [World.drewN_drew, World.drew_is_drewN]
    | some bs =>
      have hrun := run_append_grow (P := P) w t o.type r.e i z ht.u i1 i4 bs 0 0 [] (by simp) (fun j u hu => by simp at hu) ad' m c news (by rw [hnl, i2]) n5 (by omega) (by omega) (growslice_fits (by omega) (by rw [i3]; exact hb))
      refine hnew [] (grownCap w (0 + m) 0 r.e) (by simp) (by simp [zv]) (grownCap_ge w (0 + m) 0 r.e) (grownCap_le_maxLen w (0 + m) 0 r.e hmax) ?_
      rw [e2', ex, hrun]
      simp [World.drewN_drew, World.drew_is_drewN]
  rcases hs1 with ⟨e2, e3⟩ | ⟨p1, p2, base, e2⟩
  rotate_left
  · subst p2
    exact hempty base rfl e2
  cases hblk : hd.blk with
  | none =>
    rw [hblk] at f4 e2
    obtain ⟨g1, g2⟩ := f4
    exact hempty none (by omega) (by rw [e2, g2, show k = 0 by omega, Nat.zero_sub]; rfl)
  | some g =>
    rw [hblk] at f4 e2
    obtain ⟨cur, g1, g2, g3, g4⟩ := f4
    have hesz : hd.esz = n := f1.trans hes
    rw [hesz] at g2 e2
    have e2' : a.eval s = .slice (some ⟨g, off * n, none⟩) k (hd.cap - off) := by rw [e2]; simp
    have hlg := hlive g hblk
    have hfree : ∀ h', ¬ zw φ (H.set h { r with mode := 2 }) h' g := fun h' ⟨hd', r', q1, q2, q3, q4⟩ => by
      rcases getElem?_set' q2 with ⟨_, rfl⟩ | ⟨hne, q2⟩
      · cases q3
      · exact hne (hA.ok.inj _ _ _ ⟨hd', r', q1, q2, q3, q4⟩ hlg)
    have hpre : zv A w φ (r.cells.take (off * n)) (fun i => cur[i]?) := yy g4 _
    have hmid : zv A w φ ((r.cells.drop (off * n)).take (k * n)) (fun i => cur[off * n + i]?) := yy (yz g4 _) _
    have hpre2 : (r.cells.take (off * n)).length = off * n := by simp only [List.length_take]; omega
    by_cases hroom : k + m ≤ hd.cap - off
    · have hcap : (off + (k + m)) * n ≤ hd.cap * n := Nat.mul_le_mul_right _ (by omega)
      have hcapn : (off + (k + m)) * n = off * n + k * n + m * n := by rw [Nat.add_mul, Nat.add_mul]; omega
      have hfit : off * n + k * i.size + news.length ≤ cur.size := by rw [i2, hnl, g2]; omega
      have hrun := uT (P := P) w t o.type r.e i ht.u i1 g (off * n) k (hd.cap - off) cur (by rw [g1, f2]) ad' m c news (by rw [hnl, i2]) n5 n2 hroom hfit
      rw [← e2', ← ex] at hrun
      rw [i2] at hfit hrun
      refine ⟨_, _, _, _, A, φ ++ [⟨some g, hd.cap, n, r.e⟩], ⟨off, r.cells.take (off * n), rfl, hpre2, Or.inl rfl, rfl⟩, hop _ _ hrun, hK.add hfree (hA.ok.apart h g hlg) (fun i _ hi => setRow_other w g i _ hi) (by simp) (hA.own h g hlg) rfl rfl rfl (setRow_heap w g cur _ r.e (0, 0) (by rw [g1, f2])) ?_ f3 ?_ ?_,
        fun b' hb' => ⟨hb', setRow_other w g b' _ fun e => hA.ok.apart h g hlg (e ▸ hb')⟩, fun h hd hh => zZ hh, ?_⟩
      · rw [← g2]
        simp only [List.size_toArray, List.length_append, List.length_take, List.length_drop, Array.length_toList]
        omega
      · simp only [List.length_append, hpl, hpre2, hsl, List.size_toArray, List.length_take, List.length_drop, Array.length_toList]
        omega
      · refine yd (yd (yC hpre fun j hj => ?_) (yC hmid fun j hj => ?_)) (yC n3 fun j hj => ?_)
        · rw [hpre2] at hj
          simp only [List.getElem?_toArray]
          rw [List.append_assoc, List.getElem?_append_left (by simp; omega), List.getElem?_take, if_pos (by omega), Array.getElem?_toList]
        · rw [hpl] at hj
          simp only [List.getElem?_toArray]
          rw [hpre2, List.append_assoc, List.getElem?_append_left (by simp; omega), List.getElem?_take, if_pos (by omega), Array.getElem?_toList]
        · rw [hsl] at hj
          simp only [List.getElem?_toArray]
          rw [List.length_append, hpre2, hpl, List.append_assoc, List.getElem?_append_right (by simp; omega), List.getElem?_append_left (by simp; omega)]
          congr 1
          simp
          omega
      · rw [Rel]
        refine ⟨⟨some g, hd.cap, n, r.e⟩, ?_, Or.inl ⟨rfl, by simp only; omega⟩⟩
        rw [← hA.ok.len]
        simp
    · have holds : ∀ j u, ((cur.toList.drop (off * n)).take (k * n))[j]? = some u → w.cell? ((⟨g, off * n, none⟩ : Addr).add j) = some u := fun j u hu => by
        rw [List.getElem?_take] at hu
        split at hu
        · rw [List.getElem?_drop] at hu
          rw [Addr.plus, cell_of_row w g (off * n + j) cur hd.e (0, 0) g1, ← Array.getElem?_toList]
          exact hu
        · cases hu
      have hol : ((cur.toList.drop (off * n)).take (k * n)).length = k * n := by
        simp only [List.length_take, List.length_drop, Array.length_toList, g2]
        have := Nat.mul_le_mul_right n e3
        omega
      have hrun := run_append_grow (P := P) w t o.type r.e i z ht.u i1 i4 ⟨g, off * n, none⟩ k (hd.cap - off) ((cur.toList.drop (off * n)).take (k * n)) (by rw [hol, i2]) holds ad' m c news (by rw [hnl, i2]) n5 (by omega) (by omega) (growslice_fits (by omega) (by rw [i3]; exact hb))
      refine hnew _ (grownCap w (k + m) (hd.cap - off) r.e) hol (yC hmid fun j hj => ?_) (grownCap_ge w (k + m) (hd.cap - off) r.e) (grownCap_le_maxLen w (k + m) (hd.cap - off) r.e hmax) ?_
      · rw [hpl] at hj
        rw [List.getElem?_take, if_pos (by omega), List.getElem?_drop, Array.getElem?_toList]
      · rw [e2', ex, hrun]
        simp [World.drewN_drew, World.drew_is_drewN]
end
theorem wU.mono {P : Program} {o : Oper} {ρ : Operand → V} {H : List Reg} {post post' : V → List Reg → Prop} (h : wU P o ρ H post) (hp : ∀ v H', post v H' → post' v H') : wU P o ρ H post' :=
  fun S hS hρ C φ a w hI next Q hn => h S hS hρ C φ a w hI next Q fun v H' x w' φ' hq hI' => hn v H' x w' φ' (hp v H' hq) hI'
theorem ez {l : List V} {H : List Reg} {m : Nat} {e : Exit} {post : V → List Reg → Prop} (he : e = .ret ∨ e = .normal) (hp : post (.tup []) H) : (e = .ret ∨ e = .normal) ∧ ∃ r hs', post r hs' ∧ Out true r hs' (vg ⟨l, H, m⟩ []) ⟨l, H, m⟩ :=
  ⟨he, _, _, hp, nk (S := ⟨l, H, m⟩)⟩
section
variable {α : Type} {T : Ty α} {e : TypeId}
theorem lW {H : List Reg} {h b ty : Nat} {pre : List V} {rs : List (List α)} (hH : H[h]? = some ⟨ty, 1, pre ++ nC b rs, 0⟩) (hR : ∀ j x, rs[j]? = some x → H[b + j]? = some (yo T e x)) : Pur true H (.sl h pre.length rs.length) (vF (lsT T) rs) :=
  .slN hH (Or.inr ⟨rfl, rfl⟩) (Nat.succ_pos 0) (by simp [xN]) (by
    have := ni (H := H) hR
    simpa [xN, List.take_of_length_le] using this)
end
def vI (P : Program) (f : FuncId) (cargs : List V) (hs : List Reg) (post : V → List Reg → Prop) (al : Bool) : Prop :=
  ∀ (A : Nat → Prop) (φ : List Hd) (w : World) (xs : Array Value), HeapOk A w φ hs → zv A w φ cargs (fun i => xs[i]?) → xs.size = cargs.length →
    Calls P f xs w fun e w' => ∃ r hs', post r hs' ∧ ∃ x φ' A', e = .returned x ∧ HeapOk A' w' φ' hs' ∧ Rel A' w' φ' r x ∧ (∀ b, A' b → (al = true ∧ A b) ∨ w.heap.size ≤ b) ∧
      (∀ h b, zw φ' hs' h b → w.heap.size ≤ b ∨ ∃ h0, zw φ hs h0 b) ∧ Framed ⟨A, w, φ, hs⟩ w' ∧ (∀ (h : Nat) (hd : Hd), φ[h]? = some hd → φ'[h]? = some hd)
theorem zx.x {P : Program} {f : FuncId} {cargs : List V} {hs : List Reg} {r : V} {hs' : List Reg} {al : Bool} (h : zx P f cargs hs r hs' al) {post : V → List Reg → Prop} (hp : post r hs') : vI P f cargs hs post al := fun A φ w xs h1 h2 h3 =>
  (h A φ w xs h1 h2 h3).mono fun e w' hq => ⟨r, hs', hp, hq⟩
theorem lc {P : Program} {f : FuncId} {fn : Func} {c : Code} {cargs : List V} {hs : List Reg} {post : V → List Reg → Prop} {al : Bool} (ts : List Tmp)
    (hf : P.funcs[f]? = some fn) (hb : fn.body = some c) (hr : fn.results = (ts.map ResultVar.tmp).toArray)
    (h : AW P c (fun e S => (e = .ret ∨ e = .normal) ∧ ∃ r hs', post r hs' ∧ Out al r hs' (vg S ts) S) ⟨cargs ++ List.replicate (fn.ntmps - cargs.length) (.k undef), hs, hs.length⟩) : vI P f cargs hs post al := by
  intro A φ w xs hok hrel hsz
  refine calls_of_wp hf hb ?_
  have hI : Inv ⟨A, w, φ, hs⟩ φ ⟨cargs ++ List.replicate (fn.ntmps - cargs.length) (.k undef), hs, hs.length⟩ { tmps := xs ++ Array.replicate (fn.ntmps - xs.size) undef, defers := [] } w := by
    refine ⟨hok.len, ⟨A, ⟨hok, fun b hb => Or.inl hb, fun h b hl => Or.inr ⟨h, hl⟩, ⟨rfl, rfl, rfl, Nat.le_refl _, fun _ _ _ => rfl⟩, fun _ _ h => h⟩, ?_⟩, by simp [hsz], rfl⟩
    refine yd (yC hrel fun i hi => ?_) (yJ.2 fun i c hc => ⟨undef, ?_, ?_⟩)
    · simp [Array.getElem?_append, hsz, hi]
    · have hlt := (List.getElem?_eq_some_iff.1 hc).1
      simp only [List.length_replicate] at hlt
      simp only [Array.getElem?_append, hsz, Nat.not_lt.2 (Nat.le_add_right _ _), if_false, Nat.add_sub_cancel_left]
      simp [hlt]
    · have := List.mem_of_getElem? hc
      obtain rfl := List.eq_of_mem_replicate this
      simp [Rel]
  refine wp_mono (h.out ⟨A, w, φ, hs⟩ φ _ w hI) ?_
  rintro e a' w' ⟨S', φ1, hI', he, r, hs', hp, ho⟩
  obtain ⟨hm, ⟨A1, hA1, hr1⟩, hs1, hd1⟩ := hI'
  obtain ⟨φ', A', k1, k2, k3, k4, k5⟩ := ho ⟨A, w, φ, hs⟩ A1 φ1 w' (kY a'.tmps ts) hm hA1 (pW hr1 ts)
  have key : a'.defers = [] ∧ ∃ v, (results fn a'.tmps).run P w' = .ok v w' ∧ ∃ r hs', post r hs' ∧ ∃ x φ' A', (Ending.returned v) = .returned x ∧ HeapOk A' w' φ' hs' ∧ Rel A' w' φ' r x ∧ (∀ b, A' b → (al = true ∧ A b) ∨ w.heap.size ≤ b) ∧
      (∀ h b, zw φ' hs' h b → w.heap.size ≤ b ∨ ∃ h0, zw φ hs h0 b) ∧ Framed ⟨A, w, φ, hs⟩ w' ∧ (∀ (h : Nat) (hd : Hd), φ[h]? = some hd → φ'[h]? = some hd) :=
    ⟨hd1, _, tk hr _ _, r, hs', hp, _, φ', A', rfl, k1, k2, k3, k4, hA1.frame, k5⟩
  rcases he with rfl | rfl
  · exact key
  · exact key
section
variable {P : Program}
theorem pf {f : FuncId} {fn : Func} {c : Code} {cargs : List V} {hs : List Reg} {post : V → List Reg → Prop} {al : Bool} (t : Tmp) (ty : TypeId) (us : List Tmp) {n : Nat} [ht : Ag P ty n]
    (hf : P.funcs[f]? = some fn) (hb : fn.body = some c) (hus : us.isEmpty = false) (hr : fn.results = (.cell t ty :: us.map ResultVar.tmp).toArray)
    (h : AW P c (fun e S => (e = .ret ∨ e = .normal) ∧ ∃ v, CellIs S.tmps S.H t n v ∧ ∃ r hs', post r hs' ∧ Out al r hs' (.tup (v :: us.map fun u => (S.tmps[u]?).getD .any)) S) ⟨cargs ++ List.replicate (fn.ntmps - cargs.length) (.k undef), hs, hs.length⟩) : vI P f cargs hs post al := by
  intro A φ w xs hok hrel hsz
  refine calls_of_wp hf hb ?_
  have hI : Inv ⟨A, w, φ, hs⟩ φ ⟨cargs ++ List.replicate (fn.ntmps - cargs.length) (.k undef), hs, hs.length⟩ { tmps := xs ++ Array.replicate (fn.ntmps - xs.size) undef, defers := [] } w := by
    refine ⟨hok.len, ⟨A, ⟨hok, fun b hb => Or.inl hb, fun h b hl => Or.inr ⟨h, hl⟩, ⟨rfl, rfl, rfl, Nat.le_refl _, fun _ _ _ => rfl⟩, fun _ _ h => h⟩, ?_⟩, by simp [hsz], rfl⟩
    refine yd (yC hrel fun i hi => ?_) (yJ.2 fun i c hc => ⟨undef, ?_, ?_⟩)
    · simp [Array.getElem?_append, hsz, hi]
    · have hlt := (List.getElem?_eq_some_iff.1 hc).1
      simp only [List.length_replicate] at hlt
      simp only [Array.getElem?_append, hsz, Nat.not_lt.2 (Nat.le_add_right _ _), if_false, Nat.add_sub_cancel_left]
      simp [hlt]
    · have := List.mem_of_getElem? hc
      obtain rfl := List.eq_of_mem_replicate this
      simp [Rel]
  refine wp_mono (h.out ⟨A, w, φ, hs⟩ φ _ w hI) ?_
  rintro e a' w' ⟨S', φ1, hI', he, v, hc, r, hs', hp, ho⟩
  obtain ⟨hm, ⟨A1, hA1, hr1⟩, hs1, hd1⟩ := hI'
  obtain ⟨⟨h, off, r0, c1, c2, c3, c4, c5⟩⟩ := hc
  obtain ⟨y, y1, y2⟩ := yn hr1 c1
  rw [Rel] at y2
  obtain ⟨hd, b, e1, e2, e3⟩ := y2
  obtain ⟨xs', h2, h3, h4⟩ := xD (P := P) (yy (yz (xr hA1.ok e1 c2 c3 e2) off) n)
  have hl : ((r0.cells.drop off).take n).length = n := by simp; omega
  rw [hl] at h2
  have hx : Rel A1 w' φ1 v (.agg xs') := by subst c5; rw [Rel]; exact ⟨xs', rfl, h3, h4⟩
  have hrun : (results fn a'.tmps).run P w' = .ok (.tuple ((Value.agg xs') :: us.map fun u => a'.tmps.getD u undef).toArray) w' := by
    have hg : a'.tmps.getD t undef = .pointer (some ⟨b, off, none⟩) := by
      rw [Array.getD_eq_getD_getElem?, show a'.tmps[t]? = some y from y1, e3]
      rfl
    unfold results
    rw [hr]
    simp only [List.mapM_toArray, List.mapM_cons, hg, Sem.run_bind, Sem.run_map, Sem.run_pure, Result.andThen_ok, asAddr, loadVar, ht.a, ht.s, h2, if_true]
    rw [ux a'.tmps w' _ (fun t => rfl)]
    simp only [Result.andThen_ok, Sem.run_pure]
    cases us with
    | nil => cases hus
    | cons u us => simp
  have hxt : Rel A1 w' φ1 (.tup (v :: us.map fun u => (S'.tmps[u]?).getD .any)) (.tuple ((Value.agg xs') :: us.map fun u => a'.tmps.getD u undef).toArray) := by
    rw [Rel]
    refine ⟨_, rfl, by simp, ?_⟩
    rw [zv]
    refine ⟨⟨.agg xs', rfl, hx⟩, yJ.2 fun i c hc => ?_⟩
    rw [List.getElem?_map] at hc
    cases hi : us[i]? with
    | none => rw [hi] at hc; simp at hc
    | some u =>
      rw [hi] at hc
      simp only [Option.map_some, Option.some.injEq] at hc
      subst hc
      exact ⟨a'.tmps.getD u undef, by simp [hi], wS hr1 (.tmp u)⟩
  obtain ⟨φ', A', k1, k2, k3, k4, k5⟩ := ho ⟨A, w, φ, hs⟩ A1 φ1 w' _ hm hA1 hxt
  have key : a'.defers = [] ∧ ∃ v, (results fn a'.tmps).run P w' = .ok v w' ∧ ∃ r hs', post r hs' ∧ ∃ x φ' A', (Ending.returned v) = .returned x ∧ HeapOk A' w' φ' hs' ∧ Rel A' w' φ' r x ∧ (∀ b, A' b → (al = true ∧ A b) ∨ w.heap.size ≤ b) ∧
      (∀ h b, zw φ' hs' h b → w.heap.size ≤ b ∨ ∃ h0, zw φ hs h0 b) ∧ Framed ⟨A, w, φ, hs⟩ w' ∧ (∀ (h : Nat) (hd : Hd), φ[h]? = some hd → φ'[h]? = some hd) :=
    ⟨hd1, _, hrun, r, hs', hp, _, φ', A', rfl, k1, k2, k3, k4, hA1.frame, k5⟩
  rcases he with rfl | rfl
  · exact key
  · exact key
theorem vI.frozen {f : FuncId} {cargs : List V} {r' : V} {post : V → List Reg → Prop} {al : Bool} (h : vI P f cargs [] post al) (hp : ∀ r K, post r K → Pur true K r r') : zx P f cargs [] r' [] true := by
  intro A φ w xs hok hrel hsz
  refine (h A φ w xs hok hrel hsz).mono ?_
  rintro e w' ⟨r, K, hq, x, φ', A', rfl, k1, k2, k3, k4, k5, k6⟩
  have hφ : φ = [] := List.length_eq_zero_iff.1 hok.len
  refine ⟨x, [], fun b => A' b ∨ ∃ h, zw φ' K h b, rfl, ⟨rfl, fun h hd r h1 => by simp at h1, fun h h' b ⟨hd, r, h1, _⟩ => by simp at h1, fun h b ⟨hd, r, h1, _⟩ => by simp at h1, fun h hd r b h1 => by simp at h1, fun b hb => ?_⟩,
    Pur.rel k1 (fun b hb => Or.inl hb) (fun _ h b hb => Or.inr ⟨h, hb⟩) (hp r K hq) k2, fun b hb => ?_, fun h b ⟨hd, r, h1, _⟩ => by simp at h1, k5, fun h hd h1 => by rw [hφ] at h1; simp at h1⟩
  · rcases hb with hb | ⟨h, hd, r, q1, q2, q3, q4⟩
    · exact k1.low b hb
    · exact xz k1 q1 q2 (by omega) q4
  · rcases hb with hb | ⟨h, hb⟩
    · exact (k3 b hb).imp (fun h => ⟨rfl, h.2⟩) id
    · rcases k4 h b hb with h1 | ⟨h9, hd, r, p1, _⟩
      · exact Or.inr h1
      · rw [hφ] at p1
        simp at p1
end
section
variable {P : Program} {o : Oper} {ρ : Operand → V} {H : List Reg}
theorem tu {f : FuncId} {cargs : List V} {post : V → List Reg → Prop}
    (hrun : ∀ (A : Nat → Prop) (φ : List Hd) (a : Act) (w : World), HeapOk A w φ H → (∀ x ∈ o.op.operands, Rel A w φ (ρ x) (a.eval x)) → ∃ xs : Array Value, (execOp a.eval o).run P w = .ok (.enter f xs) w ∧ xs.size = cargs.length ∧ zv A w φ cargs (fun i => xs[i]?))
    (hm : vI P f cargs H post true) : wU P o ρ H post := by
  intro S hS hρ C φ a w hI next Q hn
  obtain ⟨hm0, ⟨A, hA, hr⟩, hs, hd⟩ := hI
  subst hS
  obtain ⟨xs, hexec, hxl, hargr⟩ := hrun A φ a w hA.ok (fun x hx => by rw [← hρ x hx]; exact wS hr x)
  have hcall := hm A φ w xs hA.ok hargr hxl
  unfold Oper.wp
  rw [hexec, Oper.upon_enter]
  refine hcall.mono ?_
  rintro e w' ⟨r, K, hq, x, φ', A', rfl, k1, k2, k3, k4, k5, k6⟩
  have hfrA : ∀ b, A b → w'.heap[b]? = w.heap[b]? := fun b hb => k5.block b (hA.ok.low b hb) (fun h hl => hA.ok.apart h b hl hb)
  have xY : ∀ b, A' b → A b ∨ w.heap.size ≤ b := fun b hb => (k3 b hb).imp (fun h => h.2) id
  have hJ : InvA C (fun b => A b ∨ A' b) φ' K w' := by
    refine ⟨⟨k1.len, fun h hd q q1 q2 q3 => ?_, k1.inj, fun h b hl hb => ?_, fun h hd q b q1 q2 q3 q4 => Or.inr (k1.frz h hd q b q1 q2 q3 q4), fun b hb => ?_⟩, fun b hb => ?_, fun h b hl => ?_, ?_, fun h hd hh => k6 h hd (hA.pre h hd hh)⟩
    · obtain ⟨e1, e2⟩ := k1.regs h hd q q1 q2 q3
      refine ⟨e1, ?_⟩
      cases hb : hd.blk with
      | none => rw [hb] at e2; exact e2
      | some b =>
        rw [hb] at e2
        obtain ⟨c, c1, c2, c3, c4⟩ := e2
        exact ⟨c, c1, c2, c3, zv.mono (fun b hb => ⟨Or.inr hb, rfl⟩) (fun _ _ h => h) c4⟩
    · rcases hb with hb | hb
      · rcases k4 h b hl with h1 | ⟨h0, h1⟩
        · have := hA.ok.low b hb
          omega
        · exact hA.ok.apart h0 b h1 hb
      · exact k1.apart h b hl hb
    · rcases hb with hb | hb
      · exact Nat.lt_of_lt_of_le (hA.ok.low b hb) k5.size
      · exact k1.low b hb
    · rcases hb with hb | hb
      · exact hA.old b hb
      · rcases xY b hb with hb | hb
        · exact hA.old b hb
        · exact Or.inr (Nat.le_trans hA.frame.size hb)
    · rcases k4 h b hl with h1 | ⟨h0, h1⟩
      · exact Or.inl (Nat.le_trans hA.frame.size h1)
      · exact hA.own h0 b h1
    · obtain ⟨f1, f2, f3, f4, f5⟩ := hA.frame
      refine ⟨k5.os.trans f1, k5.tape.trans f2, k5.output.trans f3, Nat.le_trans f4 k5.size, fun b hb hno => ?_⟩
      rw [k5.block b (Nat.lt_of_lt_of_le hb f4) (fun h hl => ?_)]
      · exact f5 b hb hno
      · rcases hA.own h b hl with h1 | ⟨h0, h1⟩
        · have h2 : b < C.w0.heap.size := hb
          omega
        · exact hno h0 h1
  have hr' : zv (fun b => A b ∨ A' b) w' φ' S.tmps (fun i => a.tmps[i]?) := zv.mono (fun b hb => ⟨Or.inl hb, hfrA b hb⟩) (fun h hd hh => k6 h hd hh) hr
  have hx : Rel (fun b => A b ∨ A' b) w' φ' r x := Rel.mono (fun b hb => ⟨Or.inr hb, rfl⟩) (fun _ _ h => h) k2
  obtain ⟨h7, h8⟩ := wP (H := K) hs hr' hx o.dst
  refine hn r K x w' φ' hq ⟨by cases o.dst <;> exact hm0, ⟨_, ?_, h7⟩, h8, by cases o.dst <;> exact hd⟩
  rw [xv]
  exact hJ
theorem pQ {f : FuncId} {args : List Operand} {ats : Array TypeId} {cargs : List V} {post : V → List Reg → Prop} [he : Ent P f] (ho : o.op = .call { callee := .value (.func f), args := args.toArray, argTypes := ats })
    (hm : vI P f cargs H post true) (hargs : args.map ρ = cargs) : wU P o ρ H post :=
  tu (fun A φ a w _ hh => ⟨_, vD ho, by rw [← hargs]; simp, by rw [← hargs]; exact ws fun x hx => hh x (by rw [ho]; simp only [Op.operands, Call.operands]; simp [hx])⟩) hm
theorem tt {f : FuncId} {vs cargs : List V} {post : V → List Reg → Prop} {al : Bool}
    (hrun : ∀ (A : Nat → Prop) (φ : List Hd) (a : Act) (w : World), HeapOk A w φ H → (∀ x ∈ o.op.operands, Rel A w φ (ρ x) (a.eval x)) → ∃ xs : Array Value, (execOp a.eval o).run P w = .ok (.enter f xs) w ∧ xs.size = vs.length ∧ zv A w φ vs (fun i => xs[i]?))
    (hm : vI P f cargs [] post al) (hargs : Purs (!al) H vs cargs) : wU P o ρ H (fun v H' => ∃ r K, post r K ∧ v = shV H.length r ∧ H' = H ++ K.map (shR H.length)) := by
  intro S hS hρ C φ a w hI next Q hn
  obtain ⟨hm0, ⟨A, hA, hr⟩, hs, hd⟩ := hI
  subst hS
  obtain ⟨xs, hexec, hxl, hargr⟩ := hrun A φ a w hA.ok (fun x hx => by rw [← hρ x hx]; exact wS hr x)
  let A1 : Nat → Prop := fun b => A b ∨ (al = false ∧ b < w.heap.size)
  have hok1 : HeapOk A1 w [] [] := ⟨rfl, fun h hd r h1 => by simp at h1, fun h h' b ⟨hd, r, h1, _⟩ => by simp at h1, fun h b ⟨hd, r, h1, _⟩ => by simp at h1, fun h hd r b h1 => by simp at h1, fun b hb => by
    rcases hb with hb | hb
    · exact hA.ok.low b hb
    · exact hb.2⟩
  have hargs1 : zv A1 w [] cargs (fun i => xs[i]?) := Purs.rels hA.ok (fun b hb => Or.inl hb) (fun hl h b hb => Or.inr ⟨by cases al <;> simp_all, by obtain ⟨hd, r, q1, q2, q3, q4⟩ := hb; exact xz hA.ok q1 q2 (by omega) q4⟩) hargs hargr
  have hcall := hm A1 [] w xs hok1 hargs1 (hxl.trans (Purs.length hargs))
  unfold Oper.wp
  rw [hexec, Oper.upon_enter]
  refine hcall.mono ?_
  rintro e w' ⟨r, K, hq, x, φ', A', rfl, k1, k2, k3, k4, k5, k6⟩
  have hfr : ∀ b, b < w.heap.size → w'.heap[b]? = w.heap[b]? := fun b hb => k5.block b hb (fun h ⟨hd, r, h1, _⟩ => by simp at h1)
  have hJ : InvA C (fun b => A b ∨ A' b) (φ ++ φ') (S.H ++ K.map (shR S.H.length)) w' := hA.joinN k1 (fun b hb => by
      rcases k3 b hb with ⟨ha, hb | hb⟩ | hb
      · exact Or.inl hb
      · rw [ha] at hb; cases hb.1
      · exact Or.inr hb)
    (fun h b hl => by
      rcases k4 h b hl with h1 | ⟨h0, hd, r, h1, _⟩
      · exact h1
      · simp at h1) hfr k5.size k5.os k5.tape k5.output
  have hr' : zv (fun b => A b ∨ A' b) w' (φ ++ φ') S.tmps (fun i => a.tmps[i]?) := zv.mono (fun b hb => ⟨Or.inl hb, hfr b (hA.ok.low b hb)⟩) (fun h hd hh => zZ hh) hr
  have hx : Rel (fun b => A b ∨ A' b) w' (φ ++ φ') (shV S.H.length r) x := by
    rw [← hA.ok.len]
    exact t0 (Rel.mono (fun b hb => ⟨Or.inr hb, rfl⟩) (fun _ _ h => h) k2)
  obtain ⟨h7, h8⟩ := wP (H := S.H ++ K.map (shR S.H.length)) hs hr' hx o.dst
  refine hn _ _ x w' (φ ++ φ') ⟨r, K, hq, rfl, rfl⟩ ⟨by cases o.dst <;> exact hm0, ⟨_, ?_, h7⟩, h8, by cases o.dst <;> exact hd⟩
  rw [xv]
  exact hJ
theorem ne {f : FuncId} {args : List Operand} {ats : Array TypeId} {cargs : List V} {post : V → List Reg → Prop} {al : Bool} [he : Ent P f] (ho : o.op = .call { callee := .value (.func f), args := args.toArray, argTypes := ats })
    (hm : vI P f cargs [] post al) (hargs : Purs (!al) H (args.map ρ) cargs) : wU P o ρ H (fun v H' => ∃ r K, post r K ∧ v = shV H.length r ∧ H' = H ++ K.map (shR H.length)) :=
  tt (fun A φ a w hok hh => ⟨_, vD ho, by simp, ws fun x hx => hh x (by rw [ho]; simp only [Op.operands, Call.operands]; simp [hx])⟩) hm hargs
end
end Go.Proofs.Ytojcojanokhnaaa.Ab
namespace Go.Proofs.Ytojcojanokhnaaa.Ab
open Go.RowKit
theorem eP {o : Oper} {ρ : Operand → V} {H : List Reg} {h hz off n : Nat} {v : V} {s x : Operand} {cells : List V} (ho : o.op = .call { callee := .builtin .append, args := #[s, x], argTypes := #[25, 25] })
    (hs : ρ s = .sl h off n) (hH : H[h]? = some ⟨84, 1, cells, 0⟩) (hx : ρ x = .sl hz 0 1) (hzz : H[hz]? = some ⟨84, 1, [v], 0⟩) (hv : vk v = true) (hn : cells.length = off + n) (hl : cells.length ≤ 100000000) :
    wU Go.Proofs.Try.prog o ρ H (fun w H' => ∃ (o' : Nat) (pre : List V), pre.length = o' ∧ (o' = off ∨ o' = 0) ∧ w = .sl H.length o' (n + 1) ∧ H' = H.set h ⟨84, 1, cells, 2⟩ ++ [⟨84, 1, pre ++ cells.drop off ++ [v], 0⟩]) := by
  have hsrc : Src H (ρ x) 1 [v] := by
    rw [hx]
    exact Src.sl (H := H) (off := 0) (m := 1) (r := ⟨84, 1, [v], 0⟩) hzz (Nat.zero_le _) (Nat.le_refl _)
  refine (qa (P := Go.Proofs.Try.prog) (ρ := ρ) (ty := 25) (m := 1) ho hs hH rfl rfl rfl (by show (off + n) * 1 ≤ cells.length; omega) hsrc rfl (by decide) (fun c hc => by simp at hc; subst hc; exact hv) (by omega) (by simp only [maxLen]; omega)).mono ?_
  rintro w H' ⟨o', pre, rfl, h1, h2, rfl⟩
  refine ⟨o', pre, by rw [h1, Nat.mul_one], h2, rfl, ?_⟩
  have e1 : ((⟨84, 1, cells, 0⟩ : Reg).cells.drop (off * 1)).take (n * 1) = cells.drop off := by
    show (cells.drop (off * 1)).take (n * 1) = _
    rw [Nat.mul_one, Nat.mul_one, List.take_of_length_le (by simp; omega)]
  rw [e1]
theorem ls (a0 a1 a3 a4 a5 a6 : Reg) (c0 c1 c2 c3 c6 c7 c8 c9 : V) (out : List Rw) (cells : List V) (off n : Nat) (hn : cells.length = off + n) (L : List Reg) (hl : cells.length ≤ 100000000) :
    vI Go.Proofs.Try.prog 60 [.ptr 2 0] (a0 :: a1 :: bxS [c0, c1, c2, c3, .sl 7 0 out.length, .sl 8 off n, c6, c7, c8, c9] :: a3 :: a4 :: a5 :: a6 :: rwR out :: ⟨84, 1, cells, 0⟩ :: L)
      (fun r K => ∃ (o' : Nat) (pre : List V), pre.length = o' ∧ (o' = off ∨ o' = 0) ∧ r = .tup [] ∧ K = a0 :: a1 :: bxS [c0, c1, c2, c3, xx, .sl ((L ++ [(⟨84, 1, [.sl 7 0 out.length], 0⟩ : Reg)]).length + 9) o' (n + 1), c6, c7, c8, c9] :: a3 :: a4 :: a5 :: a6 :: rwR out :: ⟨84, 1, cells, 2⟩ :: (L ++ [⟨84, 1, [.sl 7 0 out.length], 0⟩] ++ [⟨84, 1, pre ++ cells.drop off ++ [.sl 7 0 out.length], 0⟩])) true := by
  refine lc [] Go.Proofs.Try.func60 rfl rfl ?_
  simp only [Go.Proofs.Try.ntmps60, List.length_cons, List.length_nil, Nat.reduceAdd, Nat.reduceSub, List.replicate_succ, List.replicate_zero, List.cons_append, List.nil_append]
  repeat' first | refine zL ?_ | refine zA ?_ | (refine isA ?_; refine zg rfl ?_) | (refine isL ?_; refine zW rfl (by kernel_rfl) rfl rfl ?_) | (refine zd rfl ?_; refine zV rfl (by kernel_rfl) rfl rfl ?_) | refine zD ?_ | refine zB _ rfl (by kernel_rfl) ?_ | refine zX rfl ?_ | refine zY rfl ?_ | refine zC ?_ | with_reducible refine zO ?_ | refine zI ?_ | refine zJ ?_ | (with_reducible first | refine zM ?_ | refine zN ?_ | refine zF ?_ | refine zH ?_ | refine zG ?_) | refine zP ?_
  refine sG 14 (fun H => H[2]? = some (bxS [c0, c1, c2, c3, .sl 7 0 out.length, .sl 8 off n, c6, c7, c8, c9])) 15 rfl ?_
  refine yc 0 (Or.inr rfl) rfl rfl (by kernel_rfl) rfl (fun _ => rfl) rfl ?_
  refine yc 1 (Or.inr rfl) rfl rfl (by kernel_rfl) rfl (fun _ => rfl) rfl ?_
  refine yc 2 (Or.inr rfl) rfl rfl (by kernel_rfl) rfl (fun _ => rfl) rfl ?_
  refine yc 3 (Or.inr rfl) rfl rfl (by kernel_rfl) rfl (fun _ => rfl) rfl ?_
  refine vi 4 rfl (by kernel_rfl) rfl (by kernel_rfl) rfl (fun _ hG => xE rfl rfl hG rfl rfl) rfl ?_
  refine yc 5 (Or.inr rfl) rfl rfl (by kernel_rfl) rfl (fun _ => rfl) rfl ?_
  refine yc 6 (Or.inr rfl) rfl rfl (by kernel_rfl) rfl (fun _ => rfl) rfl ?_
  refine yc 7 (Or.inr rfl) rfl rfl (by kernel_rfl) rfl (fun _ => rfl) rfl ?_
  refine vi 8 rfl (by kernel_rfl) rfl (by kernel_rfl) rfl (fun _ hG => xE rfl rfl hG rfl rfl) rfl ?_
  refine yc 9 (Or.inr rfl) rfl rfl (by kernel_rfl) rfl (fun _ => rfl) rfl ?_
  refine wQ 10 (by kernel_rfl) rfl rfl rfl (Or.inr rfl) rfl ?_
  refine ke 11 (by kernel_rfl) rfl rfl (eP rfl rfl rfl rfl (zb rfl) rfl hn hl) (fun v H' hq => Or.inr ?_) (fun v H' hq => ?_)
  · obtain ⟨o', pre, p1, p2, rfl, rfl⟩ := hq
    rfl
  · obtain ⟨o', pre, p1, p2, rfl, rfl⟩ := hq
    refine ⟨_, _, rfl, ?_⟩
    refine yc 12 (Or.inr rfl) rfl rfl (by kernel_rfl) rfl (fun _ => rfl) rfl ?_
    refine yc 13 (Or.inr rfl) rfl rfl (by kernel_rfl) rfl (fun _ => rfl) rfl ?_
    refine wQ 14 (by kernel_rfl) rfl rfl rfl (Or.inl (by kernel_rfl)) rfl ?_
    refine uK (by kernel_rfl) ?_
    repeat' first | refine zL ?_ | refine zA ?_ | refine zQ [] ?_ | (refine isA ?_; refine zg rfl ?_) | (refine isL ?_; refine zW rfl (by kernel_rfl) rfl rfl ?_) | (refine zd rfl ?_; refine zV rfl (by kernel_rfl) rfl rfl ?_) | refine zD ?_ | refine zB _ rfl (by kernel_rfl) ?_ | refine zX rfl ?_ | refine zY rfl ?_ | refine zC ?_ | with_reducible refine zO ?_ | refine zI ?_ | refine zJ ?_ | (with_reducible first | refine zM ?_ | refine zN ?_ | refine zF ?_ | refine zH ?_ | refine zG ?_) | refine zP ?_
    exact ez (Or.inr rfl) ⟨o', pre, p1, p2, rfl, rfl⟩
end Go.Proofs.Ytojcojanokhnaaa.Ab
namespace Go.Proofs.Ytojcojanokhnaaa.Ab
open Go.RowKit
theorem dR (s : So) (g : Int) (a : Rn) (r : Rw) (i : Nat) (hok : okSo s) (hp : s.ph = 3) (hr : s.runs = [a]) (hi : s.lp = (i : Int)) (h1 : a[i]? = some r) : AW Go.Proofs.Try.prog uk (stQ s (vu s) g [r]) (stT s s g []) := by
  obtain ⟨inp, pos, heap, dfr, out, runs, lp, rp, ph, wr⟩ := s
  simp only at hp hr hi
  subst hp hr hi
  have g3 := hok.input
  have g6 := hok.tot
  simp only at g3 g6
  have hlt := (List.getElem?_eq_some_iff.1 h1).1
  have ha : a.length ≤ 10000000 := by simpa [tot] using g6
  have ew : IntKind.i64.wrap ((i : Int) + 1) = (i : Int) + 1 := by rw [IntKind.wrap_i64]; omega
  repeat' first | (refine tn rfl ?_; refine zT rfl (by kernel_rfl) rfl (yR rfl rfl rfl rfl rfl) rfl ?_) | (refine xR rfl ?_; refine tm rfl (by kernel_rfl) rfl (yU (t := rwT) (xs := []) (ys := [r]) rfl rfl rfl rfl (.lst _ _) (by simp) rfl) rfl ?_) | refine zL ?_ | refine zA ?_ | refine zQ [11] ?_ | (refine isA ?_; refine zg rfl ?_) | (refine isL ?_; refine zW rfl (by kernel_rfl) rfl rfl ?_) | (refine zd rfl ?_; refine zV rfl (by kernel_rfl) rfl rfl ?_) | (refine z7 (x := .tmp 226) ?_; refine za rfl (zn (j := 0) rfl rfl rfl (Nat.zero_le _) rfl rfl (by decide) (by simp)) rfl ?_) | (refine z6 (x := .tmp 226) rfl ?_; refine zT rfl (by kernel_rfl) rfl (zn (j := 0) rfl rfl rfl (Nat.zero_le _) rfl rfl (by decide) (by simp)) rfl ?_) | (refine z7 (x := .tmp 229) ?_; refine za rfl (zn (j := (i : Int)) rfl rfl rfl (Nat.zero_le _) rfl rfl (Int.natCast_nonneg _) (by omega)) rfl ?_) | (refine z6 (x := .tmp 229) rfl ?_; refine zT rfl (by kernel_rfl) rfl (zn (j := (i : Int)) rfl rfl rfl (Nat.zero_le _) rfl rfl (Int.natCast_nonneg _) (by omega)) rfl ?_) | (refine yt (x := .tmp 232) ?_; refine za rfl (yx (T := rwT) (i := 0 + i) (z := r) rfl rfl rfl (by rw [Nat.zero_add]; exact h1)) rfl ?_) | (refine yr (x := .tmp 232) rfl ?_; refine zT rfl (by kernel_rfl) rfl (yx (T := rwT) (i := 0 + i) (z := r) rfl rfl rfl (by rw [Nat.zero_add]; exact h1)) rfl ?_) | refine zD ?_ | refine zB _ rfl (by kernel_rfl) ?_ | refine zX rfl ?_ | refine zY rfl ?_ | refine zC ?_ | with_reducible refine zO ?_ | refine zI ?_ | refine zJ ?_ | (with_reducible first | refine zM ?_ | refine zN ?_ | refine zF ?_ | refine zH ?_ | refine zG ?_) | refine zP ?_
  refine zj rfl (fun h => ?_) (fun h => ?_)
  · have e : vu ⟨inp, pos, heap, dfr, out, [a], (i : Int), rp, 3, wr⟩ = ⟨inp, pos, heap, dfr, out, [a], (i : Int) + 1, rp, 4, wr⟩ := by
      have h' : decide ((i : Int) + 1 = (inp.length : Int)) = true := by rw [← ew]; exact h
      simp only [vu, h', cond_true]
    rw [e]
    repeat' first | refine zL ?_ | refine zA ?_ | refine zQ [] ?_ | (refine isA ?_; refine zg rfl ?_) | (refine isL ?_; refine zW rfl (by kernel_rfl) rfl rfl ?_) | (refine zd rfl ?_; refine zV rfl (by kernel_rfl) rfl rfl ?_) | refine zD ?_ | refine zB _ rfl (by kernel_rfl) ?_ | refine zX rfl ?_ | refine zY rfl ?_ | refine zC ?_ | with_reducible refine zO ?_ | refine zI ?_ | refine zJ ?_ | (with_reducible first | refine zM ?_ | refine zN ?_ | refine zF ?_ | refine zH ?_ | refine zG ?_) | refine zP ?_
    refine And.intro rfl (wV [0, 1, 2, 10, 4, 5, 6, 7, 8] (List.range' 9 1) rfl rfl (by decide) (by repeat' first | exact HLes.nil | refine HLes.cons rfl rfl rfl rfl (zU (zE _ _)) ?_ | refine HLes.cons rfl rfl rfl rfl (z9 rfl) ?_ | refine HLes.cons rfl rfl rfl rfl (xM (fun j hj => xL _ 9 _ j hj)) ?_ | refine HLes.cons (z1 (zb xH)) rfl rfl rfl (zU (zE _ _)) ?_ | refine HLes.cons (z1 (zb y7)) rfl rfl rfl (zU (zE _ _)) ?_ | refine HLes.cons (z1 (zb y6)) rfl rfl rfl (zU (zE _ _)) ?_ | refine HLes.cons (z1 (zb xG)) rfl rfl rfl (zU (zE _ _)) ?_ | refine HLes.cons (z1 (zZ (zb xH))) rfl rfl rfl (zU (zE _ _)) ?_ | refine HLes.cons (z1 (zZ (zb y7))) rfl rfl rfl (zU (zE _ _)) ?_ | refine HLes.cons (z1 (zZ (zb y6))) rfl rfl rfl (zU (zE _ _)) ?_ | refine HLes.cons (z1 (zZ (zb xG))) rfl rfl rfl (zU (zE _ _)) ?_ | refine HLes.cons (z1 (zZ (zZ (zb xH)))) rfl rfl rfl (zU (zE _ _)) ?_ | refine HLes.cons (z1 (zZ (zZ (zb y7)))) rfl rfl rfl (zU (zE _ _)) ?_ | refine HLes.cons (z1 (zZ (zZ (zb y6)))) rfl rfl rfl (zU (zE _ _)) ?_ | refine HLes.cons (z1 (zZ (zZ (zb xG)))) rfl rfl rfl (zU (zE _ _)) ?_ | refine HLes.cons rfl rfl rfl rfl (by repeat' first | exact zk | refine zc ?_ ?_ | exact zo | exact le_refl rfl | exact zm rfl rfl | exact zt rfl | exact zt (congrArg some (by simp [zh] <;> omega)) | exact zm rfl (by simp) | exact zm (congrArg some (by simp [zh] <;> omega)) rfl | exact zm (congrArg some (by simp [zh] <;> omega)) (by simp [yk, endV, yO]) | exact z8 (congrArg _ (by assumption)) | exact z8 (congrArg _ (Eq.symm (by assumption)))) ?_) (fun j i x hi hx => by rw [ix9 hi]; exact v9 (zZ (yV hx))) (by repeat' first | exact zk | refine zc ?_ ?_ | exact zo | exact le_refl rfl | exact zm rfl rfl | exact zt rfl | exact zt (congrArg some (by simp [zh] <;> omega)) | exact zm rfl (by simp) | exact zm (congrArg some (by simp [zh] <;> omega)) rfl | exact zm (congrArg some (by simp [zh] <;> omega)) (by simp [yk, endV, yO]) | exact z8 (congrArg _ (by assumption)) | exact z8 (congrArg _ (Eq.symm (by assumption)))))
  · have e : vu ⟨inp, pos, heap, dfr, out, [a], (i : Int), rp, 3, wr⟩ = ⟨inp, pos, heap, dfr, out, [a], (i : Int) + 1, rp, 3, wr⟩ := by
      have h' : decide ((i : Int) + 1 = (inp.length : Int)) = false := by rw [← ew]; exact h
      simp only [vu, h', cond_false]
    rw [e]
    repeat' first | refine zL ?_ | refine zA ?_ | refine zQ [] ?_ | (refine isA ?_; refine zg rfl ?_) | (refine isL ?_; refine zW rfl (by kernel_rfl) rfl rfl ?_) | (refine zd rfl ?_; refine zV rfl (by kernel_rfl) rfl rfl ?_) | refine zD ?_ | refine zB _ rfl (by kernel_rfl) ?_ | refine zX rfl ?_ | refine zY rfl ?_ | refine zC ?_ | with_reducible refine zO ?_ | refine zI ?_ | refine zJ ?_ | (with_reducible first | refine zM ?_ | refine zN ?_ | refine zF ?_ | refine zH ?_ | refine zG ?_) | refine zP ?_
    refine And.intro rfl (wV [0, 1, 2, 10, 4, 5, 6, 7, 8] (List.range' 9 1) rfl rfl (by decide) (by repeat' first | exact HLes.nil | refine HLes.cons rfl rfl rfl rfl (zU (zE _ _)) ?_ | refine HLes.cons rfl rfl rfl rfl (z9 rfl) ?_ | refine HLes.cons rfl rfl rfl rfl (xM (fun j hj => xL _ 9 _ j hj)) ?_ | refine HLes.cons (z1 (zb xH)) rfl rfl rfl (zU (zE _ _)) ?_ | refine HLes.cons (z1 (zb y7)) rfl rfl rfl (zU (zE _ _)) ?_ | refine HLes.cons (z1 (zb y6)) rfl rfl rfl (zU (zE _ _)) ?_ | refine HLes.cons (z1 (zb xG)) rfl rfl rfl (zU (zE _ _)) ?_ | refine HLes.cons (z1 (zZ (zb xH))) rfl rfl rfl (zU (zE _ _)) ?_ | refine HLes.cons (z1 (zZ (zb y7))) rfl rfl rfl (zU (zE _ _)) ?_ | refine HLes.cons (z1 (zZ (zb y6))) rfl rfl rfl (zU (zE _ _)) ?_ | refine HLes.cons (z1 (zZ (zb xG))) rfl rfl rfl (zU (zE _ _)) ?_ | refine HLes.cons (z1 (zZ (zZ (zb xH)))) rfl rfl rfl (zU (zE _ _)) ?_ | refine HLes.cons (z1 (zZ (zZ (zb y7)))) rfl rfl rfl (zU (zE _ _)) ?_ | refine HLes.cons (z1 (zZ (zZ (zb y6)))) rfl rfl rfl (zU (zE _ _)) ?_ | refine HLes.cons (z1 (zZ (zZ (zb xG)))) rfl rfl rfl (zU (zE _ _)) ?_ | refine HLes.cons rfl rfl rfl rfl (by repeat' first | exact zk | refine zc ?_ ?_ | exact zo | exact le_refl rfl | exact zm rfl rfl | exact zt rfl | exact zt (congrArg some (by simp [zh] <;> omega)) | exact zm rfl (by simp) | exact zm (congrArg some (by simp [zh] <;> omega)) rfl | exact zm (congrArg some (by simp [zh] <;> omega)) (by simp [yk, endV, yO]) | exact z8 (congrArg _ (by assumption)) | exact z8 (congrArg _ (Eq.symm (by assumption)))) ?_) (fun j i x hi hx => by rw [ix9 hi]; exact v9 (zZ (yV hx))) (by repeat' first | exact zk | refine zc ?_ ?_ | exact zo | exact le_refl rfl | exact zm rfl rfl | exact zt rfl | exact zt (congrArg some (by simp [zh] <;> omega)) | exact zm rfl (by simp) | exact zm (congrArg some (by simp [zh] <;> omega)) rfl | exact zm (congrArg some (by simp [zh] <;> omega)) (by simp [yk, endV, yO]) | exact z8 (congrArg _ (by assumption)) | exact z8 (congrArg _ (Eq.symm (by assumption)))))
end Go.Proofs.Ytojcojanokhnaaa.Ab
namespace Go.Proofs.Ytojcojanokhnaaa.Ab
open Go.RowKit
abbrev zR : Reg := ⟨78, 3, [I 0, I 0, I 0], 0⟩
abbrev T32 (s : So) (g : Int) (n m : Nat) (c : Bool) : St := ⟨(.any :: (I g) :: (.ptr 0 0) :: .any :: (.ptr 1 0) :: .any :: .any :: (.ptr 2 0) :: (.sl 3 0 0) :: .any :: .any :: .any :: (.sl 9 0 n) :: (.sl 10 0 m) :: (.ptr (stH s s []).length 0) :: .any :: .any :: .any :: .any :: .any :: .any :: .any :: .any :: .any :: .any :: .any :: .any :: .any :: .any :: .any :: .any :: .any :: .any :: .any :: .any :: .any :: .any :: .any :: .any :: .any :: .any :: .any :: .any :: .any :: .any :: .any :: .any :: .any :: .any :: .any :: .any :: .any :: .any :: .any :: .any :: .any :: .any :: .any :: .any :: .any :: .any :: .any :: .any :: .any :: .any :: .any :: .any :: .any :: .any :: .any :: .any :: .any :: .any :: .any :: .any :: .any :: .any :: .any :: .any :: .any :: .any :: .any :: .any :: .any :: .any :: .any :: .any :: .any :: .any :: .any :: .any :: .any :: .any :: .any :: .any :: .any :: .any :: .any :: .any :: .any :: .any :: .any :: .any :: .any :: .any :: .any :: .any :: .any :: .any :: .any :: .any :: .any :: .any :: .any :: .any :: .any :: .any :: .any :: .any :: .any :: .any :: .any :: .any :: .any :: .any :: .any :: .any :: .any :: .any :: .any :: .any :: .any :: .any :: .any :: .any :: .any :: .any :: .any :: .any :: .any :: .any :: .any :: .any :: .any :: .any :: .any :: .any :: .any :: .any :: .any :: .any :: .any :: .any :: .any :: .any :: .any :: .any :: .any :: .any :: .any :: .any :: .any :: .any :: .any :: .any :: .any :: .any :: .any :: .any :: .any :: .any :: .any :: .any :: .any :: .any :: .any :: .any :: .any :: .any :: .any :: .any :: .any :: .any :: .any :: .any :: .any :: .any :: .any :: .any :: .any :: .any :: (B c) :: .any :: .any :: .any :: .any :: .any :: .any :: .any :: .any :: .any :: .any :: .any :: .any :: .any :: .any :: .any :: .any :: .any :: .any :: .any :: .any :: .any :: .any :: .any :: .any :: .any :: .any :: .any :: .any :: .any :: .any :: .any :: .any :: .any :: .any :: .any :: .any :: .any :: .any :: .any :: .any :: .any :: .any :: .any :: .any :: .any :: .any :: .any :: .any :: .any :: .any :: .any :: .any :: .any :: .any :: .any :: .any :: .any :: []), stH s s [] ++ [zR], 0⟩
theorem dO (inp heap dfr out : List Rw) (pos wr g : Int) (a b : Rn) (rest : List Rn) (i k : Nat) (r : Rw) (hok : okSo ⟨inp, pos, heap, dfr, out, a :: b :: rest, i, k, 2, wr⟩) (h1 : a[i]? = some r) (hk : k ≤ b.length) (h2 : ∀ q, b[k]? = some q → leW r q) :
    AW Go.Proofs.Try.prog uk (stQ ⟨inp, pos, heap, dfr, out, a :: b :: rest, i, k, 2, wr⟩ (pm ⟨inp, pos, heap, dfr, out, a :: b :: rest, i, k, 2, wr⟩ r) g []) (stT ⟨inp, pos, heap, dfr, out, a :: b :: rest, i, k, 2, wr⟩ ⟨inp, pos, heap, dfr, out, a :: b :: rest, i, k, 2, wr⟩ g []) := by
  have g4 := hok.out
  have g6 := hok.tot
  simp only [tot, List.map_cons, List.sum_cons] at g4 g6
  have hlt := (List.getElem?_eq_some_iff.1 h1).1
  have ew : IntKind.i64.wrap ((i : Int) + 1) = (i : Int) + 1 := by rw [IntKind.wrap_i64]; omega
  repeat' first | refine zL ?_ | refine zA ?_ | refine zQ [] ?_ | (refine isA ?_; refine zg rfl ?_) | (refine isL ?_; refine zW rfl (by kernel_rfl) rfl rfl ?_) | (refine zd rfl ?_; refine zV rfl (by kernel_rfl) rfl rfl ?_) | (refine z7 (x := .tmp 138) ?_; refine za rfl (zn (j := 0) rfl rfl rfl (Nat.zero_le _) rfl rfl (by decide) (by simp; omega)) rfl ?_) | (refine z6 (x := .tmp 138) rfl ?_; refine zT rfl (by kernel_rfl) rfl (zn (j := 0) rfl rfl rfl (Nat.zero_le _) rfl rfl (by decide) (by simp; omega)) rfl ?_) | (refine z7 (x := .tmp 143) ?_; refine za rfl (zn (j := 1) rfl rfl rfl (Nat.zero_le _) rfl rfl (by decide) (by simp; omega)) rfl ?_) | (refine z6 (x := .tmp 143) rfl ?_; refine zT rfl (by kernel_rfl) rfl (zn (j := 1) rfl rfl rfl (Nat.zero_le _) rfl rfl (by decide) (by simp; omega)) rfl ?_) | refine zD ?_ | refine zB _ rfl (by kernel_rfl) ?_ | refine zX rfl ?_ | refine zY rfl ?_ | refine zC ?_ | with_reducible refine zO ?_ | refine zI ?_ | refine zJ ?_ | (with_reducible first | refine zM ?_ | refine zN ?_ | refine zF ?_ | refine zH ?_ | refine zG ?_) | refine zP ?_
  refine yW rfl rfl (fun h => absurd (of_decide_eq_true h) (by simp only; omega)) (fun _ => ?_)
  repeat' first | (refine xK 32 (T32 ⟨inp, pos, heap, dfr, out, a :: b :: rest, i, k, 2, wr⟩ g a.length b.length true) (y3 ?_) ?_) | refine zL ?_ | refine zA ?_ | refine zQ [] ?_ | (refine isA ?_; refine zg rfl ?_) | (refine isL ?_; refine zW rfl (by kernel_rfl) rfl rfl ?_) | (refine zd rfl ?_; refine zV rfl (by kernel_rfl) rfl rfl ?_) | (refine vK (x := .tmp 14) ?_; refine za rfl (xh (vs := [I 0, I 0, I 0]) rfl rfl rfl rfl rfl (fun c hc => by simp at hc; subst hc; rfl) rfl rfl) rfl ?_) | (refine vJ (x := .tmp 14) rfl ?_; refine zT rfl (by kernel_rfl) rfl (xh (vs := [I 0, I 0, I 0]) rfl rfl rfl rfl rfl (fun c hc => by simp at hc; subst hc; rfl) rfl rfl) rfl ?_) | refine zD ?_ | refine zB _ rfl (by kernel_rfl) ?_ | refine zX rfl ?_ | refine zY rfl ?_ | refine zC ?_ | with_reducible refine zO ?_ | refine zI ?_ | refine zJ ?_ | (with_reducible first | refine zM ?_ | refine zN ?_ | refine zF ?_ | refine zH ?_ | refine zG ?_) | refine zP ?_
  · refine xY ?_
    repeat' first | refine zL ?_ | refine zA ?_ | refine zQ [] ?_ | (refine isA ?_; refine zg rfl ?_) | (refine isL ?_; refine zW rfl (by kernel_rfl) rfl rfl ?_) | (refine zd rfl ?_; refine zV rfl (by kernel_rfl) rfl rfl ?_) | refine zD ?_ | refine zB _ rfl (by kernel_rfl) ?_ | refine zX rfl ?_ | refine zY rfl ?_ | refine zC ?_ | with_reducible refine zO ?_ | refine zI ?_ | refine zJ ?_ | (with_reducible first | refine zM ?_ | refine zN ?_ | refine zF ?_ | refine zH ?_ | refine zG ?_) | refine zP ?_
    refine yG rfl rfl rfl rfl (fun h => ?_) (fun h => ?_)
    · repeat' first | refine zL ?_ | refine zA ?_ | refine zQ [] ?_ | (refine isA ?_; refine zg rfl ?_) | (refine isL ?_; refine zW rfl (by kernel_rfl) rfl rfl ?_) | (refine zd rfl ?_; refine zV rfl (by kernel_rfl) rfl rfl ?_) | exact ⟨rfl, yg rfl (by repeat' first | exact EqS.nil | refine EqS.any ?_ | refine EqS.same rfl ?_)⟩ | refine zD ?_ | refine zB _ rfl (by kernel_rfl) ?_ | refine zX rfl ?_ | refine zY rfl ?_ | refine zC ?_ | with_reducible refine zO ?_ | refine zI ?_ | refine zJ ?_ | (with_reducible first | refine zM ?_ | refine zN ?_ | refine zF ?_ | refine zH ?_ | refine zG ?_) | refine zP ?_
    · have hkl : k < b.length := by have := of_decide_eq_false h; simp only at this; omega
      obtain ⟨q, hq⟩ : ∃ z, b[k]? = some z := ⟨_, List.getElem?_eq_getElem hkl⟩
      have hle : decide (y8 r q ≤ 0) = true := decide_eq_true (h2 q hq)
      repeat' first | refine zL ?_ | refine zA ?_ | refine zQ [] ?_ | (refine isA ?_; refine zg rfl ?_) | (refine isL ?_; refine zW rfl (by kernel_rfl) rfl rfl ?_) | (refine zd rfl ?_; refine zV rfl (by kernel_rfl) rfl rfl ?_) | refine zD ?_ | refine zB _ rfl (by kernel_rfl) ?_ | refine zX rfl ?_ | refine zY rfl ?_ | refine zC ?_ | with_reducible refine zO ?_ | refine zI ?_ | refine zJ ?_ | (with_reducible first | refine zM ?_ | refine zN ?_ | refine zF ?_ | refine zH ?_ | refine zG ?_) | refine zP ?_
      refine yG rfl rfl rfl rfl (fun _ => ?_) (fun h => absurd (of_decide_eq_false h) (by simp only; omega))
      repeat' first | refine zL ?_ | refine zA ?_ | refine zQ [] ?_ | (refine isA ?_; refine zg rfl ?_) | (refine isL ?_; refine zW rfl (by kernel_rfl) rfl rfl ?_) | (refine zd rfl ?_; refine zV rfl (by kernel_rfl) rfl rfl ?_) | (refine z7 (x := .tmp 178) ?_; refine za rfl (zn (j := (i : Int)) rfl rfl rfl (Nat.zero_le _) rfl rfl (Int.natCast_nonneg _) (by omega)) rfl ?_) | (refine z6 (x := .tmp 178) rfl ?_; refine zT rfl (by kernel_rfl) rfl (zn (j := (i : Int)) rfl rfl rfl (Nat.zero_le _) rfl rfl (Int.natCast_nonneg _) (by omega)) rfl ?_) | (refine z7 (x := .tmp 183) ?_; refine za rfl (zn (j := (k : Int)) rfl rfl rfl (Nat.zero_le _) rfl rfl (Int.natCast_nonneg _) (by omega)) rfl ?_) | (refine z6 (x := .tmp 183) rfl ?_; refine zT rfl (by kernel_rfl) rfl (zn (j := (k : Int)) rfl rfl rfl (Nat.zero_le _) rfl rfl (Int.natCast_nonneg _) (by omega)) rfl ?_) | (refine yt (x := .tmp 181) ?_; refine za rfl (yx (T := rwT) (i := 0 + i) (z := r) rfl rfl rfl (by rw [Nat.zero_add]; exact h1)) rfl ?_) | (refine yr (x := .tmp 181) rfl ?_; refine zT rfl (by kernel_rfl) rfl (yx (T := rwT) (i := 0 + i) (z := r) rfl rfl rfl (by rw [Nat.zero_add]; exact h1)) rfl ?_) | (refine yt (x := .tmp 186) ?_; refine za rfl (yx (T := rwT) (i := 0 + k) (z := q) rfl rfl rfl (by rw [Nat.zero_add]; exact hq)) rfl ?_) | (refine yr (x := .tmp 186) rfl ?_; refine zT rfl (by kernel_rfl) rfl (yx (T := rwT) (i := 0 + k) (z := q) rfl rfl rfl (by rw [Nat.zero_add]; exact hq)) rfl ?_) | (refine zp 64 ?_; refine za rfl (zK rfl (xW r q) (.cons (.same rfl) (.cons (.same rfl) .nil)) rfl) rfl ?_) | (refine zq 64 rfl ?_; refine zT rfl (by kernel_rfl) rfl (zK rfl (xW r q) (.cons (.same rfl) (.cons (.same rfl) .nil)) rfl) rfl ?_) | exact ⟨rfl, yg rfl (by repeat' first | exact EqS.nil | refine EqS.any ?_ | refine EqS.same rfl ?_ | refine EqS.same (congrArg B hle) ?_)⟩ | refine zD ?_ | refine zB _ rfl (by kernel_rfl) ?_ | refine zX rfl ?_ | refine zY rfl ?_ | refine zC ?_ | with_reducible refine zO ?_ | refine zI ?_ | refine zJ ?_ | (with_reducible first | refine zM ?_ | refine zN ?_ | refine zF ?_ | refine zH ?_ | refine zG ?_) | refine zP ?_
  · repeat' first | (refine isA ?_; refine za rfl (yR rfl rfl rfl rfl rfl) rfl ?_) | refine zL ?_ | refine zA ?_ | refine zQ [6] ?_ | (refine isA ?_; refine zg rfl ?_) | (refine isL ?_; refine zW rfl (by kernel_rfl) rfl rfl ?_) | (refine zd rfl ?_; refine zV rfl (by kernel_rfl) rfl rfl ?_) | (refine z7 (x := .tmp 192) ?_; refine za rfl (zn (j := (i : Int)) rfl rfl rfl (Nat.zero_le _) rfl rfl (Int.natCast_nonneg _) (by omega)) rfl ?_) | (refine z6 (x := .tmp 192) rfl ?_; refine zT rfl (by kernel_rfl) rfl (zn (j := (i : Int)) rfl rfl rfl (Nat.zero_le _) rfl rfl (Int.natCast_nonneg _) (by omega)) rfl ?_) | (refine yt (x := .tmp 195) ?_; refine za rfl (yx (T := rwT) (i := 0 + i) (z := r) rfl rfl rfl (by rw [Nat.zero_add]; exact h1)) rfl ?_) | (refine yr (x := .tmp 195) rfl ?_; refine zT rfl (by kernel_rfl) rfl (yx (T := rwT) (i := 0 + i) (z := r) rfl rfl rfl (by rw [Nat.zero_add]; exact h1)) rfl ?_) | (refine vK (x := .tmp 14) ?_; refine za rfl (xh rfl rfl rfl rfl rfl (wh r) rfl rfl) rfl ?_) | (refine vJ (x := .tmp 14) rfl ?_; refine zT rfl (by kernel_rfl) rfl (xh rfl rfl rfl rfl rfl (wh r) rfl rfl) rfl ?_) | (refine yt (x := .tmp 14) ?_; refine za rfl (yL rfl rfl (zb rfl) rfl rfl) rfl ?_) | (refine yr (x := .tmp 14) rfl ?_; refine zT rfl (by kernel_rfl) rfl (yL rfl rfl (zb rfl) rfl rfl) rfl ?_) | (refine yt (x := .tmp 14) ?_; refine za rfl (yL rfl rfl (z1 (j := (nR rwT 78 (a :: b :: rest)).length) (zZ (zb rfl))) rfl rfl) rfl ?_) | (refine yr (x := .tmp 14) rfl ?_; refine zT rfl (by kernel_rfl) rfl (yL rfl rfl (z1 (j := (nR rwT 78 (a :: b :: rest)).length) (zZ (zb rfl))) rfl rfl) rfl ?_) | (refine xt ?_; refine za rfl (yU (t := rwT) (xs := out) (ys := [r]) rfl rfl rfl rfl (.lst _ _) (by simp; omega) rfl) rfl ?_) | (refine xR rfl ?_; refine zT rfl (by kernel_rfl) rfl (yU (t := rwT) (xs := out) (ys := [r]) rfl rfl rfl rfl (.lst _ _) (by simp; omega) rfl) rfl ?_) | (refine zp 58 ?_; refine za rfl (zK rfl (w4 r) (.cons (.same rfl) .nil) rfl) rfl ?_) | (refine zq 58 rfl ?_; refine zT rfl (by kernel_rfl) rfl (zK rfl (w4 r) (.cons (.same rfl) .nil) rfl) rfl ?_) | (refine isL ?_; refine vQ rfl (by kernel_rfl) rfl rfl ?_) | refine zD ?_ | refine zB _ rfl (by kernel_rfl) ?_ | refine zX rfl ?_ | refine zY rfl ?_ | refine zC ?_ | with_reducible refine zO ?_ | refine zI ?_ | refine zJ ?_ | (with_reducible first | refine zM ?_ | refine zN ?_ | refine zF ?_ | refine zH ?_ | refine zG ?_) | refine zP ?_
    refine And.intro rfl (wV [0, 1, 2, 3, 4, 5, 6, (a :: b :: rest).length + 1 + 9, 8] (List.range' 9 (a :: b :: rest).length) rfl (by simp [pm]) (yb (by simp <;> omega) (fun h hh => by simp at hh; simp; omega)) (by repeat' first | exact HLes.nil | refine HLes.cons rfl rfl rfl rfl (zU (zE _ _)) ?_ | refine HLes.cons rfl rfl rfl rfl (z9 rfl) ?_ | refine HLes.cons rfl rfl rfl rfl (xM (fun j hj => xL _ 9 _ j hj)) ?_ | refine HLes.cons (z1 (zb xH)) rfl rfl rfl (zU (zE _ _)) ?_ | refine HLes.cons (z1 (zb y7)) rfl rfl rfl (zU (zE _ _)) ?_ | refine HLes.cons (z1 (zb y6)) rfl rfl rfl (zU (zE _ _)) ?_ | refine HLes.cons (z1 (zb xG)) rfl rfl rfl (zU (zE _ _)) ?_ | refine HLes.cons (z1 (zZ (zb xH))) rfl rfl rfl (zU (zE _ _)) ?_ | refine HLes.cons (z1 (zZ (zb y7))) rfl rfl rfl (zU (zE _ _)) ?_ | refine HLes.cons (z1 (zZ (zb y6))) rfl rfl rfl (zU (zE _ _)) ?_ | refine HLes.cons (z1 (zZ (zb xG))) rfl rfl rfl (zU (zE _ _)) ?_ | refine HLes.cons (z1 (zZ (zZ (zb xH)))) rfl rfl rfl (zU (zE _ _)) ?_ | refine HLes.cons (z1 (zZ (zZ (zb y7)))) rfl rfl rfl (zU (zE _ _)) ?_ | refine HLes.cons (z1 (zZ (zZ (zb y6)))) rfl rfl rfl (zU (zE _ _)) ?_ | refine HLes.cons (z1 (zZ (zZ (zb xG)))) rfl rfl rfl (zU (zE _ _)) ?_ | refine HLes.cons rfl rfl rfl rfl (by repeat' first | exact zk | refine zc ?_ ?_ | exact zo | exact le_refl rfl | exact zm rfl rfl | exact zt rfl | exact zt (congrArg some (by simp [zh] <;> omega)) | exact zm rfl (by simp) | exact zm (congrArg some (by simp [zh] <;> omega)) rfl | exact zm (congrArg some (by simp [zh] <;> omega)) (by simp [yk, endV, yO]) | exact z8 (congrArg _ (by assumption)) | exact z8 (congrArg _ (Eq.symm (by assumption)))) ?_) (fun j i x hi hx => by rw [ix9 hi]; exact v9 (zZ (zZ (yV hx)))) (by repeat' first | exact zk | refine zc ?_ ?_ | exact zo | exact le_refl rfl | exact zm rfl rfl | exact zt rfl | exact zt (congrArg some (by simp [zh] <;> omega)) | exact zm rfl (by simp) | exact zm (congrArg some (by simp [zh] <;> omega)) rfl | exact zm (congrArg some (by simp [zh] <;> omega)) (by simp [yk, endV, yO]) | exact z8 (congrArg _ (by assumption)) | exact z8 (congrArg _ (Eq.symm (by assumption)))))
end Go.Proofs.Ytojcojanokhnaaa.Ab
namespace Go.Proofs.Ytojcojanokhnaaa.Ab
open Go.RowKit
abbrev T27 (s : So) (g : Int) (n m : Nat) (c : Bool) : St := ⟨(.any :: (I g) :: (.ptr 0 0) :: .any :: (.ptr 1 0) :: .any :: .any :: (.ptr 2 0) :: (.sl 3 0 0) :: .any :: .any :: .any :: (.sl 9 0 n) :: (.sl 10 0 m) :: .any :: .any :: .any :: .any :: .any :: .any :: .any :: .any :: .any :: .any :: .any :: .any :: .any :: .any :: .any :: .any :: .any :: .any :: .any :: .any :: .any :: .any :: .any :: .any :: .any :: .any :: .any :: .any :: .any :: .any :: .any :: .any :: .any :: .any :: .any :: .any :: .any :: .any :: .any :: .any :: .any :: .any :: .any :: .any :: .any :: .any :: .any :: .any :: .any :: .any :: .any :: .any :: .any :: .any :: .any :: .any :: .any :: .any :: .any :: .any :: .any :: .any :: .any :: .any :: .any :: .any :: .any :: .any :: .any :: .any :: .any :: .any :: .any :: .any :: .any :: .any :: .any :: .any :: .any :: .any :: .any :: .any :: .any :: .any :: .any :: .any :: .any :: .any :: .any :: .any :: .any :: .any :: .any :: .any :: .any :: .any :: .any :: .any :: .any :: .any :: .any :: .any :: .any :: .any :: .any :: .any :: .any :: .any :: .any :: .any :: .any :: .any :: .any :: .any :: .any :: .any :: .any :: .any :: .any :: .any :: .any :: .any :: .any :: .any :: .any :: .any :: .any :: .any :: .any :: .any :: .any :: .any :: .any :: .any :: .any :: .any :: .any :: .any :: .any :: .any :: .any :: .any :: .any :: .any :: (B c) :: .any :: .any :: .any :: .any :: .any :: .any :: .any :: .any :: .any :: .any :: .any :: .any :: .any :: .any :: .any :: .any :: .any :: .any :: .any :: .any :: .any :: .any :: .any :: .any :: .any :: .any :: .any :: .any :: .any :: .any :: .any :: .any :: .any :: .any :: .any :: .any :: .any :: .any :: .any :: .any :: .any :: .any :: .any :: .any :: .any :: .any :: .any :: .any :: .any :: .any :: .any :: .any :: .any :: .any :: .any :: .any :: .any :: .any :: .any :: .any :: .any :: .any :: .any :: .any :: .any :: .any :: .any :: .any :: .any :: .any :: .any :: .any :: .any :: .any :: .any :: .any :: .any :: .any :: .any :: .any :: .any :: .any :: .any :: .any :: .any :: .any :: .any :: .any :: .any :: .any :: []), stH s s [], 0⟩
theorem fP (inp heap dfr out : List Rw) (pos wr g : Int) (a b : Rn) (rest : List Rn) (i k : Nat) (r : Rw) (hok : okSo ⟨inp, pos, heap, dfr, out, a :: b :: rest, i, k, 2, wr⟩) (h1 : b[k]? = some r) (hi : i ≤ a.length) (h2 : ∀ q, a[i]? = some q → ¬ leW q r) :
    AW Go.Proofs.Try.prog uk (stQ ⟨inp, pos, heap, dfr, out, a :: b :: rest, i, k, 2, wr⟩ (sV ⟨inp, pos, heap, dfr, out, a :: b :: rest, i, k, 2, wr⟩ r) g []) (stT ⟨inp, pos, heap, dfr, out, a :: b :: rest, i, k, 2, wr⟩ ⟨inp, pos, heap, dfr, out, a :: b :: rest, i, k, 2, wr⟩ g []) := by
  have g4 := hok.out
  have g6 := hok.tot
  simp only [tot, List.map_cons, List.sum_cons] at g4 g6
  have hlt := (List.getElem?_eq_some_iff.1 h1).1
  have ew : IntKind.i64.wrap ((k : Int) + 1) = (k : Int) + 1 := by rw [IntKind.wrap_i64]; omega
  repeat' first | (refine xK 27 (T27 ⟨inp, pos, heap, dfr, out, a :: b :: rest, i, k, 2, wr⟩ g a.length b.length false) (y3 ?_) ?_) | (refine xK 32 (T32 ⟨inp, pos, heap, dfr, out, a :: b :: rest, i, k, 2, wr⟩ g a.length b.length false) (y3 ?_) ?_) | refine zL ?_ | refine zA ?_ | refine zQ [] ?_ | (refine isA ?_; refine zg rfl ?_) | (refine isL ?_; refine zW rfl (by kernel_rfl) rfl rfl ?_) | (refine zd rfl ?_; refine zV rfl (by kernel_rfl) rfl rfl ?_) | (refine z7 (x := .tmp 138) ?_; refine za rfl (zn (j := 0) rfl rfl rfl (Nat.zero_le _) rfl rfl (by decide) (by simp; omega)) rfl ?_) | (refine z6 (x := .tmp 138) rfl ?_; refine zT rfl (by kernel_rfl) rfl (zn (j := 0) rfl rfl rfl (Nat.zero_le _) rfl rfl (by decide) (by simp; omega)) rfl ?_) | (refine z7 (x := .tmp 143) ?_; refine za rfl (zn (j := 1) rfl rfl rfl (Nat.zero_le _) rfl rfl (by decide) (by simp; omega)) rfl ?_) | (refine z6 (x := .tmp 143) rfl ?_; refine zT rfl (by kernel_rfl) rfl (zn (j := 1) rfl rfl rfl (Nat.zero_le _) rfl rfl (by decide) (by simp; omega)) rfl ?_) | (refine vK (x := .tmp 14) ?_; refine za rfl (xh (vs := [I 0, I 0, I 0]) rfl rfl rfl rfl rfl (fun c hc => by simp at hc; subst hc; rfl) rfl rfl) rfl ?_) | (refine vJ (x := .tmp 14) rfl ?_; refine zT rfl (by kernel_rfl) rfl (xh (vs := [I 0, I 0, I 0]) rfl rfl rfl rfl rfl (fun c hc => by simp at hc; subst hc; rfl) rfl rfl) rfl ?_) | refine zD ?_ | refine zB _ rfl (by kernel_rfl) ?_ | refine zX rfl ?_ | refine zY rfl ?_ | refine zC ?_ | with_reducible refine zO ?_ | refine zI ?_ | refine zJ ?_ | (with_reducible first | refine zM ?_ | refine zN ?_ | refine zF ?_ | refine zH ?_ | refine zG ?_) | refine zP ?_
  · refine xY ?_
    have hne : decide ((k : Int) = (b.length : Int)) = false := decide_eq_false (by omega)
    repeat' first | refine zL ?_ | refine zA ?_ | refine zQ [] ?_ | (refine isA ?_; refine zg rfl ?_) | (refine isL ?_; refine zW rfl (by kernel_rfl) rfl rfl ?_) | (refine zd rfl ?_; refine zV rfl (by kernel_rfl) rfl rfl ?_) | refine zD ?_ | refine zB _ rfl (by kernel_rfl) ?_ | refine zX rfl ?_ | refine zY rfl ?_ | refine zC ?_ | with_reducible refine zO ?_ | refine zI ?_ | refine zJ ?_ | (with_reducible first | refine zM ?_ | refine zN ?_ | refine zF ?_ | refine zH ?_ | refine zG ?_) | refine zP ?_
    refine yW rfl rfl (fun h => ?_) (fun h => ?_)
    · repeat' first | refine zL ?_ | refine zA ?_ | refine zQ [] ?_ | (refine isA ?_; refine zg rfl ?_) | (refine isL ?_; refine zW rfl (by kernel_rfl) rfl rfl ?_) | (refine zd rfl ?_; refine zV rfl (by kernel_rfl) rfl rfl ?_) | exact ⟨rfl, yg rfl (by repeat' first | exact EqS.nil | refine EqS.any ?_ | refine EqS.same rfl ?_ | refine EqS.same (congrArg B hne) ?_)⟩ | refine zD ?_ | refine zB _ rfl (by kernel_rfl) ?_ | refine zX rfl ?_ | refine zY rfl ?_ | refine zC ?_ | with_reducible refine zO ?_ | refine zI ?_ | refine zJ ?_ | (with_reducible first | refine zM ?_ | refine zN ?_ | refine zF ?_ | refine zH ?_ | refine zG ?_) | refine zP ?_
    · repeat' first | refine zL ?_ | refine zA ?_ | refine zQ [] ?_ | (refine isA ?_; refine zg rfl ?_) | (refine isL ?_; refine zW rfl (by kernel_rfl) rfl rfl ?_) | (refine zd rfl ?_; refine zV rfl (by kernel_rfl) rfl rfl ?_) | exact ⟨rfl, yg rfl (by repeat' first | exact EqS.nil | refine EqS.any ?_ | refine EqS.same rfl ?_)⟩ | refine zD ?_ | refine zB _ rfl (by kernel_rfl) ?_ | refine zX rfl ?_ | refine zY rfl ?_ | refine zC ?_ | with_reducible refine zO ?_ | refine zI ?_ | refine zJ ?_ | (with_reducible first | refine zM ?_ | refine zN ?_ | refine zF ?_ | refine zH ?_ | refine zG ?_) | refine zP ?_
  · refine xY ?_
    repeat' first | refine zL ?_ | refine zA ?_ | refine zQ [] ?_ | (refine isA ?_; refine zg rfl ?_) | (refine isL ?_; refine zW rfl (by kernel_rfl) rfl rfl ?_) | (refine zd rfl ?_; refine zV rfl (by kernel_rfl) rfl rfl ?_) | refine zD ?_ | refine zB _ rfl (by kernel_rfl) ?_ | refine zX rfl ?_ | refine zY rfl ?_ | refine zC ?_ | with_reducible refine zO ?_ | refine zI ?_ | refine zJ ?_ | (with_reducible first | refine zM ?_ | refine zN ?_ | refine zF ?_ | refine zH ?_ | refine zG ?_) | refine zP ?_
    refine yG rfl rfl rfl rfl (fun h => absurd (of_decide_eq_true h) (by simp only; omega)) (fun _ => ?_)
    repeat' first | refine zL ?_ | refine zA ?_ | refine zQ [] ?_ | (refine isA ?_; refine zg rfl ?_) | (refine isL ?_; refine zW rfl (by kernel_rfl) rfl rfl ?_) | (refine zd rfl ?_; refine zV rfl (by kernel_rfl) rfl rfl ?_) | refine zD ?_ | refine zB _ rfl (by kernel_rfl) ?_ | refine zX rfl ?_ | refine zY rfl ?_ | refine zC ?_ | with_reducible refine zO ?_ | refine zI ?_ | refine zJ ?_ | (with_reducible first | refine zM ?_ | refine zN ?_ | refine zF ?_ | refine zH ?_ | refine zG ?_) | refine zP ?_
    refine yG rfl rfl rfl rfl (fun h => ?_) (fun h => ?_)
    · have hil : i < a.length := by have := of_decide_eq_true h; simp only at this; omega
      obtain ⟨q, hq⟩ : ∃ z, a[i]? = some z := ⟨_, List.getElem?_eq_getElem hil⟩
      have hle : decide (y8 q r ≤ 0) = false := decide_eq_false (h2 q hq)
      repeat' first | refine zL ?_ | refine zA ?_ | refine zQ [] ?_ | (refine isA ?_; refine zg rfl ?_) | (refine isL ?_; refine zW rfl (by kernel_rfl) rfl rfl ?_) | (refine zd rfl ?_; refine zV rfl (by kernel_rfl) rfl rfl ?_) | (refine z7 (x := .tmp 178) ?_; refine za rfl (zn (j := (i : Int)) rfl rfl rfl (Nat.zero_le _) rfl rfl (Int.natCast_nonneg _) (by omega)) rfl ?_) | (refine z6 (x := .tmp 178) rfl ?_; refine zT rfl (by kernel_rfl) rfl (zn (j := (i : Int)) rfl rfl rfl (Nat.zero_le _) rfl rfl (Int.natCast_nonneg _) (by omega)) rfl ?_) | (refine z7 (x := .tmp 183) ?_; refine za rfl (zn (j := (k : Int)) rfl rfl rfl (Nat.zero_le _) rfl rfl (Int.natCast_nonneg _) (by omega)) rfl ?_) | (refine z6 (x := .tmp 183) rfl ?_; refine zT rfl (by kernel_rfl) rfl (zn (j := (k : Int)) rfl rfl rfl (Nat.zero_le _) rfl rfl (Int.natCast_nonneg _) (by omega)) rfl ?_) | (refine yt (x := .tmp 181) ?_; refine za rfl (yx (T := rwT) (i := 0 + i) (z := q) rfl rfl rfl (by rw [Nat.zero_add]; exact hq)) rfl ?_) | (refine yr (x := .tmp 181) rfl ?_; refine zT rfl (by kernel_rfl) rfl (yx (T := rwT) (i := 0 + i) (z := q) rfl rfl rfl (by rw [Nat.zero_add]; exact hq)) rfl ?_) | (refine yt (x := .tmp 186) ?_; refine za rfl (yx (T := rwT) (i := 0 + k) (z := r) rfl rfl rfl (by rw [Nat.zero_add]; exact h1)) rfl ?_) | (refine yr (x := .tmp 186) rfl ?_; refine zT rfl (by kernel_rfl) rfl (yx (T := rwT) (i := 0 + k) (z := r) rfl rfl rfl (by rw [Nat.zero_add]; exact h1)) rfl ?_) | (refine zp 64 ?_; refine za rfl (zK rfl (xW q r) (.cons (.same rfl) (.cons (.same rfl) .nil)) rfl) rfl ?_) | (refine zq 64 rfl ?_; refine zT rfl (by kernel_rfl) rfl (zK rfl (xW q r) (.cons (.same rfl) (.cons (.same rfl) .nil)) rfl) rfl ?_) | exact ⟨rfl, yg rfl (by repeat' first | exact EqS.nil | refine EqS.any ?_ | refine EqS.same rfl ?_ | refine EqS.same (congrArg B hle) ?_)⟩ | refine zD ?_ | refine zB _ rfl (by kernel_rfl) ?_ | refine zX rfl ?_ | refine zY rfl ?_ | refine zC ?_ | with_reducible refine zO ?_ | refine zI ?_ | refine zJ ?_ | (with_reducible first | refine zM ?_ | refine zN ?_ | refine zF ?_ | refine zH ?_ | refine zG ?_) | refine zP ?_
    · repeat' first | refine zL ?_ | refine zA ?_ | refine zQ [] ?_ | (refine isA ?_; refine zg rfl ?_) | (refine isL ?_; refine zW rfl (by kernel_rfl) rfl rfl ?_) | (refine zd rfl ?_; refine zV rfl (by kernel_rfl) rfl rfl ?_) | exact ⟨rfl, yg rfl (by repeat' first | exact EqS.nil | refine EqS.any ?_ | refine EqS.same rfl ?_)⟩ | refine zD ?_ | refine zB _ rfl (by kernel_rfl) ?_ | refine zX rfl ?_ | refine zY rfl ?_ | refine zC ?_ | with_reducible refine zO ?_ | refine zI ?_ | refine zJ ?_ | (with_reducible first | refine zM ?_ | refine zN ?_ | refine zF ?_ | refine zH ?_ | refine zG ?_) | refine zP ?_
  · repeat' first | (refine isA ?_; refine za rfl (yR rfl rfl rfl rfl rfl) rfl ?_) | refine zL ?_ | refine zA ?_ | refine zQ [6] ?_ | (refine isA ?_; refine zg rfl ?_) | (refine isL ?_; refine zW rfl (by kernel_rfl) rfl rfl ?_) | (refine zd rfl ?_; refine zV rfl (by kernel_rfl) rfl rfl ?_) | (refine z7 (x := .tmp 201) ?_; refine za rfl (zn (j := (k : Int)) rfl rfl rfl (Nat.zero_le _) rfl rfl (Int.natCast_nonneg _) (by omega)) rfl ?_) | (refine z6 (x := .tmp 201) rfl ?_; refine zT rfl (by kernel_rfl) rfl (zn (j := (k : Int)) rfl rfl rfl (Nat.zero_le _) rfl rfl (Int.natCast_nonneg _) (by omega)) rfl ?_) | (refine yt (x := .tmp 204) ?_; refine za rfl (yx (T := rwT) (i := 0 + k) (z := r) rfl rfl rfl (by rw [Nat.zero_add]; exact h1)) rfl ?_) | (refine yr (x := .tmp 204) rfl ?_; refine zT rfl (by kernel_rfl) rfl (yx (T := rwT) (i := 0 + k) (z := r) rfl rfl rfl (by rw [Nat.zero_add]; exact h1)) rfl ?_) | (refine vK (x := .tmp 14) ?_; refine za rfl (xh rfl rfl rfl rfl rfl (wh r) rfl rfl) rfl ?_) | (refine vJ (x := .tmp 14) rfl ?_; refine zT rfl (by kernel_rfl) rfl (xh rfl rfl rfl rfl rfl (wh r) rfl rfl) rfl ?_) | (refine yt (x := .tmp 14) ?_; refine za rfl (yL rfl rfl (zb rfl) rfl rfl) rfl ?_) | (refine yr (x := .tmp 14) rfl ?_; refine zT rfl (by kernel_rfl) rfl (yL rfl rfl (zb rfl) rfl rfl) rfl ?_) | (refine yt (x := .tmp 14) ?_; refine za rfl (yL rfl rfl (z1 (j := (nR rwT 78 (a :: b :: rest)).length) (zZ (zb rfl))) rfl rfl) rfl ?_) | (refine yr (x := .tmp 14) rfl ?_; refine zT rfl (by kernel_rfl) rfl (yL rfl rfl (z1 (j := (nR rwT 78 (a :: b :: rest)).length) (zZ (zb rfl))) rfl rfl) rfl ?_) | (refine xt ?_; refine za rfl (yU (t := rwT) (xs := out) (ys := [r]) rfl rfl rfl rfl (.lst _ _) (by simp; omega) rfl) rfl ?_) | (refine xR rfl ?_; refine zT rfl (by kernel_rfl) rfl (yU (t := rwT) (xs := out) (ys := [r]) rfl rfl rfl rfl (.lst _ _) (by simp; omega) rfl) rfl ?_) | (refine zp 58 ?_; refine za rfl (zK rfl (w4 r) (.cons (.same rfl) .nil) rfl) rfl ?_) | (refine zq 58 rfl ?_; refine zT rfl (by kernel_rfl) rfl (zK rfl (w4 r) (.cons (.same rfl) .nil) rfl) rfl ?_) | (refine isL ?_; refine vQ rfl (by kernel_rfl) rfl rfl ?_) | refine zD ?_ | refine zB _ rfl (by kernel_rfl) ?_ | refine zX rfl ?_ | refine zY rfl ?_ | refine zC ?_ | with_reducible refine zO ?_ | refine zI ?_ | refine zJ ?_ | (with_reducible first | refine zM ?_ | refine zN ?_ | refine zF ?_ | refine zH ?_ | refine zG ?_) | refine zP ?_
    refine And.intro rfl (wV [0, 1, 2, 3, 4, 5, 6, (a :: b :: rest).length + 1 + 9, 8] (List.range' 9 (a :: b :: rest).length) rfl (by simp [sV]) (yb (by simp <;> omega) (fun h hh => by simp at hh; simp; omega)) (by repeat' first | exact HLes.nil | refine HLes.cons rfl rfl rfl rfl (zU (zE _ _)) ?_ | refine HLes.cons rfl rfl rfl rfl (z9 rfl) ?_ | refine HLes.cons rfl rfl rfl rfl (xM (fun j hj => xL _ 9 _ j hj)) ?_ | refine HLes.cons (z1 (zb xH)) rfl rfl rfl (zU (zE _ _)) ?_ | refine HLes.cons (z1 (zb y7)) rfl rfl rfl (zU (zE _ _)) ?_ | refine HLes.cons (z1 (zb y6)) rfl rfl rfl (zU (zE _ _)) ?_ | refine HLes.cons (z1 (zb xG)) rfl rfl rfl (zU (zE _ _)) ?_ | refine HLes.cons (z1 (zZ (zb xH))) rfl rfl rfl (zU (zE _ _)) ?_ | refine HLes.cons (z1 (zZ (zb y7))) rfl rfl rfl (zU (zE _ _)) ?_ | refine HLes.cons (z1 (zZ (zb y6))) rfl rfl rfl (zU (zE _ _)) ?_ | refine HLes.cons (z1 (zZ (zb xG))) rfl rfl rfl (zU (zE _ _)) ?_ | refine HLes.cons (z1 (zZ (zZ (zb xH)))) rfl rfl rfl (zU (zE _ _)) ?_ | refine HLes.cons (z1 (zZ (zZ (zb y7)))) rfl rfl rfl (zU (zE _ _)) ?_ | refine HLes.cons (z1 (zZ (zZ (zb y6)))) rfl rfl rfl (zU (zE _ _)) ?_ | refine HLes.cons (z1 (zZ (zZ (zb xG)))) rfl rfl rfl (zU (zE _ _)) ?_ | refine HLes.cons rfl rfl rfl rfl (by repeat' first | exact zk | refine zc ?_ ?_ | exact zo | exact le_refl rfl | exact zm rfl rfl | exact zt rfl | exact zt (congrArg some (by simp [zh] <;> omega)) | exact zm rfl (by simp) | exact zm (congrArg some (by simp [zh] <;> omega)) rfl | exact zm (congrArg some (by simp [zh] <;> omega)) (by simp [yk, endV, yO]) | exact z8 (congrArg _ (by assumption)) | exact z8 (congrArg _ (Eq.symm (by assumption)))) ?_) (fun j i x hi hx => by rw [ix9 hi]; exact v9 (zZ (zZ (yV hx)))) (by repeat' first | exact zk | refine zc ?_ ?_ | exact zo | exact le_refl rfl | exact zm rfl rfl | exact zt rfl | exact zt (congrArg some (by simp [zh] <;> omega)) | exact zm rfl (by simp) | exact zm (congrArg some (by simp [zh] <;> omega)) rfl | exact zm (congrArg some (by simp [zh] <;> omega)) (by simp [yk, endV, yO]) | exact z8 (congrArg _ (by assumption)) | exact z8 (congrArg _ (Eq.symm (by assumption)))))
end Go.Proofs.Ytojcojanokhnaaa.Ab
namespace Go.Proofs.Ytojcojanokhnaaa.Ab
open Go.RowKit
abbrev yv (b : Nat) (s : So) (o : Nat) : List V := [.sl b 0 s.input.length, I s.pos, .sl (b + 1) 0 s.heap.length, .sl (b + 2) 0 s.dfr.length, .sl (b + 3) 0 s.out.length, .sl (b + 4) o s.runs.length, I s.lp, I s.rp, I s.ph, I s.wr]
abbrev yS (b : Nat) (s : So) (o : Nat) : List Reg := rwR s.input :: rwR s.heap :: rwR s.dfr :: rwR s.out :: ⟨84, 1, List.replicate o .any ++ nC (b + 5) s.runs, 0⟩ :: nR rwT 78 s.runs
abbrev ed (s t : So) (r : List Rw) (o : Nat) : List Reg := bxS (soE s) :: bxS zS :: bxS (yv 4 t o) :: rwR r :: yS 4 t o
abbrev stTX (s t : So) (g : Int) (r : List Rw) (o : Nat) : St := ⟨stL s g r.length, ed s t r o, 0⟩
def kP (s x : So) (g : Int) (r : List Rw) : Exit → St → Prop := fun e S' => e = .normal ∧ ∃ o, (o = 0 ∨ o = 2) ∧ Sub (stTX s x g r o) S'
theorem vb {ψ : List Nat} {cs ds : List V} : ∀ {n : Nat} {pre : List V}, pre.length = n → Les ψ cs ds → Les ψ (List.replicate n V.any ++ cs) (pre ++ ds)
  | 0, pre, hp, h => by rw [List.eq_nil_of_length_eq_zero hp]; exact h
  | n + 1, [], hp, h => by simp at hp
  | n + 1, p :: pre, hp, h => zc zo (vb (by simpa using hp) h)
theorem gq {s t : So} {r : List Rw} {o : Nat} {l lT : List V} {H : List Reg} (hs ix : List Nat) (hl9 : hs.length = 9) (hl : ix.length = t.runs.length) (hn : (hs ++ ix).Nodup)
    (h1 : HLes (hs ++ ix) H hs [bxS (soE s), bxS zS, bxS (yv 4 t o), rwR r, rwR t.input, rwR t.heap, rwR t.dfr, rwR t.out, ⟨84, 1, List.replicate o .any ++ nC 9 t.runs, 0⟩]) (h2 : ∀ (j i : Nat) (x : Rn), ix[j]? = some i → t.runs[j]? = some x → H[i]? = some (rwR x))
    (ht : Les (hs ++ ix) lT l) : Sub ⟨lT, ed s t r o, 0⟩ ⟨l, H, 0⟩ := by
  have := qE hl hn h1 h2
  exact vz (T := ⟨lT, ed s t r o, 0⟩) (S := ⟨l, H, 0⟩) (hs ++ ix) rfl (fun i hi => absurd hi (Nat.not_lt_zero _)) this ht
theorem ld {ψ hs : List Nat} {rs : List Rn} {z : Rn} {k b : Nat} (hψ : ψ = hs ++ (List.range' b rs.length ++ [k])) (h9 : hs.length = 9) : Les ψ (nC 9 (rs ++ [z])) (nC b rs ++ [.sl k 0 z.length]) := by
  have e : nC b rs ++ [.sl k 0 z.length] = nX (List.range' b rs.length ++ [k]) (rs ++ [z]) := by
    rw [kg (by simp), kj]; rfl
  rw [e]
  refine nq (by simp) fun j hj => ?_
  rw [hψ, ← h9, kc]
theorem ixB {b n j i : Nat} (h : (List.range' b n)[j]? = some i) : i = b + j := by
  rw [List.getElem?_range'] at h
  · have := Option.some.inj h; omega
  · exact Nat.lt_of_not_le fun hn => by rw [List.getElem?_eq_none (by simpa using hn)] at h; cases h
theorem ng {H : List Reg} {rs : List Rn} {z : Rn} {k b : Nat} (hR : ∀ j x, rs[j]? = some x → H[b + j]? = some (rwR x)) (hz : H[k]? = some (rwR z)) : ∀ (j i : Nat) (x : Rn), (List.range' b rs.length ++ [k])[j]? = some i → (rs ++ [z])[j]? = some x → H[i]? = some (rwR x) := fun j i x hi hx => by
  rcases Nat.lt_or_ge j rs.length with h | h
  · rw [List.getElem?_append_left (by simpa using h)] at hi
    rw [List.getElem?_append_left h] at hx
    rw [ixB hi]
    exact hR j x hx
  · rw [List.getElem?_append_right h] at hx
    rw [List.getElem?_append_right (by simpa using h), List.length_range'] at hi
    cases hj : j - rs.length with
    | zero =>
      rw [hj] at hi hx
      cases hi
      cases hx
      exact hz
    | succ q =>
      rw [hj] at hx
      simp at hx
theorem pa {hs : List Nat} {n k b : Nat} (h1 : (k :: hs).Nodup) (h2 : ∀ h ∈ k :: hs, h < b ∨ b + n ≤ h) : (hs ++ (List.range' b n ++ [k])).Nodup := by
  rw [List.nodup_cons] at h1
  rw [List.nodup_append]
  refine ⟨h1.2, ?_, fun x hx y hy => ?_⟩
  · rw [List.nodup_append]
    refine ⟨List.nodup_range', by simp, fun x hx y hy => ?_⟩
    rw [List.mem_range'_1] at hx
    simp at hy
    have := h2 k (by simp)
    omega
  · rw [List.mem_append, List.mem_range'_1, List.mem_singleton] at hy
    have := h2 x (by simp [hx])
    rcases hy with hy | hy
    · omega
    · rintro rfl
      subst hy
      exact h1.1 hx
theorem gO (inp heap dfr out : List Rw) (pos wr g : Int) (a b : Rn) (rest : List Rn) (hok : okSo ⟨inp, pos, heap, dfr, out, a :: b :: rest, a.length, b.length, 2, wr⟩) :
    AW Go.Proofs.Try.prog uk (kP ⟨inp, pos, heap, dfr, out, a :: b :: rest, a.length, b.length, 2, wr⟩ ⟨inp, pos, heap, dfr, [], rest ++ [out], 0, 0, cond (decide (rest.length + 1 = 0)) 4 (cond (decide (rest.length + 1 = 1)) 3 2), wr⟩ g []) (stT ⟨inp, pos, heap, dfr, out, a :: b :: rest, a.length, b.length, 2, wr⟩ ⟨inp, pos, heap, dfr, out, a :: b :: rest, a.length, b.length, 2, wr⟩ g []) := by
  have g5 := hok.runs
  simp only [List.length_cons] at g5
  have ae := ls (bxS (soE ⟨inp, pos, heap, dfr, out, a :: b :: rest, a.length, b.length, 2, wr⟩)) (bxS zS) (rwR []) (rwR inp) (rwR heap) (rwR dfr) (.sl 4 0 inp.length) (I pos) (.sl 5 0 heap.length) (.sl 6 0 dfr.length) (I a.length) (I b.length) (I 2) (I wr) out (nC 9 (a :: b :: rest)) 2 rest.length (by simp [xN]; omega) (nR rwT 78 (a :: b :: rest)) (by simp [xN]; omega)
  repeat' first | (refine xK 27 (T27 ⟨inp, pos, heap, dfr, out, a :: b :: rest, a.length, b.length, 2, wr⟩ g a.length b.length true) (y3 ?_) ?_) | refine zL ?_ | refine zA ?_ | refine zQ [] ?_ | (refine isA ?_; refine zg rfl ?_) | (refine isL ?_; refine zW rfl (by kernel_rfl) rfl rfl ?_) | (refine zd rfl ?_; refine zV rfl (by kernel_rfl) rfl rfl ?_) | (refine z7 (x := .tmp 138) ?_; refine za rfl (zn (j := 0) rfl rfl rfl (Nat.zero_le _) rfl rfl (by decide) (by simp; omega)) rfl ?_) | (refine z6 (x := .tmp 138) rfl ?_; refine zT rfl (by kernel_rfl) rfl (zn (j := 0) rfl rfl rfl (Nat.zero_le _) rfl rfl (by decide) (by simp; omega)) rfl ?_) | (refine z7 (x := .tmp 143) ?_; refine za rfl (zn (j := 1) rfl rfl rfl (Nat.zero_le _) rfl rfl (by decide) (by simp; omega)) rfl ?_) | (refine z6 (x := .tmp 143) rfl ?_; refine zT rfl (by kernel_rfl) rfl (zn (j := 1) rfl rfl rfl (Nat.zero_le _) rfl rfl (by decide) (by simp; omega)) rfl ?_) | (refine v7 ?_; refine za rfl (yq (l := (2 : Int)) (h := ((a :: b :: rest).length : Int)) rfl rfl rfl (Nat.zero_le _) rfl (.yes _ rfl) (.no _) (by decide) (by simp; omega) (by simp)) rfl ?_) | (refine v6 rfl ?_; refine zT rfl (by kernel_rfl) rfl (yq (l := (2 : Int)) (h := ((a :: b :: rest).length : Int)) rfl rfl rfl (Nat.zero_le _) rfl (.yes _ rfl) (.no _) (by decide) (by simp; omega) (by simp)) rfl ?_) | refine zD ?_ | refine zB _ rfl (by kernel_rfl) ?_ | refine zX rfl ?_ | refine zY rfl ?_ | refine zC ?_ | with_reducible refine zO ?_ | refine zI ?_ | refine zJ ?_ | (with_reducible first | refine zM ?_ | refine zN ?_ | refine zF ?_ | refine zH ?_ | refine zG ?_) | refine zP ?_
  · refine xY ?_
    have hne : decide ((b.length : Int) = (b.length : Int)) = true := by simp
    repeat' first | refine zL ?_ | refine zA ?_ | refine zQ [] ?_ | (refine isA ?_; refine zg rfl ?_) | (refine isL ?_; refine zW rfl (by kernel_rfl) rfl rfl ?_) | (refine zd rfl ?_; refine zV rfl (by kernel_rfl) rfl rfl ?_) | refine zD ?_ | refine zB _ rfl (by kernel_rfl) ?_ | refine zX rfl ?_ | refine zY rfl ?_ | refine zC ?_ | with_reducible refine zO ?_ | refine zI ?_ | refine zJ ?_ | (with_reducible first | refine zM ?_ | refine zN ?_ | refine zF ?_ | refine zH ?_ | refine zG ?_) | refine zP ?_
    refine yW rfl rfl (fun _ => ?_) (fun h => absurd (of_decide_eq_false h) (by simp))
    repeat' first | refine zL ?_ | refine zA ?_ | refine zQ [] ?_ | (refine isA ?_; refine zg rfl ?_) | (refine isL ?_; refine zW rfl (by kernel_rfl) rfl rfl ?_) | (refine zd rfl ?_; refine zV rfl (by kernel_rfl) rfl rfl ?_) | exact ⟨rfl, yg rfl (by repeat' first | exact EqS.nil | refine EqS.any ?_ | refine EqS.same rfl ?_ | refine EqS.same (congrArg B hne) ?_)⟩ | refine zD ?_ | refine zB _ rfl (by kernel_rfl) ?_ | refine zX rfl ?_ | refine zY rfl ?_ | refine zC ?_ | with_reducible refine zO ?_ | refine zI ?_ | refine zJ ?_ | (with_reducible first | refine zM ?_ | refine zN ?_ | refine zF ?_ | refine zH ?_ | refine zG ?_) | refine zP ?_
  · refine do_X rfl (pQ rfl ae rfl) (fun v H' hq => ?_)
    obtain ⟨o', pre, p1, p2, rfl, rfl⟩ := hq
    refine ⟨_, _, rfl, ?_⟩
    repeat' first | refine zL ?_ | refine zA ?_ | refine zQ [] ?_ | (refine isA ?_; refine zg rfl ?_) | (refine isL ?_; refine zW rfl (by kernel_rfl) rfl rfl ?_) | (refine zd rfl ?_; refine zV rfl (by kernel_rfl) rfl rfl ?_) | (refine zp 63 ?_; refine za rfl (yN rfl (sk _ _ _ _ _ _ _ _ _ _ _ _ _ _ _) rfl) rfl ?_) | (refine zq 63 rfl ?_; refine zT rfl (by kernel_rfl) rfl (yN rfl (sk _ _ _ _ _ _ _ _ _ _ _ _ _ _ _) rfl) rfl ?_) | refine zD ?_ | refine zB _ rfl (by kernel_rfl) ?_ | refine zX rfl ?_ | refine zY rfl ?_ | refine zC ?_ | with_reducible refine zO ?_ | refine zI ?_ | refine zJ ?_ | (with_reducible first | refine zM ?_ | refine zN ?_ | refine zF ?_ | refine zH ?_ | refine zG ?_) | refine zP ?_
    refine ⟨rfl, o', p2.symm, Sub.trans ?_ (uu (l' := _) 78 3 (.rest _) (.cons (.rest _) (.cons (.rest _) (.cons (.cons (.same _) (.cons (.same _) (.cons (.same _) (.cons (.same _) (.cons .nil (.rest _)))))) (.rest _)))))⟩
    refine gq [0, 1, 2, 3, 4, 5, 6, (a :: b :: rest).length + 2 + 9, (a :: b :: rest).length + 1 + 9] (List.range' 11 rest.length ++ [7]) rfl (by simp) (pa (by simp <;> omega) (fun h hh => by simp at hh; omega)) ?_ (ng (fun j x hx => by rw [show 11 + j = (2 + j) + 9 by omega]; exact z1 (zZ (zZ (zZ (yV (by rw [Nat.add_comm]; exact hx)))))) rfl) (by repeat' first | exact zk | refine zc ?_ ?_ | exact zo | exact le_refl rfl | exact zm rfl rfl | exact zt rfl | exact zt (congrArg some (by simp [zh] <;> omega)) | exact zm rfl (by simp) | exact zm (congrArg some (by simp [zh] <;> omega)) rfl | exact zm (congrArg some (by simp [zh] <;> omega)) (by simp [yk, endV, yO]) | exact z8 (congrArg _ (by assumption)) | exact z8 (congrArg _ (Eq.symm (by assumption))))
    refine .cons rfl rfl rfl rfl (z9 rfl) (.cons rfl rfl rfl rfl (z9 rfl) (.cons rfl rfl rfl rfl ?_ (.cons rfl rfl rfl rfl (zU (zE _ _)) (.cons rfl rfl rfl rfl (zU (zE _ _)) (.cons rfl rfl rfl rfl (zU (zE _ _)) (.cons rfl rfl rfl rfl (zU (zE _ _)) (.cons (z1 (zb y6)) rfl rfl rfl (zU (zE _ _)) (.cons (z1 (zZ (zb y7))) rfl rfl rfl (by rw [List.append_assoc]; exact vb p1 (ld rfl rfl)) .nil))))))))
    exact (by repeat' first | exact zk | refine zc ?_ ?_ | exact zo | exact le_refl rfl | exact zm rfl rfl | exact zt rfl | exact zt (congrArg some (by simp [zh] <;> omega)) | exact zm rfl (by simp) | exact zm (congrArg some (by simp [zh] <;> omega)) rfl | exact zm (congrArg some (by simp [zh] <;> omega)) (by simp [yk, endV, yO]) | exact z8 (congrArg _ (by assumption)) | exact z8 (congrArg _ (Eq.symm (by assumption))))
end Go.Proofs.Ytojcojanokhnaaa.Ab
namespace Go.Proofs.Ytojcojanokhnaaa.Ab
open Go.RowKit
theorem n6 {P : Program} (id : Nat) {ops : Array Oper} {b : Bool} {c y : Code} {Q : Exit → St → Prop} {S : St} (T0 : St) (T : Nat → St) (p : Nat → Prop) (hs : Sub T0 S) (h : AW P (.seq (.region id ops b) c) (fun e S' => e = .normal ∧ ∃ o, p o ∧ Sub (T o) S') T0) (k : ∀ o, p o → AW P y Q (T o)) : AW P (.seq (.seq (.region id ops b) c) y) Q S :=
  uo hs (zL ⟨fun C φ a w hI => wp_mono (h.out C φ a w hI) fun e a' w' hq => by
    obtain ⟨S', φ1, hI', he, o, hp, hs⟩ := hq
    subst he
    obtain ⟨φ2, h2⟩ := hs C φ1 a' w' hI'
    exact ⟨T o, φ2, h2, k o hp⟩⟩)
theorem kz {l : List V} {H : List Reg} {al : Bool} {t : Tmp} {us : List Tmp} {n : Nat} {v r : V} {K : List Reg} {post : V → List Reg → Prop} (ψ : List Nat) (hp : post r K) (hv : CellIs l H t n v) (hr : Le ψ r (.tup (v :: us.map fun u => (l[u]?).getD .any))) (hH : HLe ψ K H) (hal : al = true ∨ (tE r = true ∧ ∀ q ∈ K, q.mode ≠ 1 ∧ (q.mode = 0 → vf q.cells))) :
    (Exit.ret = .ret ∨ Exit.ret = .normal) ∧ ∃ v, CellIs l H t n v ∧ ∃ r K, post r K ∧ Out al r K (.tup (v :: us.map fun u => (l[u]?).getD .any)) ⟨l, H, 0⟩ := ⟨Or.inl rfl, v, hv, r, K, hp, u6 (S := ⟨l, H, 0⟩) ψ (fun i hi => absurd hi (Nat.not_lt_zero _)) hH hr hal⟩
theorem lQ (b : Nat) (s : So) (o : Nat) : ∀ q ∈ yS b s o, q.mode ≠ 1 ∧ (q.mode = 0 → vf q.cells) := fun q hq => by
  rcases List.mem_cons.1 hq with rfl | hq
  · exact xn _
  rcases List.mem_cons.1 hq with rfl | hq
  · exact xn _
  rcases List.mem_cons.1 hq with rfl | hq
  · exact xn _
  rcases List.mem_cons.1 hq with rfl | hq
  · exact xn _
  rcases List.mem_cons.1 hq with rfl | hq
  · refine ⟨Nat.zero_ne_one, fun _ c hc => ?_⟩
    rcases List.mem_append.1 hc with hc | hc
    · rw [List.mem_replicate] at hc
      rw [hc.2]
    · exact u7 _ _ c hc
  · obtain ⟨x, hx, rfl⟩ := List.mem_map.1 hq
    exact xn _
def fj (x : So) (r : List Rw) : V → List Reg → Prop := fun v K => ∃ o, (o = 0 ∨ o = 2) ∧ v = .tup [.agg (yv 1 x o), .sl 0 0 r.length, B true] ∧ K = rwR r :: yS 1 x o
theorem nJ (s x : So) (g : Int) (r : List Rw) (hok : okSo s) (hv : vS s = true) (h1 : inV g 8 60 = true) (hp : s.ph ≠ 4) (h : AW Go.Proofs.Try.prog uk (kP s x g r) (stT s s g [])) : vI Go.Proofs.Try.prog 13 [.agg (soE s), I g] [] (fj x r) false := by
  have hfl : ∀ o, ∀ q ∈ rwR r :: yS 1 x o, q.mode ≠ 1 ∧ (q.mode = 0 → vf q.cells) := fun o q hq => by
    rcases List.mem_cons.1 hq with rfl | hq
    · exact xn _
    · exact lQ _ _ _ q hq
  have a1 := eM s hok
  rw [hv] at a1
  have a2 := qN g
  rw [h1] at a2
  refine pf 4 27 [5, 6] Go.Proofs.Try.func13 rfl rfl rfl ?_
  simp only [Go.Proofs.Try.ntmps13, List.length_cons, List.length_nil, Nat.reduceAdd, Nat.reduceSub, List.replicate_succ, List.replicate_zero, List.cons_append, List.nil_append]
  repeat' first | (refine n6 5 (stT s s g []) (fun o => stTX s x g r o) (fun o => o = 0 ∨ o = 2) (y3 ?_) (y3 ?_) (fun o ho => y3 ?_)) | (exact absurd (of_decide_eq_true ‹decide (s.ph = 4) = true›) hp) | refine zL ?_ | refine zA ?_ | refine zQ [] ?_ | (refine isA ?_; refine zg rfl ?_) | (refine isL ?_; refine zW rfl (by kernel_rfl) rfl rfl ?_) | (refine zd rfl ?_; refine zV rfl (by kernel_rfl) rfl rfl ?_) | (refine zp 56 ?_; refine za rfl (z0 (r' := .agg (soO 2 s)) (H' := bxS (soE s) :: bxS zS :: soR 2 s) rfl (tM s hok) (.cons (.same rfl) .nil) (vP 0 2 s) (by rw [vB]; rfl)) rfl ?_) | (refine zq 56 rfl ?_; refine zT rfl (by kernel_rfl) rfl (z0 (r' := .agg (soO 2 s)) (H' := bxS (soE s) :: bxS zS :: soR 2 s) rfl (tM s hok) (.cons (.same rfl) .nil) (vP 0 2 s) (by rw [vB]; rfl)) rfl ?_) | (refine vK (x := .tmp 7) ?_; refine za rfl (yF (vs := soO 2 s) rfl rfl rfl rfl (fun c hc => by simp at hc; rcases hc with rfl | rfl | rfl | rfl | rfl | rfl | rfl | rfl | rfl | rfl <;> rfl) (zb rfl) rfl (Nat.le_refl _)) rfl ?_) | (refine vJ (x := .tmp 7) rfl ?_; refine zT rfl (by kernel_rfl) rfl (yF (vs := soO 2 s) rfl rfl rfl rfl (fun c hc => by simp at hc; rcases hc with rfl | rfl | rfl | rfl | rfl | rfl | rfl | rfl | rfl | rfl <;> rfl) (zb rfl) rfl (Nat.le_refl _)) rfl ?_) | (refine zp 17 ?_; refine za rfl (zK rfl a1 (.cons (.same rfl) .nil) rfl) rfl ?_) | (refine zq 17 rfl ?_; refine zT rfl (by kernel_rfl) rfl (zK rfl a1 (.cons (.same rfl) .nil) rfl) rfl ?_) | (refine zp 57 ?_; refine za rfl (zK rfl a2 (.cons (.same rfl) .nil) rfl) rfl ?_) | (refine zq 57 rfl ?_; refine zT rfl (by kernel_rfl) rfl (zK rfl a2 (.cons (.same rfl) .nil) rfl) rfl ?_) | refine zD ?_ | refine zB _ rfl (by kernel_rfl) ?_ | refine zX rfl ?_ | refine zY rfl ?_ | refine zC ?_ | with_reducible refine zO ?_ | refine zI ?_ | refine zJ ?_ | (with_reducible first | refine zM ?_ | refine zN ?_ | refine zF ?_ | refine zH ?_ | refine zG ?_) | refine zP ?_ | refine zj rfl (fun hbr => ?_) (fun hbr => ?_)
  · refine xY ?_
    rw [wo rfl]
    have kl : (bxS (soE s) :: bxS zS :: soR 2 s).length = s.runs.length + 7 := by simp [zh]
    refine wV [0, 1, s.runs.length + 7, s.runs.length + 8, 2, 3, 4, 5, 6] (List.range' 7 s.runs.length) rfl (by simp) (yb (by simp <;> omega) (fun h hh => by simp at hh; omega)) ?_ (fun j i x hi hx => by rw [ix7 hi]; exact zZ (zZ (get7 (yV hx)))) (by repeat' first | exact zk | refine zc ?_ ?_ | exact zo | exact le_refl rfl | exact zm rfl rfl | exact zt rfl | exact zt (congrArg some (by simp [zh] <;> omega)) | exact zm rfl (by simp) | exact zm (congrArg some (by simp [zh] <;> omega)) rfl | exact zm (congrArg some (by simp [zh] <;> omega)) (by simp [yk, endV, yO]) | exact z8 (congrArg _ (by assumption)) | exact z8 (congrArg _ (Eq.symm (by assumption))))
    refine .cons rfl rfl rfl rfl (z9 rfl) (.cons rfl rfl rfl rfl (z9 rfl) (.cons (zZ (zb kl)) rfl rfl rfl ?_ (.cons (zb (by rw [List.length_append, kl]; rfl)) rfl rfl rfl zk (.cons rfl rfl rfl rfl (zU (zE _ _)) (.cons rfl rfl rfl rfl (zU (zE _ _)) (.cons rfl rfl rfl rfl (zU (zE _ _)) (.cons rfl rfl rfl rfl (zU (zE _ _)) (.cons rfl rfl rfl rfl (xM fun j hj => xL [0, 1, s.runs.length + 7, s.runs.length + 8, 2, 3, 4, 5, 6] 7 _ j hj) .nil))))))))
    exact (by repeat' first | exact zk | refine zc ?_ ?_ | exact zo | exact le_refl rfl | exact zm rfl rfl | exact zt rfl | exact zt (congrArg some (by simp [zh] <;> omega)) | exact zm rfl (by simp) | exact zm (congrArg some (by simp [zh] <;> omega)) rfl | exact zm (congrArg some (by simp [zh] <;> omega)) (by simp [yk, endV, yO]) | exact z8 (congrArg _ (by assumption)) | exact z8 (congrArg _ (Eq.symm (by assumption))))
  · exact xY h
  · refine xY ?_
    repeat' first | refine zL ?_ | refine zA ?_ | refine zQ [] ?_ | (refine isA ?_; refine zg rfl ?_) | (refine isL ?_; refine zW rfl (by kernel_rfl) rfl rfl ?_) | (refine zd rfl ?_; refine zV rfl (by kernel_rfl) rfl rfl ?_) | refine zD ?_ | refine zB _ rfl (by kernel_rfl) ?_ | refine zX rfl ?_ | refine zY rfl ?_ | refine zC ?_ | with_reducible refine zO ?_ | refine zI ?_ | refine zJ ?_ | (with_reducible first | refine zM ?_ | refine zN ?_ | refine zF ?_ | refine zH ?_ | refine zG ?_) | refine zP ?_
    have hh : HLe ([3, 4, 5, 6, 7, 8] ++ List.range' 9 x.runs.length) (rwR r :: yS 1 x o) (bxS (soE s) :: bxS (yv 4 x o) :: bxS (yv 4 x o) :: rwR r :: yS 4 x o) := x5 (T := rwT) (e := 78) (b := 9) (rs := x.runs) (H := bxS (soE s) :: bxS (yv 4 x o) :: bxS (yv 4 x o) :: rwR r :: yS 4 x o) (hs := [3, 4, 5, 6, 7, 8]) (K1 := [rwR r, rwR x.input, rwR x.heap, rwR x.dfr, rwR x.out, ⟨84, 1, List.replicate o V.any ++ nC 6 x.runs, 0⟩]) (yb (by decide) (fun h hh => by simp at hh; omega)) (.cons rfl rfl rfl rfl (zU (zE _ _)) (.cons rfl rfl rfl rfl (zU (zE _ _)) (.cons rfl rfl rfl rfl (zU (zE _ _)) (.cons rfl rfl rfl rfl (zU (zE _ _)) (.cons rfl rfl rfl rfl (zU (zE _ _)) (.cons rfl rfl rfl rfl (vb (pre := List.replicate o V.any) List.length_replicate (xM fun j hj => xL [3, 4, 5, 6, 7, 8] 9 _ j hj)) .nil)))))) (fun j x hx => v9 (yV hx))
    exact kz (post := fj x r) ([3, 4, 5, 6, 7, 8] ++ List.range' 9 x.runs.length) ⟨o, ho, rfl, rfl⟩ (yP rfl rfl rfl rfl rfl) (qm (zc (tb (by repeat' first | exact zk | refine zc ?_ ?_ | exact zo | exact le_refl rfl | exact zm rfl rfl | exact zt rfl | exact zt (congrArg some (by simp [zh] <;> omega)) | exact zm rfl (by simp) | exact zm (congrArg some (by simp [zh] <;> omega)) rfl | exact zm (congrArg some (by simp [zh] <;> omega)) (by simp [yk, endV, yO]) | exact z8 (congrArg _ (by assumption)) | exact z8 (congrArg _ (Eq.symm (by assumption))))) (zc (zm rfl rfl) (zc (le_refl rfl) zk)))) hh (Or.inr ⟨rfl, hfl o⟩)
theorem vh {H : List Reg} {s : So} {h1 h2 h3 h4 h5 b o : Nat} (e1 : H[h1]? = some (rwR s.input)) (e2 : H[h2]? = some (rwR s.heap)) (e3 : H[h3]? = some (rwR s.dfr)) (e4 : H[h4]? = some (rwR s.out)) (e5 : H[h5]? = some ⟨84, 1, List.replicate o V.any ++ nC b s.runs, 0⟩) (e6 : ∀ j x, s.runs[j]? = some x → H[b + j]? = some (rwR x)) :
    Pur true H (.agg [.sl h1 0 s.input.length, I s.pos, .sl h2 0 s.heap.length, .sl h3 0 s.dfr.length, .sl h4 0 s.out.length, .sl h5 o s.runs.length, I s.lp, I s.rp, I s.ph, I s.wr]) (.agg (soE s)) := by
  have q := lW (T := rwT) (h := h5) (b := b) (pre := List.replicate o V.any) (rs := s.runs) e5 e6
  rw [List.length_replicate] at q
  exact .agg (.cons (zy e1) (.cons (.same rfl) (.cons (zy e2) (.cons (zy e3) (.cons (zy e4) (.cons q (.cons (.same rfl) (.cons (.same rfl) (.cons (.same rfl) (.cons (.same rfl) .nil))))))))))
theorem gP (s x : So) (g : Int) (r : List Rw) (hok : okSo s) (hv : vS s = true) (h1 : inV g 8 60 = true) (hp : s.ph ≠ 4) (h : AW Go.Proofs.Try.prog uk (kP s x g r) (stT s s g [])) : zx Go.Proofs.Try.prog 13 [.agg (soE s), I g] [] (.tup [.agg (soE x), rwL r, B true]) [] true :=
  (nJ s x g r hok hv h1 hp h).frozen (fun v K hq => by
    obtain ⟨o, _, rfl, rfl⟩ := hq
    exact .tup (.cons (vh rfl rfl rfl rfl rfl fun j y hy => by rw [Nat.add_comm]; exact yV hy) (.cons (zy rfl) (.cons (.same rfl) .nil))))
theorem mJ {s x : So} {g : Int} {r : List Rw} (h : AW Go.Proofs.Try.prog uk (stQ s x g r) (stT s s g [])) : AW Go.Proofs.Try.prog uk (kP s x g r) (stT s s g []) :=
  h.mono fun e S' hq => ⟨hq.1, 0, Or.inl rfl, hq.2⟩
theorem gN (s x : So) (g : Int) (r : List Rw) (hok : okSo s) (hv : vS s = true) (h : StepV s g x r) : AW Go.Proofs.Try.prog uk (kP s x g r) (stT s s g []) := by
  have hV := sI.1 hv
  cases hV with
  | read b q => exact mJ (dN s x g r hok hv q.ph h)
  | @merge b t ph c d rest i j hr hi hj m =>
    obtain ⟨inp, pos, heap, dfr, out, runs, lp, rp, ph', wr⟩ := s
    simp only at ph hr hi hj m
    subst ph hr hi hj
    have m1 := m.ha
    have m2 := m.hb
    cases h with
    | put h1 => simp at h1
    | pop h1 => simp at h1
    | swap h1 => simp at h1
    | close h1 => simp at h1
    | emit h1 => simp at h1
    | @merged a' b' rest' h1 h2 h3 h4 =>
      simp only [List.cons.injEq] at h2
      obtain ⟨rfl, rfl, rfl⟩ := h2
      simp only at h3 h4
      obtain rfl : i = c.length := by omega
      obtain rfl : j = d.length := by omega
      have e : yO (qK ⟨inp, pos, heap, dfr, out, c :: d :: rest, c.length, d.length, 2, wr⟩) = ⟨inp, pos, heap, dfr, [], rest ++ [out], 0, 0, cond (decide (rest.length + 1 = 0)) 4 (cond (decide (rest.length + 1 = 1)) 3 2), wr⟩ := by
        simp [yO, qK]
      rw [e]
      exact gO inp heap dfr out pos wr g c d rest hok
    | @left a' b' rest' q h1 h2 h3 h4 =>
      simp only [List.cons.injEq] at h2
      obtain ⟨rfl, rfl, rfl⟩ := h2
      simp only [Int.toNat_natCast] at h3 h4
      exact mJ (dO inp heap dfr out pos wr g c d rest i j q hok h3 m2 h4)
    | @right a' b' rest' q h1 h2 h3 h4 =>
      simp only [List.cons.injEq] at h2
      obtain ⟨rfl, rfl, rfl⟩ := h2
      simp only [Int.toNat_natCast] at h3 h4
      exact mJ (fP inp heap dfr out pos wr g c d rest i j q hok h3 m1 h4)
  | @emit b t ph c i hr hi hl hrp ho =>
    cases h with
    | put h1 => omega
    | pop h1 => omega
    | swap h1 => omega
    | close h1 => omega
    | merged h1 => omega
    | left h1 => omega
    | right h1 => omega
    | @emit a' q h1 h2 h3 =>
      rw [hr] at h2
      simp only [List.cons.injEq, and_true] at h2
      subst h2
      rw [hi, Int.toNat_natCast] at h3
      exact mJ (dR s g c q i hok ph hr hi h3)
  | done b t ph =>
    cases h with
    | put h1 => omega
    | pop h1 => omega
    | swap h1 => omega
    | close h1 => omega
    | merged h1 => omega
    | left h1 => omega
    | right h1 => omega
    | emit h1 => omega
theorem pT {s x : So} {g : Int} {r : List Rw} (h : StepV s g x r) : s.ph ≠ 4 := by
  cases h <;> omega
theorem fQ (s x : So) (g : Int) (r : List Rw) (hok : okSo s) (hv : vS s = true) (h1 : inV g 8 60 = true) (h : StepV s g x r) : zx Go.Proofs.Try.prog 13 [.agg (soE s), I g] [] (.tup [.agg (soE x), rwL r, B true]) [] true :=
  gP s x g r hok hv h1 (pT h) (gN s x g r hok hv h)
end Go.Proofs.Ytojcojanokhnaaa.Ab
namespace Go.Proofs.Ytojcojanokhnaaa.Ab
open Go.RowKit
theorem kb {H : List Reg} {h zi ty o : Nat} {pre : List V} {outs : List Rn} {run : Rn} (hp : pre.length = o) (hH : H[h]? = some ⟨ty, 1, pre ++ rnT.flat outs ++ [.sl zi 0 run.length], 0⟩) (hz : H[zi]? = some (rwR run)) : Pur true H (.sl h o (outs.length + 1)) (rnL (outs ++ [run])) := by
  subst hp
  have fl : (rnT.flat outs).length = outs.length := by rw [yH]; show outs.length * 1 = _; omega
  have e : (outs ++ [run]).length = outs.length + 1 := by simp
  rw [← e]
  refine .slN hH (Or.inr ⟨rfl, rfl⟩) (Nat.lt_succ_self 0) (by simp only [List.length_append, fl, List.length_singleton]; omega) ?_
  have q : (List.take ((outs ++ [run]).length * 1) (List.drop (pre.length * 1) (pre ++ rnT.flat outs ++ [.sl zi 0 run.length]))) = rnT.flat outs ++ [.sl zi 0 run.length] := by
    rw [Nat.mul_one, Nat.mul_one, List.append_assoc, List.drop_append_of_le_length (Nat.le_refl _), List.drop_length, List.nil_append, List.take_of_length_le (by simp only [List.length_append, fl, List.length_singleton]; omega)]
  show Purs true H (List.take ((outs ++ [run]).length * 1) (List.drop (pre.length * 1) (pre ++ rnT.flat outs ++ [.sl zi 0 run.length]))) (rnT.flat (outs ++ [run]))
  rw [q, tf]
  exact sW (tT (zE _ _)) (.cons (zy hz) .nil)
theorem kV (inp heap dfr out : List Rw) (pos wr g : Int) (a b : Rn) (rest : List Rn) (hok : okSo ⟨inp, pos, heap, dfr, out, a :: b :: rest, a.length, b.length, 2, wr⟩) (hv : vS ⟨inp, pos, heap, dfr, out, a :: b :: rest, a.length, b.length, 2, wr⟩ = true) (hg : inV g 8 60 = true) :
    zx Go.Proofs.Try.prog 14 [.agg (soE ⟨inp, pos, heap, dfr, out, a :: b :: rest, a.length, b.length, 2, wr⟩), I g] [] (.tup [.agg (soE ⟨inp, pos, heap, dfr, [], rest ++ [out], 0, 0, cond (decide (rest.length + 1 = 0)) 4 (cond (decide (rest.length + 1 = 1)) 3 2), wr⟩), rwL [], B true]) [] true := by
  have g5 := hok.runs
  simp only [List.length_cons] at g5
  have ac := xu _ hok
  have a1 := tL _ hok
  rw [hv] at a1
  have a2 := uB g 8 60
  rw [hg] at a2
  have b1 := wT (a :: b :: rest) 0 a.length hok.rn (by decide)
  have b2 := wT (a :: b :: rest) 1 b.length hok.rn (by decide)
  have e0 : wX (a :: b :: rest) 0 a.length = [] := by simp [wX]
  have e1 : wX (a :: b :: rest) 1 b.length = [] := by simp [wX]
  rw [e0] at b1
  rw [e1] at b2
  have fl : (rnT.flat (a :: b :: rest)).length = 2 + rest.length := by rw [yH]; show (a :: b :: rest).length * 1 = _; simp; omega
  refine yi 4 27 [5, 6] Go.Proofs.Try.func14 rfl rfl rfl ?_
  simp only [Go.Proofs.Try.ntmps14, List.length_cons, List.length_nil, Nat.reduceAdd, Nat.reduceSub, List.replicate_succ, List.replicate_zero, List.cons_append, List.nil_append]
  repeat' first | (refine zj rfl (fun h => absurd (of_decide_eq_true h) (by simp only; decide)) (fun _ => ?_)) | (refine zj rfl (fun _ => ?_) (fun h => absurd (of_decide_eq_false h) (by simp only; decide))) | (refine sG 7 (fun H => H[7]? = some (bxS (soP 2 ⟨inp, pos, heap, dfr, out, a :: b :: rest, a.length, b.length, 2, wr⟩)) ∧ H[6]? = some (rnR (a :: b :: rest))) 10 rfl (y3 ?_)) | refine zL ?_ | refine zA ?_ | refine zQ [] ?_ | (refine isA ?_; refine zg rfl ?_) | (refine isL ?_; refine zW rfl (by kernel_rfl) rfl rfl ?_) | (refine zd rfl ?_; refine zV rfl (by kernel_rfl) rfl rfl ?_) | (refine zp 65 ?_; refine za rfl (z0 (r' := .agg (soP 2 ⟨inp, pos, heap, dfr, out, a :: b :: rest, a.length, b.length, 2, wr⟩)) (H' := bxS (soE ⟨inp, pos, heap, dfr, out, a :: b :: rest, a.length, b.length, 2, wr⟩) :: bxS zS :: soW ⟨inp, pos, heap, dfr, out, a :: b :: rest, a.length, b.length, 2, wr⟩) rfl ac (.cons (.same rfl) .nil) rfl (by simp only [List.map_cons, List.map_nil, shR, yA _ (yM (zE _ _))]; rfl)) rfl ?_) | (refine zq 65 rfl ?_; refine zT rfl (by kernel_rfl) rfl (z0 (r' := .agg (soP 2 ⟨inp, pos, heap, dfr, out, a :: b :: rest, a.length, b.length, 2, wr⟩)) (H' := bxS (soE ⟨inp, pos, heap, dfr, out, a :: b :: rest, a.length, b.length, 2, wr⟩) :: bxS zS :: soW ⟨inp, pos, heap, dfr, out, a :: b :: rest, a.length, b.length, 2, wr⟩) rfl ac (.cons (.same rfl) .nil) rfl (by simp only [List.map_cons, List.map_nil, shR, yA _ (yM (zE _ _))]; rfl)) rfl ?_) | (refine zp 18 ?_; refine za rfl (zK rfl a1 (.cons (.same rfl) .nil) rfl) rfl ?_) | (refine zq 18 rfl ?_; refine zT rfl (by kernel_rfl) rfl (zK rfl a1 (.cons (.same rfl) .nil) rfl) rfl ?_) | (refine zp 66 ?_; refine za rfl (zK rfl a2 (.cons (.same rfl) (.cons (.same rfl) (.cons (.same rfl) .nil))) rfl) rfl ?_) | (refine zq 66 rfl ?_; refine zT rfl (by kernel_rfl) rfl (zK rfl a2 (.cons (.same rfl) (.cons (.same rfl) (.cons (.same rfl) .nil))) rfl) rfl ?_) | (refine zp 71 ?_; refine za rfl (zK rfl b1 (.cons (.same rfl) (.cons (.same rfl) (.cons (.same rfl) .nil))) rfl) rfl ?_) | (refine zq 71 rfl ?_; refine zT rfl (by kernel_rfl) rfl (zK rfl b1 (.cons (.same rfl) (.cons (.same rfl) (.cons (.same rfl) .nil))) rfl) rfl ?_) | (refine zp 71 ?_; refine za rfl (zK rfl b2 (.cons (.same rfl) (.cons (.same rfl) (.cons (.same rfl) .nil))) rfl) rfl ?_) | (refine zq 71 rfl ?_; refine zT rfl (by kernel_rfl) rfl (zK rfl b2 (.cons (.same rfl) (.cons (.same rfl) (.cons (.same rfl) .nil))) rfl) rfl ?_) | refine zD ?_ | refine zB _ rfl (by kernel_rfl) ?_ | refine zX rfl ?_ | refine zY rfl ?_ | refine zC ?_ | with_reducible refine zO ?_ | refine zI ?_ | refine zJ ?_ | (with_reducible first | refine zM ?_ | refine zN ?_ | refine zF ?_ | refine zH ?_ | refine zG ?_) | refine zP ?_
  refine xY ?_
  refine yc 0 (Or.inr ⟨rfl, rfl⟩) rfl rfl (by kernel_rfl) rfl (fun _ => rfl) rfl ?_
  refine nj 1 ⟨rfl, rfl⟩ (by kernel_rfl) rfl (by kernel_rfl) rfl (fun _ hG => xE rfl rfl hG.1 rfl rfl) rfl ?_
  refine nj 2 ⟨rfl, rfl⟩ (by kernel_rfl) rfl (by kernel_rfl) rfl (fun _ hG => yq (l := (2 : Int)) (h := ((a :: b :: rest).length : Int)) rfl rfl hG.2 (Nat.zero_le _) rfl (.yes _ rfl) (.no _) (by decide) (by simp; omega) (by simp)) rfl ?_
  refine yc 3 (Or.inr ⟨rfl, rfl⟩) rfl rfl (by kernel_rfl) rfl (fun _ => rfl) rfl ?_
  refine nj 4 ⟨rfl, rfl⟩ (by kernel_rfl) rfl (by kernel_rfl) rfl (fun _ hG => xE rfl rfl hG.1 rfl rfl) rfl ?_
  refine yc 5 (Or.inr ⟨rfl, rfl⟩) rfl rfl (by kernel_rfl) rfl (fun _ => rfl) rfl ?_
  refine wQ 6 (by kernel_rfl) rfl rfl rfl (Or.inr ⟨rfl, rfl⟩) rfl ?_
  refine ke 7 (by kernel_rfl) rfl rfl (eP (hz := 8) (v := .sl 5 0 out.length) (n := rest.length) (off := 2) (cells := rnT.flat (a :: b :: rest)) rfl rfl rfl rfl rfl rfl fl (by omega)) (fun v H' hq => Or.inl (by kernel_rfl)) (fun v H' hq => ?_)
  obtain ⟨o', pre, p1, p2, rfl, rfl⟩ := hq
  refine ⟨_, _, rfl, ?_⟩
  refine yc 8 (Or.inl (by kernel_rfl)) rfl rfl (by kernel_rfl) rfl (fun _ => rfl) rfl ?_
  refine wQ 9 (by kernel_rfl) rfl rfl rfl (Or.inl (by kernel_rfl)) rfl ?_
  refine uK (by kernel_rfl) ?_
  repeat' first | refine zL ?_ | refine zA ?_ | refine zQ [] ?_ | (refine isA ?_; refine zg rfl ?_) | (refine isL ?_; refine zW rfl (by kernel_rfl) rfl rfl ?_) | (refine zd rfl ?_; refine zV rfl (by kernel_rfl) rfl rfl ?_) | (refine zp 70 ?_; refine za rfl (yN rfl (tJ _ _ _ _ _ _ _ _ _ _ _ _ _ _ _ _ _ _ _ _ _ _ _ _ _ _ _ _ _ _ _) rfl) rfl ?_) | (refine zq 70 rfl ?_; refine zT rfl (by kernel_rfl) rfl (yN rfl (tJ _ _ _ _ _ _ _ _ _ _ _ _ _ _ _ _ _ _ _ _ _ _ _ _ _ _ _ _ _ _ _) rfl) rfl ?_) | refine zD ?_ | refine zB _ rfl (by kernel_rfl) ?_ | refine zX rfl ?_ | refine zY rfl ?_ | refine zC ?_ | with_reducible refine zO ?_ | refine zI ?_ | refine zJ ?_ | (with_reducible first | refine zM ?_ | refine zN ?_ | refine zF ?_ | refine zH ?_ | refine zG ?_) | refine zP ?_
  exact ww (yP rfl rfl rfl rfl rfl) (.tup (.cons (.agg (.cons (zy rfl) (.cons (.same rfl) (.cons (zy rfl) (.cons (zy rfl) (.cons (zy (T := rwT) (x := []) rfl) (.cons (kb p1 rfl rfl) (.cons (.same rfl) (.cons (.same rfl) (.cons (.same rfl) (.cons (.same rfl) .nil))))))))))) (.cons (zy (T := rwT) (x := []) rfl) (.cons (.same rfl) .nil))))
theorem fN (s x : So) (g : Int) (r : List Rw) (hok : okSo s) (hv : vS s = true) (h1 : inV g 8 60 = true) (h : StepV s g x r) : zx Go.Proofs.Try.prog 14 [.agg (soE s), I g] [] (.tup [.agg (soE x), rwL r, B true]) [] true := by
  have hV := sI.1 hv
  cases hV with
  | read b q => exact gJ s x g r hok hv h1 q.ph h
  | @merge b t ph c d rest i j hr hi hj m =>
    obtain ⟨inp, pos, heap, dfr, out, runs, lp, rp, ph', wr⟩ := s
    simp only at ph hr hi hj m
    subst ph hr hi hj
    have m1 := m.ha
    have m2 := m.hb
    cases h with
    | put h1 => simp at h1
    | pop h1 => simp at h1
    | swap h1 => simp at h1
    | close h1 => simp at h1
    | emit h1 => simp at h1
    | @merged a' b' rest' h3 h2 h4 h5 =>
      simp only [List.cons.injEq] at h2
      obtain ⟨rfl, rfl, rfl⟩ := h2
      simp only at h4 h5
      obtain rfl : i = c.length := by omega
      obtain rfl : j = d.length := by omega
      have e : yO (qK ⟨inp, pos, heap, dfr, out, c :: d :: rest, c.length, d.length, 2, wr⟩) = ⟨inp, pos, heap, dfr, [], rest ++ [out], 0, 0, cond (decide (rest.length + 1 = 0)) 4 (cond (decide (rest.length + 1 = 1)) 3 2), wr⟩ := by
        simp [yO, qK]
      rw [e]
      exact kV inp heap dfr out pos wr g c d rest hok hv h1
    | @left a' b' rest' q h5 h2 h3 h4 =>
      simp only [List.cons.injEq] at h2
      obtain ⟨rfl, rfl, rfl⟩ := h2
      simp only [Int.toNat_natCast] at h3 h4
      exact eg inp heap dfr out pos wr g c d rest i j q hok hv h1 h3 m2 h4
    | @right a' b' rest' q h5 h2 h3 h4 =>
      simp only [List.cons.injEq] at h2
      obtain ⟨rfl, rfl, rfl⟩ := h2
      simp only [Int.toNat_natCast] at h3 h4
      exact gz inp heap dfr out pos wr g c d rest i j q hok hv h1 h3 m1 h4
  | @emit b t ph c i hr hi hl hrp ho =>
    obtain ⟨inp, pos, heap, dfr, out, runs, lp, rp, ph', wr⟩ := s
    simp only at ph hr hi
    subst ph hr hi
    cases h with
    | put h1 => simp at h1
    | pop h1 => simp at h1
    | swap h1 => simp at h1
    | close h1 => simp at h1
    | merged h1 => simp at h1
    | left h1 => simp at h1
    | right h1 => simp at h1
    | @emit a' q h5 h2 h3 =>
      simp only [List.cons.injEq, and_true] at h2
      subst h2
      simp only [Int.toNat_natCast] at h3
      exact ek inp heap dfr out pos wr rp g c i q hok hv h1 h3
  | done b t ph =>
    cases h with
    | put h1 => omega
    | pop h1 => omega
    | swap h1 => omega
    | close h1 => omega
    | merged h1 => omega
    | left h1 => omega
    | right h1 => omega
    | emit h1 => omega
end Go.Proofs.Ytojcojanokhnaaa.Ab
