/- What the row FnExactRunSort leans on, part 5: a walk over abstract values, and contracts proved with it. -/
import Derived.WalkKit
import Derived.Laws.Rows
import Derived.RowKit
import Derived.OrdersHeld
import Derived.Deep.RegionHeld3
import Derived.Deep.Draws
import Derived.BigCall
import Derived.KernelRfl
import Derived.Deep.Slices
import Derived.ChangeArms
import Derived.ChangeShapes
import Derived.WideShapes
import Derived.Laws.StructEq
import Derived.Lib.Overlaps
import Derived.Test.YtojcojanokhnaaaProg
import Derived.Test.YtojcojanokhnaaaZy3
set_option linter.unusedVariables false
set_option linter.unusedSimpArgs false
set_option maxRecDepth 20000
set_option maxHeartbeats 8000000
namespace Go.Proofs.Ytojcojanokhnaaa.Ab
open Go.RowKit
theorem xF {live : Bool} {H : List Reg} {a b : Int} (h : a = b) : Pur live H (I a) (I b) := by subst h; exact .same rfl
def soH (s : So) : List V := [rwL s.input, I s.pos, .sl 0 0 s.heap.length, rwL s.dfr, rwL s.out, rnL s.runs, I s.lp, I s.rp, I s.ph, I s.wr]
theorem fp (s : So) (r : List Rw) (b : Bool) : Pur true [rwR s.heap] (.tup [.agg (soH s), rwL r, B b]) (.tup [.agg (soE s), rwL r, B b]) := .tup (.cons (.agg (.cons (.same rfl) (.cons (.same rfl) (.cons (zk rfl) (.cons (.same rfl) (.cons (.same rfl) (.cons (.same rfl) (.cons (.same rfl) (.cons (.same rfl) (.cons (.same rfl) (.cons (.same rfl) .nil))))))))))) (.cons (.same rfl) (.cons (.same rfl) .nil)))
theorem s_put (s : So) (g : Int) (r : Rw) (hok : okSo s) (hv : vS s = true) (h1 : inV g 8 60 = true) (hb : VBa s) (hm : yj s ≤ 60) (hp : s.ph = 1) (hr : s.input[s.pos.toNat]? = some r) (hf : yj s + y3 r ≤ g) : zy Go.Proofs.Try.prog 14 [.agg (soE s), I g] [] (.tup [.agg (soH (ws s r)), rwL [], B true]) [rwR (ws s r).heap] true := by
  obtain ⟨p, hpp, hple⟩ := hb.pos
  have e1 : s.pos.toNat = p := by omega
  rw [e1] at hr
  have hlt := (List.getElem?_eq_some_iff.1 hr).1
  have g1 := hok.heap
  have g2 := hok.dfr
  have g3 := hok.input
  have g4 := hok.out
  have ac := wF s hok
  have am := pS s hok
  have a1 := tt s hok
  rw [hv] at a1
  have a2 := uI g 8 60
  rw [h1] at a2
  have ew : IntKind.i64.wrap (s.pos + 1) = s.pos + 1 := by rw [IntKind.wrap_i64]; omega
  refine yS 4 27 [5, 6] Go.Proofs.Try.func14 rfl rfl rfl ?_
  simp only [Go.Proofs.Try.ntmps14, List.length_cons, List.length_nil, Nat.reduceAdd, Nat.reduceSub, List.replicate_succ, List.replicate_zero, List.cons_append, List.nil_append]
  repeat' first | (refine zh rfl (fun h => absurd (of_decide_eq_true h) (by omega)) (fun _ => ?_)) | (refine zh rfl (fun _ => ?_) (fun h => absurd hp (of_decide_eq_false h))) | refine zL ?_ | refine zA ?_ | refine zQ [] ?_ | (refine isA ?_; refine zf rfl ?_) | (refine isL ?_; refine zV rfl (by kernel_rfl) rfl rfl ?_) | (refine zc rfl ?_; refine zU rfl (by kernel_rfl) rfl rfl ?_) | (refine zr 65 ?_; refine za rfl (yO (r' := .agg (soP 2 s)) (H' := bxS (soE s) :: bxS zS :: soW s) rfl ac (.cons (.same rfl) .nil) rfl (by simp only [List.map_cons, List.map_nil, shR, yT _ (yi (zE _ _))]; rfl)) rfl ?_) | (refine zq 65 rfl ?_; refine zT rfl (by kernel_rfl) rfl (yO (r' := .agg (soP 2 s)) (H' := bxS (soE s) :: bxS zS :: soW s) rfl ac (.cons (.same rfl) .nil) rfl (by simp only [List.map_cons, List.map_nil, shR, yT _ (yi (zE _ _))]; rfl)) rfl ?_) | (refine zr 18 ?_; refine za rfl (zK rfl a1 (.cons (.same rfl) .nil) rfl) rfl ?_) | (refine zq 18 rfl ?_; refine zT rfl (by kernel_rfl) rfl (zK rfl a1 (.cons (.same rfl) .nil) rfl) rfl ?_) | (refine zr 66 ?_; refine za rfl (zK rfl a2 (.cons (.same rfl) (.cons (.same rfl) (.cons (.same rfl) .nil))) rfl) rfl ?_) | (refine zq 66 rfl ?_; refine zT rfl (by kernel_rfl) rfl (zK rfl a2 (.cons (.same rfl) (.cons (.same rfl) (.cons (.same rfl) .nil))) rfl) rfl ?_) | refine zD ?_ | refine zB _ rfl (by kernel_rfl) ?_ | refine zW rfl ?_ | refine zX rfl ?_ | refine zC ?_ | with_reducible refine zO ?_ | refine zI ?_ | refine zJ ?_ | (with_reducible first | refine zM ?_ | refine zN ?_ | refine zF ?_ | refine zH ?_ | refine zG ?_) | refine zP ?_
  refine yK rfl rfl rfl rfl (fun _ => ?_) (fun h => absurd (of_decide_eq_false h) (by omega))
  repeat' first | refine zL ?_ | refine zA ?_ | refine zQ [] ?_ | (refine isA ?_; refine zf rfl ?_) | (refine isL ?_; refine zV rfl (by kernel_rfl) rfl rfl ?_) | (refine zc rfl ?_; refine zU rfl (by kernel_rfl) rfl rfl ?_) | (refine zr 20 ?_; refine za rfl (zK rfl am (.cons (.same rfl) .nil) rfl) rfl ?_) | (refine zq 20 rfl ?_; refine zT rfl (by kernel_rfl) rfl (zK rfl am (.cons (.same rfl) .nil) rfl) rfl ?_) | (refine yB (x := .tmp 42) ?_; refine za rfl (zz (t := rwT) (z := r) rfl rfl rfl rfl (by omega) (by rw [e1]; exact hr)) rfl ?_) | (refine yA (x := .tmp 42) rfl ?_; refine zT rfl (by kernel_rfl) rfl (zz (t := rwT) (z := r) rfl rfl rfl rfl (by omega) (by rw [e1]; exact hr)) rfl ?_) | (refine zr 67 ?_; refine za rfl (zK rfl (wE r) (.cons (.same rfl) .nil) rfl) rfl ?_) | (refine zq 67 rfl ?_; refine zT rfl (by kernel_rfl) rfl (zK rfl (wE r) (.cons (.same rfl) .nil) rfl) rfl ?_) | refine zD ?_ | refine zB _ rfl (by kernel_rfl) ?_ | refine zW rfl ?_ | refine zX rfl ?_ | refine zC ?_ | with_reducible refine zO ?_ | refine zI ?_ | refine zJ ?_ | (with_reducible first | refine zM ?_ | refine zN ?_ | refine zF ?_ | refine zH ?_ | refine zG ?_) | refine zP ?_
  refine zh rfl (fun _ => ?_) (fun h => absurd (of_decide_eq_false h) (by rw [pE hm]; omega))
  repeat' first | refine zL ?_ | refine zA ?_ | refine zQ [] ?_ | (refine isA ?_; refine zf rfl ?_) | (refine isL ?_; refine zV rfl (by kernel_rfl) rfl rfl ?_) | (refine zc rfl ?_; refine zU rfl (by kernel_rfl) rfl rfl ?_) | (refine yB (x := .tmp 53) ?_; refine za rfl (zz (t := rwT) (z := r) rfl rfl rfl rfl (by omega) (by rw [e1]; exact hr)) rfl ?_) | (refine yA (x := .tmp 53) rfl ?_; refine zT rfl (by kernel_rfl) rfl (zz (t := rwT) (z := r) rfl rfl rfl rfl (by omega) (by rw [e1]; exact hr)) rfl ?_) | (refine tE (x := .tmp 8) ?_; refine za rfl (wM rfl rfl rfl rfl rfl (wi r) rfl rfl) rfl ?_) | (refine tD (x := .tmp 8) rfl ?_; refine zT rfl (by kernel_rfl) rfl (wM rfl rfl rfl rfl rfl (wi r) rfl rfl) rfl ?_) | refine zD ?_ | refine zB _ rfl (by kernel_rfl) ?_ | refine zW rfl ?_ | refine zX rfl ?_ | refine zC ?_ | with_reducible refine zO ?_ | refine zI ?_ | refine zJ ?_ | (with_reducible first | refine zM ?_ | refine zN ?_ | refine zF ?_ | refine zH ?_ | refine zG ?_) | refine zP ?_
  refine yK rfl rfl rfl rfl (fun h => ?_) (fun h => ?_)
  · have h0 : 0 < s.out.length := by have := of_decide_eq_true h; omega
    obtain ⟨y, hy⟩ : ∃ z, s.out[s.out.length - 1]? = some z := ⟨_, List.getElem?_eq_getElem (by omega)⟩
    have ew2 : IntKind.i64.wrap ((s.out.length : Int) - 1) = ((s.out.length - 1 : Nat) : Int) := by rw [IntKind.wrap_i64]; omega
    have hbe : bel r s.out = decide (yu r y < 0) := by unfold bel; rw [hy]; rfl
    repeat' first | refine zL ?_ | refine zA ?_ | refine zQ [] ?_ | (refine isA ?_; refine zf rfl ?_) | (refine isL ?_; refine zV rfl (by kernel_rfl) rfl rfl ?_) | (refine zc rfl ?_; refine zU rfl (by kernel_rfl) rfl rfl ?_) | (refine yB (x := .tmp 69) ?_; refine za rfl (zz (t := rwT) (j := ((s.out.length - 1 : Nat) : Int)) (z := y) rfl rfl rfl (congrArg I ew2) (Int.natCast_nonneg _) hy) rfl ?_) | (refine yA (x := .tmp 69) rfl ?_; refine zT rfl (by kernel_rfl) rfl (zz (t := rwT) (j := ((s.out.length - 1 : Nat) : Int)) (z := y) rfl rfl rfl (congrArg I ew2) (Int.natCast_nonneg _) hy) rfl ?_) | (refine zr 68 ?_; refine za rfl (zK rfl (xz r y) (.cons (.same rfl) (.cons (.same rfl) .nil)) rfl) rfl ?_) | (refine zq 68 rfl ?_; refine zT rfl (by kernel_rfl) rfl (zK rfl (xz r y) (.cons (.same rfl) (.cons (.same rfl) .nil)) rfl) rfl ?_) | refine zD ?_ | refine zB _ rfl (by kernel_rfl) ?_ | refine zW rfl ?_ | refine zX rfl ?_ | refine zC ?_ | with_reducible refine zO ?_ | refine zI ?_ | refine zJ ?_ | (with_reducible first | refine zM ?_ | refine zN ?_ | refine zF ?_ | refine zH ?_ | refine zG ?_) | refine zP ?_
    refine zh rfl (fun p2 => ?_) (fun p2 => ?_)
    · have e : ws s r = { s with dfr := s.dfr ++ [r], pos := s.pos + 1 } := by unfold ws; rw [hbe, p2]; rfl
      rw [e]
      repeat' first | (refine isA ?_; refine za rfl (yh rfl rfl rfl rfl rfl) rfl ?_) | refine zL ?_ | refine zA ?_ | refine zQ [] ?_ | (refine isA ?_; refine zf rfl ?_) | (refine isL ?_; refine zV rfl (by kernel_rfl) rfl rfl ?_) | (refine zc rfl ?_; refine zU rfl (by kernel_rfl) rfl rfl ?_) | (refine xd ?_; refine za rfl (yX (t := rwT) (xs := s.dfr) (ys := [r]) rfl rfl rfl rfl (.lst _ _) (by simp; omega) rfl) rfl ?_) | (refine xH rfl ?_; refine zT rfl (by kernel_rfl) rfl (yX (t := rwT) (xs := s.dfr) (ys := [r]) rfl rfl rfl rfl (.lst _ _) (by simp; omega) rfl) rfl ?_) | refine zD ?_ | refine zB _ rfl (by kernel_rfl) ?_ | refine zW rfl ?_ | refine zX rfl ?_ | refine zC ?_ | with_reducible refine zO ?_ | refine zI ?_ | refine zJ ?_ | (with_reducible first | refine zM ?_ | refine zN ?_ | refine zF ?_ | refine zH ?_ | refine zG ?_) | refine zP ?_
      exact wS (yU rfl rfl rfl rfl rfl) rfl rfl (zE _ _) (by repeat' first | exact Purs.nil | refine Purs.cons ?_ ?_ | exact zk rfl | exact yY rfl rfl | exact zk (T := rwT) (x := []) rfl | exact Pur.nil | exact Pur.same rfl | exact xF (by assumption)) (by repeat' first | exact Purs.nil | refine Purs.cons ?_ ?_ | exact zk rfl | exact yY rfl rfl | exact zk (T := rwT) (x := []) rfl | exact Pur.nil | exact Pur.same rfl | exact xF (by assumption)) (.cons (.same rfl) (.cons (.same rfl) .nil))
    · have e : ws s r = { s with heap := s.heap ++ [r], pos := s.pos + 1 } := by unfold ws; rw [hbe, p2]; rfl
      rw [e]
      repeat' first | (refine isA ?_; refine za rfl (yh rfl rfl rfl rfl rfl) rfl ?_) | refine zL ?_ | refine zA ?_ | refine zQ [] ?_ | (refine isA ?_; refine zf rfl ?_) | (refine isL ?_; refine zV rfl (by kernel_rfl) rfl rfl ?_) | (refine zc rfl ?_; refine zU rfl (by kernel_rfl) rfl rfl ?_) | (refine xd ?_; refine za rfl (yX (t := rwT) (xs := s.heap) (ys := [r]) rfl rfl rfl rfl (.lst _ _) (by simp; omega) rfl) rfl ?_) | (refine xH rfl ?_; refine zT rfl (by kernel_rfl) rfl (yX (t := rwT) (xs := s.heap) (ys := [r]) rfl rfl rfl rfl (.lst _ _) (by simp; omega) rfl) rfl ?_) | refine zD ?_ | refine zB _ rfl (by kernel_rfl) ?_ | refine zW rfl ?_ | refine zX rfl ?_ | refine zC ?_ | with_reducible refine zO ?_ | refine zI ?_ | refine zJ ?_ | (with_reducible first | refine zM ?_ | refine zN ?_ | refine zF ?_ | refine zH ?_ | refine zG ?_) | refine zP ?_
      exact wS (yU rfl rfl rfl rfl rfl) rfl rfl (zE _ _) (by repeat' first | exact Purs.nil | refine Purs.cons ?_ ?_ | exact zk rfl | exact yY rfl rfl | exact zk (T := rwT) (x := []) rfl | exact Pur.nil | exact Pur.same rfl | exact xF (by assumption)) (by repeat' first | exact Purs.nil | refine Purs.cons ?_ ?_ | exact zk rfl | exact yY rfl rfl | exact zk (T := rwT) (x := []) rfl | exact Pur.nil | exact Pur.same rfl | exact xF (by assumption)) (.cons (.same rfl) (.cons (.same rfl) .nil))
  · have hbe : bel r s.out = false := by
      rw [List.eq_nil_of_length_eq_zero (show s.out.length = 0 by have := of_decide_eq_false h; omega)]; rfl
    have e : ws s r = { s with heap := s.heap ++ [r], pos := s.pos + 1 } := by unfold ws; rw [hbe]; rfl
    rw [e]
    repeat' first | (refine isA ?_; refine za rfl (yh rfl rfl rfl rfl rfl) rfl ?_) | refine zL ?_ | refine zA ?_ | refine zQ [] ?_ | (refine isA ?_; refine zf rfl ?_) | (refine isL ?_; refine zV rfl (by kernel_rfl) rfl rfl ?_) | (refine zc rfl ?_; refine zU rfl (by kernel_rfl) rfl rfl ?_) | (refine xd ?_; refine za rfl (yX (t := rwT) (xs := s.heap) (ys := [r]) rfl rfl rfl rfl (.lst _ _) (by simp; omega) rfl) rfl ?_) | (refine xH rfl ?_; refine zT rfl (by kernel_rfl) rfl (yX (t := rwT) (xs := s.heap) (ys := [r]) rfl rfl rfl rfl (.lst _ _) (by simp; omega) rfl) rfl ?_) | refine zD ?_ | refine zB _ rfl (by kernel_rfl) ?_ | refine zW rfl ?_ | refine zX rfl ?_ | refine zC ?_ | with_reducible refine zO ?_ | refine zI ?_ | refine zJ ?_ | (with_reducible first | refine zM ?_ | refine zN ?_ | refine zF ?_ | refine zH ?_ | refine zG ?_) | refine zP ?_
    exact wS (yU rfl rfl rfl rfl rfl) rfl rfl (zE _ _) (by repeat' first | exact Purs.nil | refine Purs.cons ?_ ?_ | exact zk rfl | exact yY rfl rfl | exact zk (T := rwT) (x := []) rfl | exact Pur.nil | exact Pur.same rfl | exact xF (by assumption)) (by repeat' first | exact Purs.nil | refine Purs.cons ?_ ?_ | exact zk rfl | exact yY rfl rfl | exact zk (T := rwT) (x := []) rfl | exact Pur.nil | exact Pur.same rfl | exact xF (by assumption)) (.cons (.same rfl) (.cons (.same rfl) .nil))
end Go.Proofs.Ytojcojanokhnaaa.Ab
namespace Go.Proofs.Ytojcojanokhnaaa.Ab
open Go.RowKit
theorem pO {l : List V} {H K : List Reg} {m : Nat} {t : Tmp} {n : Nat} {v r : V} (hv : CellIs l H t n v) (hr : v = r) (hK : H = K) : (Exit.ret = .ret ∨ Exit.ret = .normal) ∧ ∃ v, CellIs l H t n v ∧ Out true r K v ⟨l, H, m⟩ := by
  subst hr
  subst hK
  exact ⟨Or.inl rfl, _, hv, mB (S := ⟨l, H, m⟩)⟩
theorem lQ (a0 a1 a2 a3 a4 a5 a6 a7 : Reg) (x1 x6 x7 x8 x9 : Int) (h0 o0 n0 h2 o2 n2 h3 o3 n3 h4 o4 n4 h5 o5 n5 : Nat) :
    zy Go.Proofs.Try.prog 70 [.agg [.sl h0 o0 n0, I x1, .sl h2 o2 n2, .sl h3 o3 n3, .sl h4 o4 n4, .sl h5 o5 n5, I x6, I x7, I x8, I x9]] [a0, a1, a2, a3, a4, a5, a6, a7] (.agg [.sl h0 o0 n0, I x1, .sl h2 o2 n2, .sl h3 o3 n3, .sl h4 o4 n4, .sl h5 o5 n5, I 0, I 0, I (cond (decide (n5 = 0)) 4 (cond (decide (n5 = 1)) 3 2)), I x9])
      [a0, a1, a2, a3, a4, a5, a6, a7, bxS [.sl h0 o0 n0, I x1, .sl h2 o2 n2, .sl h3 o3 n3, .sl h4 o4 n4, .sl h5 o5 n5, I 0, I 0, I (cond (decide (n5 = 0)) 4 (cond (decide (n5 = 1)) 3 2)), I x9], bxS [.sl h0 o0 n0, I x1, .sl h2 o2 n2, .sl h3 o3 n3, .sl h4 o4 n4, .sl h5 o5 n5, I 0, I 0, I (cond (decide (n5 = 0)) 4 (cond (decide (n5 = 1)) 3 2)), I x9]] true := by
  have e0 : decide (n5 = 0) = decide ((n5 : Int) = 0) := decide_eq_decide.2 (by omega)
  have e1 : decide (n5 = 1) = decide ((n5 : Int) = 1) := decide_eq_decide.2 (by omega)
  rw [e0, e1]
  refine wa 2 27 Go.Proofs.Try.func70 rfl rfl ?_
  simp only [Go.Proofs.Try.ntmps70, List.length_cons, List.length_nil, Nat.reduceAdd, Nat.reduceSub, List.replicate_succ, List.replicate_zero, List.cons_append, List.nil_append]
  repeat' first | refine zL ?_ | refine zA ?_ | refine zQ [] ?_ | (refine isA ?_; refine zf rfl ?_) | (refine isL ?_; refine zV rfl (by kernel_rfl) rfl rfl ?_) | (refine zc rfl ?_; refine zU rfl (by kernel_rfl) rfl rfl ?_) | refine zD ?_ | refine zB _ rfl (by kernel_rfl) ?_ | refine zW rfl ?_ | refine zX rfl ?_ | refine zC ?_ | with_reducible refine zO ?_ | refine zI ?_ | refine zJ ?_ | (with_reducible first | refine zM ?_ | refine zN ?_ | refine zF ?_ | refine zH ?_ | refine zG ?_) | refine zP ?_ | refine zh rfl (fun hbr => ?_) (fun hbr => ?_)
  all_goals first
    | (exfalso; have p1 := of_decide_eq_true (by assumption : decide ((n5 : Int) = 1) = true); have p2 := of_decide_eq_true (by assumption : decide ((n5 : Int) = 0) = true); omega)
    | (refine pO (yU rfl rfl rfl rfl rfl) ?_ ?_ <;> simp only [*, cond_true, cond_false] <;> rfl)
theorem tO (a0 a1 a2 a3 a4 a5 a6 a7 a8 a9 a10 : Reg) (x1 x6 x7 x8 x9 : Int) (h0 o0 n0 h2 o2 n2 h3 o3 n3 h4 o4 n4 h5 o5 n5 : Nat) :
    zy Go.Proofs.Try.prog 70 [.agg [.sl h0 o0 n0, I x1, .sl h2 o2 n2, .sl h3 o3 n3, .sl h4 o4 n4, .sl h5 o5 n5, I x6, I x7, I x8, I x9]] [a0, a1, a2, a3, a4, a5, a6, a7, a8, a9, a10] (.agg [.sl h0 o0 n0, I x1, .sl h2 o2 n2, .sl h3 o3 n3, .sl h4 o4 n4, .sl h5 o5 n5, I 0, I 0, I (cond (decide (n5 = 0)) 4 (cond (decide (n5 = 1)) 3 2)), I x9])
      [a0, a1, a2, a3, a4, a5, a6, a7, a8, a9, a10, bxS [.sl h0 o0 n0, I x1, .sl h2 o2 n2, .sl h3 o3 n3, .sl h4 o4 n4, .sl h5 o5 n5, I 0, I 0, I (cond (decide (n5 = 0)) 4 (cond (decide (n5 = 1)) 3 2)), I x9], bxS [.sl h0 o0 n0, I x1, .sl h2 o2 n2, .sl h3 o3 n3, .sl h4 o4 n4, .sl h5 o5 n5, I 0, I 0, I (cond (decide (n5 = 0)) 4 (cond (decide (n5 = 1)) 3 2)), I x9]] true := by
  have e0 : decide (n5 = 0) = decide ((n5 : Int) = 0) := decide_eq_decide.2 (by omega)
  have e1 : decide (n5 = 1) = decide ((n5 : Int) = 1) := decide_eq_decide.2 (by omega)
  rw [e0, e1]
  refine wa 2 27 Go.Proofs.Try.func70 rfl rfl ?_
  simp only [Go.Proofs.Try.ntmps70, List.length_cons, List.length_nil, Nat.reduceAdd, Nat.reduceSub, List.replicate_succ, List.replicate_zero, List.cons_append, List.nil_append]
  repeat' first | refine zL ?_ | refine zA ?_ | refine zQ [] ?_ | (refine isA ?_; refine zf rfl ?_) | (refine isL ?_; refine zV rfl (by kernel_rfl) rfl rfl ?_) | (refine zc rfl ?_; refine zU rfl (by kernel_rfl) rfl rfl ?_) | refine zD ?_ | refine zB _ rfl (by kernel_rfl) ?_ | refine zW rfl ?_ | refine zX rfl ?_ | refine zC ?_ | with_reducible refine zO ?_ | refine zI ?_ | refine zJ ?_ | (with_reducible first | refine zM ?_ | refine zN ?_ | refine zF ?_ | refine zH ?_ | refine zG ?_) | refine zP ?_ | refine zh rfl (fun hbr => ?_) (fun hbr => ?_)
  all_goals first
    | (exfalso; have p1 := of_decide_eq_true (by assumption : decide ((n5 : Int) = 1) = true); have p2 := of_decide_eq_true (by assumption : decide ((n5 : Int) = 0) = true); omega)
    | (refine pO (yU rfl rfl rfl rfl rfl) ?_ ?_ <;> simp only [*, cond_true, cond_false] <;> rfl)
theorem cL (a0 a1 a7 : Reg) (s : So) (k : Nat) (r : Rw) (hok : okSo s) (hk : mC s.heap = (k : Nat)) (hr : s.heap[k]? = some r) :
    zy Go.Proofs.Try.prog 69 [.agg (soP 2 s)] [a0, a1, rwR s.input, rwR s.heap, rwR s.dfr, rwR s.out, rnR s.runs, a7]
      (.agg [.sl 2 0 s.input.length, I s.pos, .sl 11 0 (s.heap.take k ++ s.heap.drop (k + 1)).length, .sl 4 0 s.dfr.length, .sl 10 0 (s.out ++ [r]).length, .sl 6 0 s.runs.length, I s.lp, I s.rp, I s.ph, I (IntKind.i64.wrap (s.wr + y3 r))])
      [a0, a1, rwR s.input, rwR s.heap, rwR s.dfr, { rwR s.out with mode := 2 }, rnR s.runs, a7, bxS [.sl 2 0 s.input.length, I s.pos, .sl 11 0 (s.heap.take k ++ s.heap.drop (k + 1)).length, .sl 4 0 s.dfr.length, .sl 10 0 (s.out ++ [r]).length, .sl 6 0 s.runs.length, I s.lp, I s.rp, I s.ph, I (IntKind.i64.wrap (s.wr + y3 r))], bxS [.sl 2 0 s.input.length, I s.pos, .sl 11 0 (s.heap.take k ++ s.heap.drop (k + 1)).length, .sl 4 0 s.dfr.length, .sl 10 0 (s.out ++ [r]).length, .sl 6 0 s.runs.length, I s.lp, I s.rp, I s.ph, I (IntKind.i64.wrap (s.wr + y3 r))], rwR (s.out ++ [r]), rwR (s.heap.take k ++ s.heap.drop (k + 1))] true := by
  have g1 := hok.heap
  have g4 := hok.out
  have hlt := (List.getElem?_eq_some_iff.1 hr).1
  have ai := cH s.heap (by omega)
  rw [hk] at ai
  refine wa 2 27 Go.Proofs.Try.func69 rfl rfl ?_
  simp only [Go.Proofs.Try.ntmps69, List.length_cons, List.length_nil, Nat.reduceAdd, Nat.reduceSub, List.replicate_succ, List.replicate_zero, List.cons_append, List.nil_append]
  repeat' first | (refine zQ (id := 9) [8, 10] ?_) | (refine tq rfl ?_; refine zT rfl (by kernel_rfl) rfl (yh rfl rfl rfl rfl rfl) rfl ?_) | (refine xH rfl ?_; refine tp rfl (by kernel_rfl) rfl (yX (t := rwT) (xs := s.out) (ys := [r]) rfl rfl rfl rfl (.lst _ _) (by simp; omega) rfl) rfl ?_) | (refine zh rfl (fun h => absurd (of_decide_eq_true h) (by omega)) (fun _ => ?_)) | (refine isA ?_; refine za rfl (yh rfl rfl rfl rfl rfl) rfl ?_) | refine zL ?_ | refine zA ?_ | refine zQ [10] ?_ | (refine isA ?_; refine zf rfl ?_) | (refine isL ?_; refine zV rfl (by kernel_rfl) rfl rfl ?_) | (refine zc rfl ?_; refine zU rfl (by kernel_rfl) rfl rfl ?_) | (refine zr 119 ?_; refine za rfl (zK rfl ai (.cons (zk rfl) .nil) rfl) rfl ?_) | (refine zq 119 rfl ?_; refine zT rfl (by kernel_rfl) rfl (zK rfl ai (.cons (zk rfl) .nil) rfl) rfl ?_) | (refine yB (x := .tmp 30) ?_; refine za rfl (zo (j := (k : Int)) rfl rfl rfl (Nat.zero_le _) rfl rfl (Int.natCast_nonneg _) (by omega)) rfl ?_) | (refine yA (x := .tmp 30) rfl ?_; refine zT rfl (by kernel_rfl) rfl (zo (j := (k : Int)) rfl rfl rfl (Nat.zero_le _) rfl rfl (Int.natCast_nonneg _) (by omega)) rfl ?_) | (refine xi (x := .tmp 32) ?_; refine za rfl (yv (T := rwT) (i := 0 + k) (z := r) rfl rfl rfl (by rw [Nat.zero_add]; exact hr)) rfl ?_) | (refine xh (x := .tmp 32) rfl ?_; refine zT rfl (by kernel_rfl) rfl (yv (T := rwT) (i := 0 + k) (z := r) rfl rfl rfl (by rw [Nat.zero_add]; exact hr)) rfl ?_) | (refine zr 67 ?_; refine za rfl (zK rfl (wE r) (.cons (.same rfl) .nil) rfl) rfl ?_) | (refine zq 67 rfl ?_; refine zT rfl (by kernel_rfl) rfl (zK rfl (wE r) (.cons (.same rfl) .nil) rfl) rfl ?_) | (refine yB (x := .tmp 40) ?_; refine za rfl (zo (j := (k : Int)) rfl rfl rfl (Nat.zero_le _) rfl rfl (Int.natCast_nonneg _) (by omega)) rfl ?_) | (refine yA (x := .tmp 40) rfl ?_; refine zT rfl (by kernel_rfl) rfl (zo (j := (k : Int)) rfl rfl rfl (Nat.zero_le _) rfl rfl (Int.natCast_nonneg _) (by omega)) rfl ?_) | (refine xi (x := .tmp 42) ?_; refine za rfl (yv (T := rwT) (i := 0 + k) (z := r) rfl rfl rfl (by rw [Nat.zero_add]; exact hr)) rfl ?_) | (refine xh (x := .tmp 42) rfl ?_; refine zT rfl (by kernel_rfl) rfl (yv (T := rwT) (i := 0 + k) (z := r) rfl rfl rfl (by rw [Nat.zero_add]; exact hr)) rfl ?_) | (refine zr 120 ?_; refine za rfl (z6 rfl (fJ s.heap k hlt (by omega)) (.cons (zk rfl) (.cons (.same rfl) .nil)) (fun q hq => by simp at hq; subst hq; exact zE _ _) rfl rfl) rfl ?_) | (refine zq 120 rfl ?_; refine zT rfl (by kernel_rfl) rfl (z6 rfl (fJ s.heap k hlt (by omega)) (.cons (zk rfl) (.cons (.same rfl) .nil)) (fun q hq => by simp at hq; subst hq; exact zE _ _) rfl rfl) rfl ?_) | (refine isL ?_; refine wx rfl (by kernel_rfl) rfl rfl ?_) | refine zD ?_ | refine zB _ rfl (by kernel_rfl) ?_ | refine zW rfl ?_ | refine zX rfl ?_ | refine zC ?_ | with_reducible refine zO ?_ | refine zI ?_ | refine zJ ?_ | (with_reducible first | refine zM ?_ | refine zN ?_ | refine zF ?_ | refine zH ?_ | refine zG ?_) | refine zP ?_
  exact pO (yU rfl rfl rfl rfl rfl) rfl rfl
theorem cK (a0 a1 a7 : Reg) (s : So) (hok : okSo s) (hh : s.heap = []) :
    zy Go.Proofs.Try.prog 69 [.agg (soP 2 s)] [a0, a1, rwR s.input, rwR s.heap, rwR s.dfr, rwR s.out, rnR s.runs, a7]
      (.agg [.sl 2 0 s.input.length, I s.pos, .sl 4 0 s.dfr.length, .lst 0 [], .lst 0 [], .sl 11 0 (s.runs.length + 1), I s.lp, I s.rp, I s.ph, I s.wr])
      [a0, a1, rwR s.input, rwR s.heap, rwR s.dfr, rwR s.out, { rnR s.runs with mode := 2 }, a7, bxS [.sl 2 0 s.input.length, I s.pos, .sl 4 0 s.dfr.length, .lst 0 [], .lst 0 [], .sl 11 0 (s.runs.length + 1), I s.lp, I s.rp, I s.ph, I s.wr], bxS [.sl 2 0 s.input.length, I s.pos, .sl 4 0 s.dfr.length, .lst 0 [], .lst 0 [], .sl 11 0 (s.runs.length + 1), I s.lp, I s.rp, I s.ph, I s.wr], ⟨84, 1, [.sl 5 0 s.out.length], 0⟩, ⟨84, 1, rnT.flat s.runs ++ [.sl 5 0 s.out.length], 0⟩] true := by
  have g5 := hok.runs
  have hh0 : s.heap.length = 0 := by rw [hh]; rfl
  refine wa 2 27 Go.Proofs.Try.func69 rfl rfl ?_
  simp only [Go.Proofs.Try.ntmps69, List.length_cons, List.length_nil, Nat.reduceAdd, Nat.reduceSub, List.replicate_succ, List.replicate_zero, List.cons_append, List.nil_append]
  repeat' first | (refine zh rfl (fun _ => ?_) (fun h => absurd (of_decide_eq_false h) (by omega))) | (refine isA ?_; refine za rfl (yh (ps := []) rfl rfl rfl rfl rfl) rfl ?_) | refine zL ?_ | refine zA ?_ | refine zQ [] ?_ | (refine isA ?_; refine zf rfl ?_) | (refine isL ?_; refine zV rfl (by kernel_rfl) rfl rfl ?_) | (refine zc rfl ?_; refine zU rfl (by kernel_rfl) rfl rfl ?_) | (refine xd ?_; refine za rfl (ti (outs := s.runs) (hz := 10) (zi := 5) (n := s.out.length) rfl rfl rfl rfl rfl (by omega)) rfl ?_) | (refine xH rfl ?_; refine zT rfl (by kernel_rfl) rfl (ti (outs := s.runs) (hz := 10) (zi := 5) (n := s.out.length) rfl rfl rfl rfl rfl (by omega)) rfl ?_) | refine zD ?_ | refine zB _ rfl (by kernel_rfl) ?_ | refine zW rfl ?_ | refine zX rfl ?_ | refine zC ?_ | with_reducible refine zO ?_ | refine zI ?_ | refine zJ ?_ | (with_reducible first | refine zM ?_ | refine zN ?_ | refine zF ?_ | refine zH ?_ | refine zG ?_) | refine zP ?_
  exact pO (yU rfl rfl rfl rfl rfl) rfl rfl
end Go.Proofs.Ytojcojanokhnaaa.Ab
namespace Go.Proofs.Ytojcojanokhnaaa.Ab
open Go.RowKit
abbrev R8 (s : So) : List Reg := [bxS (soE s), bxS zS, rwR s.input, rwR s.heap, rwR s.dfr, rwR s.out, rnR s.runs, bxS (soP 2 s)]
abbrev T6 (s : So) (g : Int) : St := ⟨(.any :: (I g) :: (.ptr 0 0) :: .any :: (.ptr 1 0) :: .any :: .any :: (.ptr 7 0) :: .any :: .any :: .any :: .any :: .any :: .any :: .any :: .any :: .any :: .any :: .any :: .any :: .any :: .any :: .any :: .any :: .any :: .any :: .any :: .any :: .any :: (I s.ph) :: .any :: .any :: .any :: .any :: .any :: .any :: .any :: .any :: .any :: .any :: .any :: .any :: .any :: .any :: .any :: .any :: .any :: .any :: .any :: .any :: .any :: .any :: .any :: .any :: .any :: .any :: .any :: .any :: .any :: .any :: .any :: .any :: .any :: .any :: .any :: .any :: .any :: .any :: .any :: .any :: .any :: .any :: .any :: .any :: .any :: .any :: .any :: .any :: .any :: .any :: .any :: .any :: .any :: .any :: .any :: .any :: .any :: .any :: .any :: .any :: .any :: .any :: .any :: .any :: .any :: .any :: .any :: .any :: .any :: .any :: .any :: .any :: .any :: .any :: .any :: .any :: .any :: .any :: .any :: .any :: .any :: .any :: .any :: .any :: .any :: .any :: .any :: .any :: .any :: .any :: .any :: .any :: .any :: .any :: .any :: .any :: .any :: .any :: .any :: .any :: .any :: .any :: .any :: .any :: .any :: .any :: .any :: .any :: .any :: .any :: .any :: .any :: .any :: .any :: .any :: .any :: .any :: .any :: .any :: .any :: .any :: .any :: .any :: .any :: .any :: .any :: .any :: .any :: .any :: .any :: .any :: .any :: .any :: .any :: .any :: .any :: .any :: .any :: .any :: .any :: .any :: .any :: .any :: .any :: .any :: .any :: .any :: .any :: .any :: .any :: .any :: .any :: .any :: .any :: .any :: .any :: .any :: .any :: .any :: .any :: .any :: .any :: .any :: .any :: .any :: .any :: .any :: .any :: .any :: .any :: .any :: .any :: .any :: .any :: .any :: .any :: .any :: .any :: .any :: .any :: .any :: .any :: .any :: .any :: .any :: .any :: .any :: .any :: .any :: .any :: .any :: .any :: .any :: .any :: .any :: .any :: .any :: .any :: .any :: .any :: .any :: .any :: .any :: .any :: .any :: []), R8 s, 0⟩
noncomputable def seq6 : Code := match (Go.Proofs.Try.f14).body with
  | some (.seq _ (.seq _ (.seq _ (.seq (.seq _ (.block _ (.seq _ (.cond _ (.seq m _) _)))) _)))) => m
  | _ => .skip
theorem hl8 {ψ : List Nat} {s : So} (h : ∀ i, i < 8 → ψ[i]? = some i) : HLes ψ (R8 s) [0, 1, 2, 3, 4, 5, 6, 7] (R8 s) :=
  .cons rfl rfl rfl rfl (z5 rfl) (.cons rfl rfl rfl rfl (z5 rfl) (.cons rfl rfl rfl rfl (zY (zE _ _)) (.cons rfl rfl rfl rfl (zY (zE _ _)) (.cons rfl rfl rfl rfl (zY (zE _ _)) (.cons rfl rfl rfl rfl (zY (zE _ _)) (.cons rfl rfl rfl rfl (zY (zE _ _)) (.cons rfl rfl rfl rfl (zZ (zm (h 2 (by decide)) rfl) (zZ (le_refl rfl) (zZ (zm (h 3 (by decide)) rfl) (zZ (zm (h 4 (by decide)) rfl) (zZ (zm (h 5 (by decide)) rfl) (zZ (zm (h 6 (by decide)) rfl) (zZ (le_refl rfl) (zZ (le_refl rfl) (zZ (le_refl rfl) (zZ (le_refl rfl) zj)))))))))) .nil)))))))
theorem id8 : ∀ i, i < 8 → [0, 1, 2, 3, 4, 5, 6, 7][i]? = some i := by decide
theorem t7 (s : So) (g : Int) (hok : okSo s) (hb : VBa s) (hm : yj s ≤ 60) (hf : uh s g) : AW Go.Proofs.Try.prog seq6 (fun e S' => e = .normal ∧ Sub (T6 s g) S') (T6 s g) := by
  obtain ⟨p, hpp, hple⟩ := hb.pos
  have e1 : s.pos.toNat = p := by omega
  have g3 := hok.input
  have am := pS s hok
  repeat' first | refine zL ?_ | refine zA ?_ | refine zQ [] ?_ | (refine isA ?_; refine zf rfl ?_) | (refine isL ?_; refine zV rfl (by kernel_rfl) rfl rfl ?_) | (refine zc rfl ?_; refine zU rfl (by kernel_rfl) rfl rfl ?_) | refine zD ?_ | refine zB _ rfl (by kernel_rfl) ?_ | refine zW rfl ?_ | refine zX rfl ?_ | refine zC ?_ | with_reducible refine zO ?_ | refine zI ?_ | refine zJ ?_ | (with_reducible first | refine zM ?_ | refine zN ?_ | refine zF ?_ | refine zH ?_ | refine zG ?_) | refine zP ?_
  refine yK rfl rfl rfl rfl (fun h => ?_) (fun h => ?_)
  · have hlt : p < s.input.length := by have := of_decide_eq_true h; omega
    obtain ⟨z, hz⟩ : ∃ z, s.input[p]? = some z := ⟨_, List.getElem?_eq_getElem hlt⟩
    have hfz := hf z (by rw [e1]; exact hz)
    repeat' first | (refine zh rfl (fun h => absurd (of_decide_eq_true h) (by rw [pE hm]; omega)) (fun _ => ?_)) | refine zL ?_ | refine zA ?_ | refine zQ [] ?_ | (refine isA ?_; refine zf rfl ?_) | (refine isL ?_; refine zV rfl (by kernel_rfl) rfl rfl ?_) | (refine zc rfl ?_; refine zU rfl (by kernel_rfl) rfl rfl ?_) | (refine zr 20 ?_; refine za rfl (zK rfl am (.cons (.same rfl) .nil) rfl) rfl ?_) | (refine zq 20 rfl ?_; refine zT rfl (by kernel_rfl) rfl (zK rfl am (.cons (.same rfl) .nil) rfl) rfl ?_) | (refine yB (x := .tmp 42) ?_; refine za rfl (zz (t := rwT) (z := z) rfl rfl rfl rfl (by omega) (by rw [e1]; exact hz)) rfl ?_) | (refine yA (x := .tmp 42) rfl ?_; refine zT rfl (by kernel_rfl) rfl (zz (t := rwT) (z := z) rfl rfl rfl rfl (by omega) (by rw [e1]; exact hz)) rfl ?_) | (refine zr 67 ?_; refine za rfl (zK rfl (wE z) (.cons (.same rfl) .nil) rfl) rfl ?_) | (refine zq 67 rfl ?_; refine zT rfl (by kernel_rfl) rfl (zK rfl (wE z) (.cons (.same rfl) .nil) rfl) rfl ?_) | refine zD ?_ | refine zB _ rfl (by kernel_rfl) ?_ | refine zW rfl ?_ | refine zX rfl ?_ | refine zC ?_ | with_reducible refine zO ?_ | refine zI ?_ | refine zJ ?_ | (with_reducible first | refine zM ?_ | refine zN ?_ | refine zF ?_ | refine zH ?_ | refine zG ?_) | refine zP ?_
    exact ⟨rfl, yW [0, 1, 2, 3, 4, 5, 6, 7] rfl rfl (by decide) (hl8 id8) (by repeat' first | exact zj | refine zZ ?_ ?_ | exact zp | exact le_refl rfl | exact zm rfl rfl | exact zu rfl)⟩
  · repeat' first | refine zL ?_ | refine zA ?_ | refine zQ [] ?_ | (refine isA ?_; refine zf rfl ?_) | (refine isL ?_; refine zV rfl (by kernel_rfl) rfl rfl ?_) | (refine zc rfl ?_; refine zU rfl (by kernel_rfl) rfl rfl ?_) | refine zD ?_ | refine zB _ rfl (by kernel_rfl) ?_ | refine zW rfl ?_ | refine zX rfl ?_ | refine zC ?_ | with_reducible refine zO ?_ | refine zI ?_ | refine zJ ?_ | (with_reducible first | refine zM ?_ | refine zN ?_ | refine zF ?_ | refine zH ?_ | refine zG ?_) | refine zP ?_
    exact ⟨rfl, yW [0, 1, 2, 3, 4, 5, 6, 7] rfl rfl (by decide) (hl8 id8) (by repeat' first | exact zj | refine zZ ?_ ?_ | exact zp | exact le_refl rfl | exact zm rfl rfl | exact zu rfl)⟩
theorem s_pop (s : So) (g : Int) (k : Nat) (r : Rw) (hok : okSo s) (hv : vS s = true) (h1 : inV g 8 60 = true) (hb : VBa s) (hm : yj s ≤ 60) (hp : s.ph = 1) (hf : uh s g) (hh : 0 < s.heap.length) (hk : mC s.heap = (k : Nat)) (hr : s.heap[k]? = some r) : zy Go.Proofs.Try.prog 14 [.agg (soE s), I g] [] (.tup [.agg (soH (vy s k r)), rwL [], B true]) [rwR (vy s k r).heap] true := by
  have g1 := hok.heap
  have g2 := hok.dfr
  have ac := wF s hok
  have a1 := tt s hok
  rw [hv] at a1
  have a2 := uI g 8 60
  rw [h1] at a2
  have ao := cL (bxS (soE s)) (bxS zS) (bxS (soP 2 s)) s k r hok hk hr
  refine yS 4 27 [5, 6] Go.Proofs.Try.func14 rfl rfl rfl ?_
  simp only [Go.Proofs.Try.ntmps14, List.length_cons, List.length_nil, Nat.reduceAdd, Nat.reduceSub, List.replicate_succ, List.replicate_zero, List.cons_append, List.nil_append]
  repeat' first | (refine wd 6 (T6 s g) (xb ?_) ?_) | (refine zh rfl (fun h => absurd (of_decide_eq_true h) (by omega)) (fun _ => ?_)) | (refine zh rfl (fun _ => ?_) (fun h => absurd hp (of_decide_eq_false h))) | (refine zh rfl (fun _ => ?_) (fun h => absurd (of_decide_eq_false h) (by rw [IntKind.wrap_i64]; omega))) | (refine isA ?_; refine za rfl (yh rfl rfl rfl rfl rfl) rfl ?_) | refine zL ?_ | refine zA ?_ | refine zQ [] ?_ | (refine isA ?_; refine zf rfl ?_) | (refine isL ?_; refine zV rfl (by kernel_rfl) rfl rfl ?_) | (refine zc rfl ?_; refine zU rfl (by kernel_rfl) rfl rfl ?_) | (refine zr 65 ?_; refine za rfl (yO (r' := .agg (soP 2 s)) (H' := bxS (soE s) :: bxS zS :: soW s) rfl ac (.cons (.same rfl) .nil) rfl (by simp only [List.map_cons, List.map_nil, shR, yT _ (yi (zE _ _))]; rfl)) rfl ?_) | (refine zq 65 rfl ?_; refine zT rfl (by kernel_rfl) rfl (yO (r' := .agg (soP 2 s)) (H' := bxS (soE s) :: bxS zS :: soW s) rfl ac (.cons (.same rfl) .nil) rfl (by simp only [List.map_cons, List.map_nil, shR, yT _ (yi (zE _ _))]; rfl)) rfl ?_) | (refine zr 18 ?_; refine za rfl (zK rfl a1 (.cons (.same rfl) .nil) rfl) rfl ?_) | (refine zq 18 rfl ?_; refine zT rfl (by kernel_rfl) rfl (zK rfl a1 (.cons (.same rfl) .nil) rfl) rfl ?_) | (refine zr 66 ?_; refine za rfl (zK rfl a2 (.cons (.same rfl) (.cons (.same rfl) (.cons (.same rfl) .nil))) rfl) rfl ?_) | (refine zq 66 rfl ?_; refine zT rfl (by kernel_rfl) rfl (zK rfl a2 (.cons (.same rfl) (.cons (.same rfl) (.cons (.same rfl) .nil))) rfl) rfl ?_) | (refine zr 69 ?_; refine za rfl (yN rfl ao rfl) rfl ?_) | (refine zq 69 rfl ?_; refine zT rfl (by kernel_rfl) rfl (yN rfl ao rfl) rfl ?_) | refine zD ?_ | refine zB _ rfl (by kernel_rfl) ?_ | refine zW rfl ?_ | refine zX rfl ?_ | refine zC ?_ | with_reducible refine zO ?_ | refine zI ?_ | refine zJ ?_ | (with_reducible first | refine zM ?_ | refine zN ?_ | refine zF ?_ | refine zH ?_ | refine zG ?_) | refine zP ?_
  · exact wI (ut (yW [0, 1, 2, 3, 4, 5, 6, 7] rfl rfl (by decide) (hl8 id8) (by repeat' first | exact zj | refine zZ ?_ ?_ | exact zp | exact le_refl rfl | exact zm rfl rfl | exact zu rfl)) (t7 s g hok hb hm hf))
  · exact wS (yU rfl rfl rfl rfl rfl) rfl rfl (zE _ _) (by repeat' first | exact Purs.nil | refine Purs.cons ?_ ?_ | exact zk rfl | exact yY rfl rfl | exact zk (T := rwT) (x := []) rfl | exact Pur.nil | exact Pur.same rfl | exact xF (by assumption)) (by repeat' first | exact Purs.nil | refine Purs.cons ?_ ?_ | exact zk rfl | exact yY rfl rfl | exact zk (T := rwT) (x := []) rfl | exact Pur.nil | exact Pur.same rfl | exact xF (by assumption)) (.cons (.same rfl) (.cons (.same rfl) .nil))
theorem dn (s : So) (g : Int) (hok : okSo s) (hv : vS s = true) (h1 : inV g 8 60 = true) (hb : VBa s) (hm : yj s ≤ 60) (hp : s.ph = 1) (hf : uh s g) (hh : s.heap = []) (hd : 0 < s.dfr.length) : zy Go.Proofs.Try.prog 14 [.agg (soE s), I g] [] (.tup [.agg (soH (yf s)), rwL [], B true]) [rwR (yf s).heap] true := by
  have g1 := hok.heap
  have g2 := hok.dfr
  have g4 := hok.out
  have g5 := hok.runs
  have hh0 : s.heap.length = 0 := by rw [hh]; rfl
  have ac := wF s hok
  have a1 := tt s hok
  rw [hv] at a1
  have a2 := uI g 8 60
  rw [h1] at a2
  have ao := cK (bxS (soE s)) (bxS zS) (bxS (soP 2 s)) s hok hh
  refine yS 4 27 [5, 6] Go.Proofs.Try.func14 rfl rfl rfl ?_
  simp only [Go.Proofs.Try.ntmps14, List.length_cons, List.length_nil, Nat.reduceAdd, Nat.reduceSub, List.replicate_succ, List.replicate_zero, List.cons_append, List.nil_append]
  repeat' first | (refine wd 6 (T6 s g) (xb ?_) ?_) | (refine zh rfl (fun h => absurd (of_decide_eq_true h) (by omega)) (fun _ => ?_)) | (refine zh rfl (fun _ => ?_) (fun h => absurd hp (of_decide_eq_false h))) | (refine zh rfl (fun _ => ?_) (fun h => absurd (of_decide_eq_false h) (by rw [IntKind.wrap_i64]; omega))) | (refine isA ?_; refine za rfl (yh rfl rfl rfl rfl rfl) rfl ?_) | refine zL ?_ | refine zA ?_ | refine zQ [] ?_ | (refine isA ?_; refine zf rfl ?_) | (refine isL ?_; refine zV rfl (by kernel_rfl) rfl rfl ?_) | (refine zc rfl ?_; refine zU rfl (by kernel_rfl) rfl rfl ?_) | (refine zr 65 ?_; refine za rfl (yO (r' := .agg (soP 2 s)) (H' := bxS (soE s) :: bxS zS :: soW s) rfl ac (.cons (.same rfl) .nil) rfl (by simp only [List.map_cons, List.map_nil, shR, yT _ (yi (zE _ _))]; rfl)) rfl ?_) | (refine zq 65 rfl ?_; refine zT rfl (by kernel_rfl) rfl (yO (r' := .agg (soP 2 s)) (H' := bxS (soE s) :: bxS zS :: soW s) rfl ac (.cons (.same rfl) .nil) rfl (by simp only [List.map_cons, List.map_nil, shR, yT _ (yi (zE _ _))]; rfl)) rfl ?_) | (refine zr 18 ?_; refine za rfl (zK rfl a1 (.cons (.same rfl) .nil) rfl) rfl ?_) | (refine zq 18 rfl ?_; refine zT rfl (by kernel_rfl) rfl (zK rfl a1 (.cons (.same rfl) .nil) rfl) rfl ?_) | (refine zr 66 ?_; refine za rfl (zK rfl a2 (.cons (.same rfl) (.cons (.same rfl) (.cons (.same rfl) .nil))) rfl) rfl ?_) | (refine zq 66 rfl ?_; refine zT rfl (by kernel_rfl) rfl (zK rfl a2 (.cons (.same rfl) (.cons (.same rfl) (.cons (.same rfl) .nil))) rfl) rfl ?_) | (refine zr 69 ?_; refine za rfl (yN rfl ao rfl) rfl ?_) | (refine zq 69 rfl ?_; refine zT rfl (by kernel_rfl) rfl (yN rfl ao rfl) rfl ?_) | refine zD ?_ | refine zB _ rfl (by kernel_rfl) ?_ | refine zW rfl ?_ | refine zX rfl ?_ | refine zC ?_ | with_reducible refine zO ?_ | refine zI ?_ | refine zJ ?_ | (with_reducible first | refine zM ?_ | refine zN ?_ | refine zF ?_ | refine zH ?_ | refine zG ?_) | refine zP ?_
  · exact wI (ut (yW [0, 1, 2, 3, 4, 5, 6, 7] rfl rfl (by decide) (hl8 id8) (by repeat' first | exact zj | refine zZ ?_ ?_ | exact zp | exact le_refl rfl | exact zm rfl rfl | exact zu rfl)) (t7 s g hok hb hm hf))
  · exact wS (yU rfl rfl rfl rfl rfl) rfl rfl (zE _ _) (by repeat' first | exact Purs.nil | refine Purs.cons ?_ ?_ | exact zk rfl | exact yY rfl rfl | exact zk (T := rwT) (x := []) rfl | exact Pur.nil | exact Pur.same rfl | exact xF (by assumption)) (by repeat' first | exact Purs.nil | refine Purs.cons ?_ ?_ | exact zk rfl | exact yY rfl rfl | exact zk (T := rwT) (x := []) rfl | exact Pur.nil | exact Pur.same rfl | exact xF (by assumption)) (.cons (.same rfl) (.cons (.same rfl) .nil))
theorem fi (s : So) (g : Int) (hok : okSo s) (hv : vS s = true) (h1 : inV g 8 60 = true) (hb : VBa s) (hm : yj s ≤ 60) (hp : s.ph = 1) (hf : uh s g) (hh : s.heap = []) (hd : s.dfr = []) : zy Go.Proofs.Try.prog 14 [.agg (soE s), I g] [] (.tup [.agg (soH (yG (y8 s))), rwL [], B true]) [rwR (yG (y8 s)).heap] true := by
  have g1 := hok.heap
  have g2 := hok.dfr
  have g4 := hok.out
  have g5 := hok.runs
  have hh0 : s.heap.length = 0 := by rw [hh]; rfl
  have ac := wF s hok
  have a1 := tt s hok
  rw [hv] at a1
  have a2 := uI g 8 60
  rw [h1] at a2
  have hd0 : s.dfr.length = 0 := by rw [hd]; rfl
  rcases Nat.eq_zero_or_pos s.out.length with h0 | h0
  · have e : yG (y8 s) = { s with lp := 0, rp := 0, ph := cond (decide (s.runs.length = 0)) 4 (cond (decide (s.runs.length = 1)) 3 2) } := by
      rw [y8, decide_eq_false (by omega), cond_false, yG]
    rw [e]
    refine yS 4 27 [5, 6] Go.Proofs.Try.func14 rfl rfl rfl ?_
    simp only [Go.Proofs.Try.ntmps14, List.length_cons, List.length_nil, Nat.reduceAdd, Nat.reduceSub, List.replicate_succ, List.replicate_zero, List.cons_append, List.nil_append]
    repeat' first | (refine wd 6 (T6 s g) (xb ?_) ?_) | (refine zh rfl (fun h => absurd (of_decide_eq_true h) (by omega)) (fun _ => ?_)) | (refine zh rfl (fun _ => ?_) (fun h => absurd hp (of_decide_eq_false h))) | (refine zh rfl (fun h => absurd (of_decide_eq_true h) (by rw [IntKind.wrap_i64]; omega)) (fun _ => ?_)) | (refine isA ?_; refine za rfl (yh rfl rfl rfl rfl rfl) rfl ?_) | refine zL ?_ | refine zA ?_ | refine zQ [] ?_ | (refine isA ?_; refine zf rfl ?_) | (refine isL ?_; refine zV rfl (by kernel_rfl) rfl rfl ?_) | (refine zc rfl ?_; refine zU rfl (by kernel_rfl) rfl rfl ?_) | (refine zr 65 ?_; refine za rfl (yO (r' := .agg (soP 2 s)) (H' := bxS (soE s) :: bxS zS :: soW s) rfl ac (.cons (.same rfl) .nil) rfl (by simp only [List.map_cons, List.map_nil, shR, yT _ (yi (zE _ _))]; rfl)) rfl ?_) | (refine zq 65 rfl ?_; refine zT rfl (by kernel_rfl) rfl (yO (r' := .agg (soP 2 s)) (H' := bxS (soE s) :: bxS zS :: soW s) rfl ac (.cons (.same rfl) .nil) rfl (by simp only [List.map_cons, List.map_nil, shR, yT _ (yi (zE _ _))]; rfl)) rfl ?_) | (refine zr 18 ?_; refine za rfl (zK rfl a1 (.cons (.same rfl) .nil) rfl) rfl ?_) | (refine zq 18 rfl ?_; refine zT rfl (by kernel_rfl) rfl (zK rfl a1 (.cons (.same rfl) .nil) rfl) rfl ?_) | (refine zr 66 ?_; refine za rfl (zK rfl a2 (.cons (.same rfl) (.cons (.same rfl) (.cons (.same rfl) .nil))) rfl) rfl ?_) | (refine zq 66 rfl ?_; refine zT rfl (by kernel_rfl) rfl (zK rfl a2 (.cons (.same rfl) (.cons (.same rfl) (.cons (.same rfl) .nil))) rfl) rfl ?_) | (refine zr 70 ?_; refine za rfl (yN rfl (lQ _ _ _ _ _ _ _ _ _ _ _ _ _ _ _ _ _ _ _ _ _ _ _ _ _ _ _ _) rfl) rfl ?_) | (refine zq 70 rfl ?_; refine zT rfl (by kernel_rfl) rfl (yN rfl (lQ _ _ _ _ _ _ _ _ _ _ _ _ _ _ _ _ _ _ _ _ _ _ _ _ _ _ _ _) rfl) rfl ?_) | refine zD ?_ | refine zB _ rfl (by kernel_rfl) ?_ | refine zW rfl ?_ | refine zX rfl ?_ | refine zC ?_ | with_reducible refine zO ?_ | refine zI ?_ | refine zJ ?_ | (with_reducible first | refine zM ?_ | refine zN ?_ | refine zF ?_ | refine zH ?_ | refine zG ?_) | refine zP ?_
    · exact wI (ut (yW [0, 1, 2, 3, 4, 5, 6, 7] rfl rfl (by decide) (hl8 id8) (by repeat' first | exact zj | refine zZ ?_ ?_ | exact zp | exact le_refl rfl | exact zm rfl rfl | exact zu rfl)) (t7 s g hok hb hm hf))
    · exact wS (yU rfl rfl rfl rfl rfl) rfl rfl (zE _ _) (by repeat' first | exact Purs.nil | refine Purs.cons ?_ ?_ | exact zk rfl | exact yY rfl rfl | exact zk (T := rwT) (x := []) rfl | exact Pur.nil | exact Pur.same rfl | exact xF (by assumption)) (by repeat' first | exact Purs.nil | refine Purs.cons ?_ ?_ | exact zk rfl | exact yY rfl rfl | exact zk (T := rwT) (x := []) rfl | exact Pur.nil | exact Pur.same rfl | exact xF (by assumption)) (.cons (.same rfl) (.cons (.same rfl) .nil))
  · have e : yG (y8 s) = { s with runs := s.runs ++ [s.out], out := [], lp := 0, rp := 0, ph := cond (decide (s.runs.length + 1 = 0)) 4 (cond (decide (s.runs.length + 1 = 1)) 3 2) } := by
      rw [y8, decide_eq_true h0, cond_true, yG, xk]
      simp
    rw [e]
    refine yS 4 27 [5, 6] Go.Proofs.Try.func14 rfl rfl rfl ?_
    simp only [Go.Proofs.Try.ntmps14, List.length_cons, List.length_nil, Nat.reduceAdd, Nat.reduceSub, List.replicate_succ, List.replicate_zero, List.cons_append, List.nil_append]
    repeat' first | (refine wd 6 (T6 s g) (xb ?_) ?_) | (refine zh rfl (fun h => absurd (of_decide_eq_true h) (by omega)) (fun _ => ?_)) | (refine zh rfl (fun _ => ?_) (fun h => absurd hp (of_decide_eq_false h))) | (refine zh rfl (fun h => absurd (of_decide_eq_true h) (by rw [IntKind.wrap_i64]; omega)) (fun _ => ?_)) | (refine zh rfl (fun _ => ?_) (fun h => absurd (of_decide_eq_false h) (by omega))) | refine zL ?_ | refine zA ?_ | refine zQ [] ?_ | (refine isA ?_; refine zf rfl ?_) | (refine isL ?_; refine zV rfl (by kernel_rfl) rfl rfl ?_) | (refine zc rfl ?_; refine zU rfl (by kernel_rfl) rfl rfl ?_) | (refine zr 65 ?_; refine za rfl (yO (r' := .agg (soP 2 s)) (H' := bxS (soE s) :: bxS zS :: soW s) rfl ac (.cons (.same rfl) .nil) rfl (by simp only [List.map_cons, List.map_nil, shR, yT _ (yi (zE _ _))]; rfl)) rfl ?_) | (refine zq 65 rfl ?_; refine zT rfl (by kernel_rfl) rfl (yO (r' := .agg (soP 2 s)) (H' := bxS (soE s) :: bxS zS :: soW s) rfl ac (.cons (.same rfl) .nil) rfl (by simp only [List.map_cons, List.map_nil, shR, yT _ (yi (zE _ _))]; rfl)) rfl ?_) | (refine zr 18 ?_; refine za rfl (zK rfl a1 (.cons (.same rfl) .nil) rfl) rfl ?_) | (refine zq 18 rfl ?_; refine zT rfl (by kernel_rfl) rfl (zK rfl a1 (.cons (.same rfl) .nil) rfl) rfl ?_) | (refine zr 66 ?_; refine za rfl (zK rfl a2 (.cons (.same rfl) (.cons (.same rfl) (.cons (.same rfl) .nil))) rfl) rfl ?_) | (refine zq 66 rfl ?_; refine zT rfl (by kernel_rfl) rfl (zK rfl a2 (.cons (.same rfl) (.cons (.same rfl) (.cons (.same rfl) .nil))) rfl) rfl ?_) | (refine xd ?_; refine za rfl (ti (outs := s.runs) (hz := 8) (zi := 5) (n := s.out.length) rfl rfl rfl rfl rfl (by omega)) rfl ?_) | (refine xH rfl ?_; refine zT rfl (by kernel_rfl) rfl (ti (outs := s.runs) (hz := 8) (zi := 5) (n := s.out.length) rfl rfl rfl rfl rfl (by omega)) rfl ?_) | (refine zr 70 ?_; refine za rfl (yN rfl (tO _ _ _ _ _ _ _ _ _ _ _ _ _ _ _ _ _ _ _ _ _ _ _ _ _ _ _ _ _ _ _) rfl) rfl ?_) | (refine zq 70 rfl ?_; refine zT rfl (by kernel_rfl) rfl (yN rfl (tO _ _ _ _ _ _ _ _ _ _ _ _ _ _ _ _ _ _ _ _ _ _ _ _ _ _ _ _ _ _ _) rfl) rfl ?_) | refine zD ?_ | refine zB _ rfl (by kernel_rfl) ?_ | refine zW rfl ?_ | refine zX rfl ?_ | refine zC ?_ | with_reducible refine zO ?_ | refine zI ?_ | refine zJ ?_ | (with_reducible first | refine zM ?_ | refine zN ?_ | refine zF ?_ | refine zH ?_ | refine zG ?_) | refine zP ?_
    · exact wI (ut (yW [0, 1, 2, 3, 4, 5, 6, 7] rfl rfl (by decide) (hl8 id8) (by repeat' first | exact zj | refine zZ ?_ ?_ | exact zp | exact le_refl rfl | exact zm rfl rfl | exact zu rfl)) (t7 s g hok hb hm hf))
    · exact wS (yU rfl rfl rfl rfl rfl) rfl rfl (zE _ _) (by repeat' first | exact Purs.nil | refine Purs.cons ?_ ?_ | exact zk rfl | exact yY rfl rfl | exact zk (T := rwT) (x := []) rfl | exact Pur.nil | exact Pur.same rfl | exact xF (by assumption)) (by repeat' first | exact Purs.nil | refine Purs.cons ?_ ?_ | exact zk rfl | exact yY rfl rfl | exact zk (T := rwT) (x := []) rfl | exact Pur.nil | exact Pur.same rfl | exact xF (by assumption)) (.cons (zk (T := rwT) (x := []) rfl) (.cons (.same rfl) .nil))
theorem kJ (s x : So) (g : Int) (r : List Rw) (hok : okSo s) (hv : vS s = true) (h1 : inV g 8 60 = true) (hp : s.ph = 1) (h : StepV s g x r) : zy Go.Proofs.Try.prog 14 [.agg (soE s), I g] [] (.tup [.agg (soH x), rwL r, B true]) [rwR x.heap] true := by
  have hV := tS.1 hv
  cases hV with
  | read b q =>
    have hm : yj s ≤ 60 := by rw [vL q.ph]; exact q.mem
    cases h with
    | put _ hr hf => exact s_put s g _ hok hv h1 b hm hp hr hf
    | pop _ hf hh hk hr => exact s_pop s g _ _ hok hv h1 b hm hp hf hh hk hr
    | swap _ hf hh hd => exact dn s g hok hv h1 b hm hp hf hh hd
    | close _ hf hh hd => exact fi s g hok hv h1 b hm hp hf hh hd
    | merged h2 => omega
    | left h2 => omega
    | right h2 => omega
    | emit h2 => omega
  | merge b t ph => omega
  | emit b t ph => omega
  | done b t ph => omega
end Go.Proofs.Ytojcojanokhnaaa.Ab
namespace Go.Proofs.Ytojcojanokhnaaa.Ab
open Go.RowKit
theorem VS.base {s : So} (h : VS s) : VBa s := by
  cases h with
  | read b => exact b
  | merge b => exact b
  | emit b => exact b
  | done b => exact b
theorem mm : ∀ {rs : List Rn}, (∀ r ∈ rs, qj r) → rs.length ≤ tot rs
  | [], _ => Nat.zero_le _
  | r :: rs, h => by
    have h1 := mm (rs := rs) fun x hx => h x (List.mem_cons_of_mem _ hx)
    have h2 := List.length_pos_iff.2 (h r (List.mem_cons_self ..)).1
    have e : tot (r :: rs) = r.length + tot rs := by simp [tot]
    rw [e, List.length_cons]
    omega
theorem VS.small {s : So} (h : VS s) : s.input.length ≤ 24 ∧ s.heap.length ≤ 24 ∧ s.dfr.length ≤ 24 ∧ s.out.length ≤ 24 ∧ s.runs.length ≤ tot s.runs ∧ tot s.runs ≤ 24 := by
  have hb := h.base
  have h1 := (vU.1 hb.input).2
  have h2 := mm hb.runs
  have h3 := vf s.runs
  cases h with
  | read b q =>
    have hl := q.bag.length_eq
    simp only [List.length_append, List.length_take] at hl
    omega
  | @merge b t ph x y rest i j runs lp rp m =>
    have hl := t.bag.length_eq
    have ml := m.len
    have m1 := m.ha
    have m2 := m.hb
    have e : tot s.runs = x.length + (y.length + tot rest) := by rw [runs]; simp [tot]
    rw [t.heap, t.dfr]
    simp only [List.length_nil]
    omega
  | @emit b t ph x i runs lp hi rp out =>
    have hl := t.bag.length_eq
    rw [t.heap, t.dfr, out]
    simp only [List.length_nil]
    omega
  | done b t ph runs lp rp out =>
    have hl := t.bag.length_eq
    rw [t.heap, t.dfr, out]
    simp only [List.length_nil]
    omega
theorem VS.ok {s : So} (h : VS s) : okSo s := by
  obtain ⟨h1, h2, h3, h4, h5, h6⟩ := h.small
  exact ⟨by omega, by omega, by omega, by omega, by omega, by omega⟩
end Go.Proofs.Ytojcojanokhnaaa.Ab
namespace Go.Proofs.Ytojcojanokhnaaa.Ab
open Go.RowKit
def cqF : Nat → List Int → Int
  | k + 1, a :: b :: t => a + b + cqF k (t ++ [a + b])
  | _, _ => 0
def cq (q : List Int) : Int := cqF q.length q
theorem s4 (a b : Int) (t : List Int) : cq (a :: b :: t) = a + b + cq (t ++ [a + b]) := by
  simp only [cq, List.length_cons, List.length_append, List.length_nil, cqF]
theorem tf {q : List Int} (h : q.length ≤ 1) : cq q = 0 := by
  match q, h with
  | [], _ => rfl
  | [x], _ => rfl
def wH : List Int → Int
  | [] => 0
  | x :: xs => x + wH xs
theorem qm : ∀ xs ys : List Int, wH (xs ++ ys) = wH xs + wH ys
  | [], ys => by simp [wH]
  | x :: xs, ys => by simp only [List.cons_append, wH]; rw [qm xs ys]; omega
theorem sO : ∀ {xs : List Int}, (∀ x ∈ xs, 0 ≤ x) → 0 ≤ wH xs
  | [], _ => Int.le_refl 0
  | x :: xs, h => by
    have h1 := h x (List.mem_cons_self ..)
    have h2 := sO (xs := xs) fun y hy => h y (List.mem_cons_of_mem _ hy)
    simp only [wH]; omega
theorem kT {xs : List Int} (h : ∀ x ∈ xs, 0 ≤ x) (k : Nat) : wH (xs.take k) ≤ wH xs := by
  have e := qm (xs.take k) (xs.drop k)
  rw [List.take_append_drop] at e
  have := sO (xs := xs.drop k) fun x hx => h x (List.mem_of_mem_drop hx)
  omega
theorem cB : ∀ (m : Nat) (q : List Int) (j : Nat), q.length = m → (∀ x ∈ q, 0 ≤ x) → 2 ^ j ≤ m → m ≤ 2 ^ (j + 1) → cq q ≤ j * wH q + wH (q.take (2 * (m - 2 ^ j))) := by
  intro m
  induction m using Nat.strongRecOn with
  | _ m ih =>
    intro q j hm h0 h1 h2
    have hp : 1 ≤ 2 ^ j := Nat.one_le_two_pow
    match q, hm with
    | [], hm => simp at hm; omega
    | [x], hm =>
      rw [tf (q := [x]) (Nat.le_refl _)]
      have s0 := sO h0
      have s1 := sO (xs := [x].take (2 * (m - 2 ^ j))) fun y hy => h0 y (List.mem_of_mem_take hy)
      have := Int.mul_nonneg (Int.natCast_nonneg j) s0
      omega
    | a :: b :: t, hm =>
      simp only [List.length_cons] at hm
      have ha := h0 a (by simp)
      have hb := h0 b (by simp)
      have hq : ∀ x ∈ t ++ [a + b], 0 ≤ x := fun x hx => by
        rcases List.mem_append.1 hx with hx | hx
        · exact h0 x (by simp [hx])
        · simp at hx; omega
      have hs : wH (t ++ [a + b]) = wH (a :: b :: t) := by rw [qm]; simp only [wH]; omega
      rw [s4]
      rcases Nat.lt_or_ge (2 ^ j) m with h3 | h3
      · have hi := ih (m - 1) (by omega) (t ++ [a + b]) j (by simp; omega) hq (by omega) (by omega)
        rw [hs] at hi
        obtain ⟨d, hd⟩ : ∃ d, m - 2 ^ j = d + 1 := ⟨m - 2 ^ j - 1, by omega⟩
        rw [hd]
        rw [show m - 1 - 2 ^ j = d by omega] at hi
        have hpow : 2 ^ (j + 1) = 2 * 2 ^ j := by rw [Nat.pow_succ]; omega
        rw [List.take_append_of_le_length (by omega)] at hi
        rw [show 2 * (d + 1) = 2 * d + 1 + 1 by omega]
        simp only [List.take_succ_cons, wH] at hi ⊢
        generalize (j : Int) * (a + (b + wH t)) = P at hi ⊢
        omega
      · obtain rfl : m = 2 ^ j := by omega
        match j, hp with
        | 0, _ => simp at hm
        | j + 1, _ =>
          have hpow : 2 ^ (j + 1) = 2 * 2 ^ j := by rw [Nat.pow_succ]; omega
          have hp1 : 1 ≤ 2 ^ j := Nat.one_le_two_pow
          have hi := ih (2 ^ (j + 1) - 1) (by omega) (t ++ [a + b]) j (by simp; omega) hq (by omega) (by omega)
          rw [hs] at hi
          rw [show 2 * (2 ^ (j + 1) - 1 - 2 ^ j) = t.length by omega, List.take_left] at hi
          rw [Nat.sub_self]
          simp only [Nat.mul_zero, List.take_zero, wH] at hi ⊢
          rw [show ((j + 1 : Nat) : Int) * (a + (b + wH t)) = (j : Int) * (a + (b + wH t)) + (a + (b + wH t)) by rw [Int.natCast_add, Int.add_mul]; simp]
          generalize (j : Int) * (a + (b + wH t)) = P at hi ⊢
          omega
theorem dW {q : List Int} {L : Nat} (h0 : ∀ x ∈ q, 0 ≤ x) (h : q.length ≤ 2 ^ L) : cq q ≤ L * wH q := by
  have s0 := sO h0
  rcases Nat.lt_or_ge 1 q.length with h1 | h1
  · have l1 : 2 ^ q.length.log2 ≤ q.length := Nat.log2_self_le (by omega)
    have l2 : q.length < 2 ^ (q.length.log2 + 1) := Nat.lt_log2_self
    generalize q.length.log2 = j at l1 l2
    have a := cB q.length q j rfl h0 l1 (by omega)
    rcases Nat.lt_or_ge j L with h2 | h2
    · have ht := kT h0 (2 * (q.length - 2 ^ j))
      have : ((j + 1 : Nat) : Int) * wH q ≤ (L : Int) * wH q := Int.mul_le_mul_of_nonneg_right (by omega) s0
      rw [Int.natCast_add, Int.add_mul] at this
      simp only [Int.natCast_one, Int.one_mul] at this
      omega
    · have hj : 2 ^ L ≤ 2 ^ j := Nat.pow_le_pow_right (by decide) h2
      have he : q.length - 2 ^ j = 0 := by omega
      have hjL : j = L := by
        rcases Nat.lt_or_ge L j with h3 | h3
        · have := Nat.pow_lt_pow_right (a := 2) (by decide) h3
          omega
        · omega
      rw [he] at a
      simp only [Nat.mul_zero, List.take_zero, wH, Int.add_zero] at a
      rw [← hjL]
      exact a
  · rw [tf h1]
    exact Int.mul_nonneg (Int.natCast_nonneg L) s0
end Go.Proofs.Ytojcojanokhnaaa.Ab
namespace Go.Proofs.Ytojcojanokhnaaa.Ab
open Go.RowKit
def wV (rs : List Rn) : List Int := rs.map fun r => (r.length : Int)
def w3 (rs : List Rn) : List Int := rs.map yR
theorem pF (rs : List Rn) : ∀ x ∈ wV rs, 0 ≤ x := fun x hx => by
  obtain ⟨r, _, rfl⟩ := List.mem_map.1 hx
  exact Int.natCast_nonneg _
theorem mX : ∀ xs : List Rw, 0 ≤ yR xs
  | [] => Int.le_refl 0
  | x :: xs => by
    have := xy x
    have := mX xs
    simp only [yR]; omega
theorem fa (rs : List Rn) : ∀ x ∈ w3 rs, 0 ≤ x := fun x hx => by
  obtain ⟨r, _, rfl⟩ := List.mem_map.1 hx
  exact mX _
theorem nL : ∀ rs : List Rn, wH (wV rs) = (rs.flatten.length : Int)
  | [] => rfl
  | r :: rs => by
    have := nL rs
    simp only [wV, List.map_cons, wH, List.flatten_cons, List.length_append] at this ⊢
    omega
theorem pd : ∀ rs : List Rn, wH (w3 rs) = yR rs.flatten
  | [] => rfl
  | r :: rs => by
    have := pd rs
    simp only [w3, List.map_cons, wH, List.flatten_cons, yt] at this ⊢
    omega
theorem pN : ∀ {rs : List Rn}, (∀ r ∈ rs, qj r) → rs.length ≤ rs.flatten.length
  | [], _ => Nat.le_refl _
  | r :: rs, h => by
    have h1 := pN (rs := rs) fun x hx => h x (List.mem_cons_of_mem _ hx)
    have h2 := List.length_pos_iff.2 (h r (List.mem_cons_self ..)).1
    simp only [List.length_cons, List.flatten_cons, List.length_append]
    omega
def uj (L : Nat) (s : So) : Int :=
  cond (decide (s.ph = 1)) (3 * ((s.input.length : Int) - s.pos) + 2 * s.dfr.length + s.heap.length + 1 + L * (s.input.length : Int) + 2 * s.input.length)
    (cond (decide (s.ph = 2)) (cq (wV s.runs) - (s.lp + s.rp) + s.runs.length + s.input.length) (cond (decide (s.ph = 3)) (s.input.length - s.lp) 0))
theorem pB {L : Nat} {s : So} (h : s.ph = 1) : uj L s = 3 * ((s.input.length : Int) - s.pos) + 2 * s.dfr.length + s.heap.length + 1 + L * (s.input.length : Int) + 2 * s.input.length := by simp [uj, h]
theorem mA {L : Nat} {s : So} (h : s.ph = 2) : uj L s = cq (wV s.runs) - (s.lp + s.rp) + s.runs.length + s.input.length := by simp [uj, h]
theorem fr {L : Nat} {s : So} (h : s.ph = 3) : uj L s = s.input.length - s.lp := by simp [uj, h]
theorem dw {L : Nat} {s : So} (h : s.ph = 4) : uj L s = 0 := by simp [uj, h]
theorem nA (L : Nat) (s : So) : uj L (yG s) ≤ cq (wV s.runs) + s.runs.length + s.input.length := by
  have hc : ∀ q : List Int, (∀ x ∈ q, 0 ≤ x) → q.length ≤ 1 → 0 ≤ cq q := fun q _ h => by rw [tf h]; exact Int.le_refl 0
  rcases Nat.lt_or_ge 1 s.runs.length with h | h
  · have e : (yG s).ph = 2 := by
      show cond (decide (s.runs.length = 0)) 4 (cond (decide (s.runs.length = 1)) 3 2) = (2 : Int)
      rw [decide_eq_false (by omega), decide_eq_false (by omega)]; rfl
    rw [mA e]
    show cq (wV s.runs) - (0 + 0) + _ + _ ≤ _
    simp only [yG]; omega
  · have h0 := hc (wV s.runs) (pF _) (by simpa [wV] using h)
    rcases Nat.eq_zero_or_pos s.runs.length with h1 | h1
    · have e : (yG s).ph = 4 := by
        show cond (decide (s.runs.length = 0)) 4 (cond (decide (s.runs.length = 1)) 3 2) = (4 : Int)
        rw [decide_eq_true h1]; rfl
      rw [dw e]; omega
    · have e : (yG s).ph = 3 := by
        show cond (decide (s.runs.length = 0)) 4 (cond (decide (s.runs.length = 1)) 3 2) = (3 : Int)
        rw [decide_eq_false (by omega), decide_eq_true (by omega)]; rfl
      rw [fr e]
      show (s.input.length : Int) - 0 ≤ _
      omega
theorem cq_ge {a b : Int} {t : List Int} (h : ∀ x ∈ a :: b :: t, 0 ≤ x) : a + b ≤ cq (a :: b :: t) := by
  rw [s4]
  have : ∀ (m : Nat) (q : List Int), q.length = m → (∀ x ∈ q, 0 ≤ x) → 0 ≤ cq q := by
    intro m
    induction m with
    | zero => intro q hq _; rw [tf (by omega)]; exact Int.le_refl 0
    | succ m ih =>
      intro q hq h
      match q, hq with
      | [x], _ => rw [tf (Nat.le_refl _)]; exact Int.le_refl 0
      | x :: y :: z, hq =>
        rw [s4]
        have hx := h x (by simp)
        have hy := h y (by simp)
        have := ih (z ++ [x + y]) (by simp at hq ⊢; omega) fun w hw => by
          rcases List.mem_append.1 hw with hw | hw
          · exact h w (by simp [hw])
          · simp at hw; omega
        omega
  have h1 := h a (by simp)
  have h2 := h b (by simp)
  have := this _ (t ++ [a + b]) rfl fun w hw => by
    rcases List.mem_append.1 hw with hw | hw
    · exact h w (by simp [hw])
    · simp at hw; omega
  omega
theorem dv {L : Nat} {s : So} (hv : VS s) : 0 ≤ uj L s := by
  cases hv with
  | read b q =>
    obtain ⟨p, hp, hp2⟩ := b.pos
    have := Int.mul_nonneg (Int.natCast_nonneg L) (Int.natCast_nonneg s.input.length)
    rw [pB q.ph]; omega
  | @merge b t ph x y rest i j hr hi hj m =>
    rw [mA ph, hr]
    have h := cq_ge (a := x.length) (b := y.length) (t := wV rest) (pF (x :: y :: rest))
    have h1 := m.ha
    have h2 := m.hb
    show 0 ≤ cq ((x.length : Int) :: (y.length : Int) :: wV rest) - (s.lp + s.rp) + _ + _
    omega
  | emit b t ph hr hl hi => rw [fr ph]; omega
  | done b t ph => rw [dw ph]; exact Int.le_refl 0
theorem ka {L : Nat} {s x : So} {g : Int} {r : List Rw} (hv : VS s) (hx : VS x) (hL : s.input.length ≤ 2 ^ L) (h : StepV s g x r) : uj L x + 1 ≤ uj L s := by
  have hin := vj h
  cases h with
  | @put r hp hr hf =>
    obtain ⟨e1, e2, _, e4, _⟩ := vd s r
    rw [pB hp, pB (e4.trans hp), e1, e2]
    unfold ws
    cases bel r s.out <;> simp only [cond_true, cond_false, List.length_append, List.length_singleton] <;> omega
  | @pop k r hp hf hh hk hr =>
    have hk := (List.getElem?_eq_some_iff.1 hr).1
    rw [pB hp, pB (s := vy s k r) hp]
    simp only [vy, List.length_append, List.length_take, List.length_drop]
    omega
  | swap hp hf hh hd =>
    rw [pB hp, pB (s := yf s) hp]
    simp only [yf, hh, List.length_nil]
    omega
  | close hp hf hh hd =>
    obtain ⟨p, hp1, hp2⟩ := (VS.base hv).pos
    have hn := nA L (y8 s)
    have e1 := (wu s).1
    have ht : (y8 s).runs.flatten.length = s.input.length ∧ ∀ r ∈ (y8 s).runs, qj r := by
      have e2 : (yG (y8 s)).input = s.input := hin
      have hb := (VS.base hx).runs
      refine ⟨?_, hb⟩
      cases hx with
      | read b q => exact absurd q.ph (vl _)
      | merge b t => rw [← e2]; exact t.bag.length_eq
      | emit b t => rw [← e2]; exact t.bag.length_eq
      | done b t => rw [← e2]; exact t.bag.length_eq
    have h1 := pN ht.2
    have h2 := dW (q := wV (y8 s).runs) (L := L) (pF _) (by simp only [wV, List.length_map]; omega)
    rw [nL, ht.1] at h2
    rw [pB hp, hd, hh]
    rw [e1] at hn
    simp only [List.length_nil]
    omega
  | @merged a b rest hp hr h1 h2 =>
    have hn := nA L (w6 s)
    cases hv with
    | read b q => have := q.ph; omega
    | @merge _ t ph x y rest' i j hr' hi hj m =>
      rw [hr] at hr'
      simp only [List.cons.injEq] at hr'
      obtain ⟨rfl, rfl, rfl⟩ := hr'
      have hl := m.len
      rw [mA hp, hr]
      have e : wV (w6 s).runs = wV rest ++ [(a.length : Int) + b.length] := by
        show wV (s.runs.drop 2 ++ [s.out]) = _
        rw [hr]
        simp only [wV, List.drop_succ_cons, List.drop_zero, List.map_append, List.map_cons, List.map_nil]
        congr 2
        omega
      have e3 : (w6 s).runs.length = rest.length + 1 := by
        show (s.runs.drop 2 ++ [s.out]).length = _
        rw [hr]; simp
      rw [e, e3] at hn
      show _ ≤ cq ((a.length : Int) :: (b.length : Int) :: wV rest) - (s.lp + s.rp) + _ + _
      rw [s4]
      have e4 : (w6 s).input = s.input := rfl
      rw [e4] at hn
      simp only [List.length_cons]
      omega
    | emit b t ph => omega
    | done b t ph => omega
  | @left a b rest r hp hr h1 h2 =>
    rw [mA hp, mA (s := w5 s r) hp]
    simp only [w5]
    omega
  | @right a b rest r hp hr h1 h2 =>
    rw [mA hp, mA (s := xx s r) hp]
    simp only [xx]
    omega
  | @emit a r hp hr h1 =>
    rw [fr hp]
    rcases Classical.em (s.lp + 1 = s.input.length) with h | h
    · rw [dw (s := xr s) (by show cond (decide (s.lp + 1 = s.input.length)) 4 3 = 4; rw [decide_eq_true h]; rfl)]
      omega
    · rw [fr (s := xr s) (by show cond (decide (s.lp + 1 = s.input.length)) 4 3 = 3; rw [decide_eq_false h]; rfl)]
      show ((xr s).input.length : Int) - (s.lp + 1) + 1 ≤ _
      rw [show (xr s).input = s.input from rfl]
      omega
end Go.Proofs.Ytojcojanokhnaaa.Ab
namespace Go.Proofs.Ytojcojanokhnaaa.Ab
open Go.RowKit
def si (L : Nat) (s : So) : Int :=
  cond (decide (s.ph = 1)) (s.wr + (yR s.input - yR s.out - yR s.runs.flatten) + L * yR s.input)
    (cond (decide (s.ph = 2)) (s.wr + cq (w3 s.runs) - yR s.out) s.wr)
theorem p9 {L : Nat} {s : So} (h : s.ph = 1) : si L s = s.wr + (yR s.input - yR s.out - yR s.runs.flatten) + L * yR s.input := by simp [si, h]
theorem l8 {L : Nat} {s : So} (h : s.ph = 2) : si L s = s.wr + cq (w3 s.runs) - yR s.out := by simp [si, h]
theorem mq {L : Nat} {s : So} (h : s.ph ≠ 1) (h2 : s.ph ≠ 2) : si L s = s.wr := by simp [si, h, h2]
theorem pz (L : Nat) (s : So) (ho : s.out = []) : si L (yG s) ≤ s.wr + cq (w3 s.runs) := by
  rcases Nat.lt_or_ge 1 s.runs.length with h | h
  · have e : (yG s).ph = 2 := by
      show cond (decide (s.runs.length = 0)) 4 (cond (decide (s.runs.length = 1)) 3 2) = (2 : Int)
      rw [decide_eq_false (by omega), decide_eq_false (by omega)]; rfl
    rw [l8 e]
    show s.wr + cq (w3 s.runs) - yR s.out ≤ _
    rw [ho]; simp [yR]
  · have h0 : cq (w3 s.runs) = 0 := tf (by simpa [w3] using h)
    have e : (yG s).ph ≠ 2 := by
      show cond (decide (s.runs.length = 0)) 4 (cond (decide (s.runs.length = 1)) 3 2) ≠ (2 : Int)
      rcases Nat.eq_zero_or_pos s.runs.length with h1 | h1
      · rw [decide_eq_true h1]; show (4 : Int) ≠ 2; decide
      · rw [decide_eq_false (by omega), decide_eq_true (by omega)]; show (3 : Int) ≠ 2; decide
    rw [mq (vl s) e, h0]
    show s.wr ≤ _
    omega
theorem mI (s : So) : yR (y8 s).runs.flatten = yR s.runs.flatten + yR s.out ∧ (y8 s).out = [] := by
  unfold y8
  rcases Nat.eq_zero_or_pos s.out.length with h | h
  · rw [decide_eq_false (by omega)]
    have : s.out = [] := List.eq_nil_of_length_eq_zero h
    refine ⟨?_, this⟩
    simp [this, yR]
  · rw [decide_eq_true h]
    refine ⟨?_, rfl⟩
    simp [xk, yt]
theorem dj (a b : List Rw) : yR (mgV a b) = yR a + yR b := by rw [vE (wR a b), yt]
theorem kZ {L : Nat} {s x : So} {g : Int} {r : List Rw} (hv : VS s) (hx : VS x) (hL : s.input.length ≤ 2 ^ L) (hw : s.wr ≤ 4611686018427387904) (h : StepV s g x r) : si L x ≤ si L s := by
  have hin := vj h
  have w0 := (VS.base hv).wr
  cases h with
  | @put r hp hr hf =>
    obtain ⟨e1, e2, e3, e4, e5, e6, _⟩ := vd s r
    rw [p9 hp, p9 (e4.trans hp), e1, e3, e5, e6]
    exact Int.le_refl _
  | @pop k r hp hf hh hk hr =>
    obtain ⟨c0, c1⟩ := xy r
    rw [p9 hp, p9 (s := vy s k r) hp]
    simp only [vy]
    rw [vh w0 hw c0 c1, yt]
    simp only [yR]
    omega
  | swap hp hf hh hd =>
    rw [p9 hp, p9 (s := yf s) hp]
    simp only [yf, List.flatten_append, yt, List.flatten_cons, List.flatten_nil, List.append_nil, yR]
    omega
  | close hp hf hh hd =>
    obtain ⟨f1, f2⟩ := mI s
    have hn := pz L (y8 s) f2
    obtain ⟨e1, _, e3⟩ := wu s
    have ht : yR (y8 s).runs.flatten = yR s.input ∧ (y8 s).runs.flatten.length = s.input.length ∧ ∀ r ∈ (y8 s).runs, qj r := by
      have e2 : (yG (y8 s)).input = s.input := hin
      have hb := (VS.base hx).runs
      rw [← e2]
      refine ⟨?_, ?_, hb⟩
      · cases hx with
        | read b q => exact absurd q.ph (vl _)
        | merge b t => exact vE t.bag
        | emit b t => exact vE t.bag
        | done b t => exact vE t.bag
      · cases hx with
        | read b q => exact absurd q.ph (vl _)
        | merge b t => exact t.bag.length_eq
        | emit b t => exact t.bag.length_eq
        | done b t => exact t.bag.length_eq
    have h1 := pN ht.2.2
    have h2 := dW (q := w3 (y8 s).runs) (L := L) (fa _) (by simp only [w3, List.length_map]; omega)
    rw [pd, ht.1] at h2
    rw [p9 hp]
    rw [e3] at hn
    have := ht.1
    omega
  | @merged a b rest hp hr h1 h2 =>
    have hn := pz L (w6 s) rfl
    cases hv with
    | read b q => have := q.ph; omega
    | @merge _ t ph x y rest' i j hr' hi hj m =>
      rw [hr] at hr'
      simp only [List.cons.injEq] at hr'
      obtain ⟨rfl, rfl, rfl⟩ := hr'
      obtain rfl : i = a.length := by omega
      obtain rfl : j = b.length := by omega
      have ho : yR s.out = yR a + yR b := by rw [m.o1, List.take_length, List.take_length, dj]
      rw [l8 hp, hr]
      have e : w3 (w6 s).runs = w3 rest ++ [yR a + yR b] := by
        show w3 (s.runs.drop 2 ++ [s.out]) = _
        rw [hr]
        simp only [w3, List.drop_succ_cons, List.drop_zero, List.map_append, List.map_cons, List.map_nil, ho]
      rw [e] at hn
      show _ ≤ s.wr + cq (yR a :: yR b :: w3 rest) - yR s.out
      rw [s4, ho]
      have e4 : (w6 s).wr = s.wr := rfl
      rw [e4] at hn
      omega
    | emit b t ph => omega
    | done b t ph => omega
  | @left a b rest r hp hr h1 h2 =>
    obtain ⟨c0, c1⟩ := xy r
    rw [l8 hp, l8 (s := w5 s r) hp]
    simp only [w5]
    rw [vh w0 hw c0 c1, yt]
    simp only [yR]
    omega
  | @right a b rest r hp hr h1 h2 =>
    obtain ⟨c0, c1⟩ := xy r
    rw [l8 hp, l8 (s := xx s r) hp]
    simp only [xx]
    rw [vh w0 hw c0 c1, yt]
    simp only [yR]
    omega
  | @emit a r hp hr h1 =>
    rw [mq (s := s) (by omega) (by omega), mq (s := xr s) (mr s) (by
      show cond (decide (s.lp + 1 = s.input.length)) 4 3 ≠ (2 : Int)
      cases decide (s.lp + 1 = s.input.length) <;> decide)]
    exact Int.le_refl _
def qG (s : So) : List Rw := cond (decide (s.ph = 1) || decide (s.ph = 2)) (yM s.input) (cond (decide (s.ph = 3)) ((s.runs.getD 0 []).drop s.lp.toNat) [])
theorem vR {s : So} (h : s.ph = 1 ∨ s.ph = 2) : qG s = yM s.input := by
  rcases h with h | h <;> simp [qG, h]
theorem dy {s : So} (h : s.ph = 3) : qG s = (s.runs.getD 0 []).drop s.lp.toNat := by simp [qG, h]
theorem dx {s : So} (h : s.ph = 4) : qG s = [] := by simp [qG, h]
theorem mo {s : So} {c : Rn} (b : VBa s) (t : VTe s) (h : s.runs = [c]) : c = yM s.input := by
  have h1 := t.bag
  rw [h] at h1
  simp only [List.flatten_cons, List.flatten_nil, List.append_nil] at h1
  exact wh (b.runs c (by rw [h]; simp)).2.1 h1
theorem nB {s : So} (hx : VS (yG s)) : qG (yG s) = yM s.input := by
  cases hx with
  | read b q => exact absurd q.ph (vl _)
  | merge b t ph => exact vR (Or.inr ph)
  | @emit b t ph c i hr hl =>
    rw [dy ph, hr]
    show c.drop 0 = _
    rw [List.drop_zero]
    exact mo (s := yG s) b t hr
  | done b t ph hr hl =>
    have h0 : s.input.length = 0 := by
      have : (yG s).lp = 0 := rfl
      have e : (yG s).input = s.input := rfl
      rw [e] at hl
      omega
    rw [dx ph, List.eq_nil_of_length_eq_zero h0]
    rfl
theorem kb {s x : So} {g : Int} {r : List Rw} (hv : VS s) (hx : VS x) (h : StepV s g x r) : qG s = r ++ qG x := by
  have hin := vj h
  cases h with
  | @put r hp hr hf =>
    obtain ⟨e1, e2, e3, e4, _⟩ := vd s r
    rw [vR (Or.inl hp), vR (Or.inl (e4.trans hp)), e1]; rfl
  | @pop k r hp hf hh hk hr => rw [vR (Or.inl hp), vR (s := vy s k r) (Or.inl hp)]; rfl
  | swap hp hf hh hd => rw [vR (Or.inl hp), vR (s := yf s) (Or.inl hp)]; rfl
  | close hp hf hh hd => rw [vR (Or.inl hp), nB hx, (wu s).1]; rfl
  | merged hp hr h1 h2 => rw [vR (Or.inr hp), nB hx]; rfl
  | @left a b rest r hp hr h1 h2 => rw [vR (Or.inr hp), vR (s := w5 s r) (Or.inr hp)]; rfl
  | @right a b rest r hp hr h1 h2 => rw [vR (Or.inr hp), vR (s := xx s r) (Or.inr hp)]; rfl
  | @emit a r hp hr h1 =>
    rw [dy hp, hr]
    have hl : (a.drop s.lp.toNat) = r :: a.drop (s.lp.toNat + 1) := by
      obtain ⟨h3, h4⟩ := List.getElem?_eq_some_iff.1 h1
      rw [List.drop_eq_getElem_cons h3, h4]
    show a.drop s.lp.toNat = [r] ++ _
    rw [hl]
    cases hv with
    | read b q => have := q.ph; omega
    | merge b t ph => omega
    | @emit b t ph c i hr' hl' hi' =>
      rw [hr] at hr'
      simp only [List.cons.injEq, and_true] at hr'
      subst hr'
      have hle : a.length = s.input.length := by rw [mo b t hr, xo]
      rcases Classical.em (s.lp + 1 = s.input.length) with h | h
      · rw [dx (s := xr s) (by show cond (decide (s.lp + 1 = s.input.length)) 4 3 = 4; rw [decide_eq_true h]; rfl), List.drop_eq_nil_of_le (by omega)]
        rfl
      · rw [dy (s := xr s) (by show cond (decide (s.lp + 1 = s.input.length)) 4 3 = 3; rw [decide_eq_false h]; rfl)]
        show _ = [r] ++ (s.runs.getD 0 []).drop (s.lp + 1).toNat
        rw [hr, show (s.lp + 1).toNat = s.lp.toNat + 1 by omega]
        rfl
    | done b t ph => omega
def grV (gs : List Int) (k : Nat) : Int := gs.getD (k % gs.length) 0
def mxV (a b : Int) : Int := if b > a then b else a
inductive Runs (gs : List Int) : So → Nat → List Rw → Int → So → Nat → List Rw → Int → Prop where
  | done {s : So} {k : Nat} {rows : List Rw} {pk : Int} (h : s.ph = 4) : Runs gs s k rows pk s k rows pk
  | step {s x y : So} {k m : Nat} {rows r rs : List Rw} {pk p : Int} (h : s.ph ≠ 4) (st : StepV s (grV gs k) x r) (t : Runs gs x (k + 1) (rows ++ r) (mxV pk (yj x)) y m rs p) : Runs gs s k rows pk y m rs p
theorem pK {gs : List Int} (h : gs ≠ []) (k : Nat) : grV gs k ∈ gs := by
  have hl : 0 < gs.length := List.length_pos_iff.2 h
  have hk : k % gs.length < gs.length := Nat.mod_lt _ hl
  rw [grV, List.getD_eq_getElem?_getD, List.getElem?_eq_getElem hk]
  exact List.getElem_mem _
theorem mn {gs : List Int} {L : Nat} {M : Int} (hg : ∀ g ∈ gs, 8 ≤ g ∧ g ≤ 60 ∧ g ≤ M) (hne : gs ≠ []) : ∀ (N : Nat) {s : So} {k : Nat} {rows : List Rw} {pk : Int}, VS s → uj L s ≤ N → s.input.length ≤ 2 ^ L → s.wr + 4 * N ≤ 4611686018427387904 → yj s ≤ M → pk ≤ M →
    ∃ y m rs p, Runs gs s k rows pk y m rs p ∧ k ≤ m ∧ m ≤ k + N ∧ rs = rows ++ qG s ∧ p ≤ M ∧ y.wr ≤ si L s
  | N, s, k, rows, pk, hv, hN, hL, hw, hm, hp => by
    by_cases h4 : s.ph = 4
    · refine ⟨s, k, rows, pk, .done h4, Nat.le_refl _, by omega, ?_, hp, ?_⟩
      · rw [dx h4, List.append_nil]
      · rw [mq (by omega) (by omega)]; exact Int.le_refl _
    · obtain ⟨g8, g60, gM⟩ := hg _ (pK hne k)
      obtain ⟨x, r, st⟩ := ff (g := grV gs k) hv h4
      have hx := ui hv g8 g60 (by omega) st
      have hph := ka hv hx hL st
      have hnn := dv (L := L) hx
      match N, hN, hw with
      | 0, hN, _ => omega
      | N + 1, hN, hw =>
        have hwr := qn st (VS.base hv).wr (by omega)
        have hme := kh g8 st
        have hin := vj st
        have hmx : yj x ≤ M := by omega
        obtain ⟨y, m, rs, p, q1, q2, q3, q4, q5, q6⟩ := mn (L := L) hg hne N (s := x) (k := k + 1) (rows := rows ++ r) (pk := mxV pk (yj x)) hx (by omega) (by rw [hin]; exact hL) (by omega) hmx (by unfold mxV; split <;> assumption)
        refine ⟨y, m, rs, p, .step h4 st q1, by omega, by omega, ?_, q5, Int.le_trans q6 (kZ hv hx hL (by omega) st)⟩
        rw [q4, kb hv hx st, List.append_assoc]
end Go.Proofs.Ytojcojanokhnaaa.Ab
namespace Go.Proofs.Ytojcojanokhnaaa.Ab
open Go.RowKit
section
variable {P : Program} {o : Oper} {ρ : Operand → V} {H : List Reg}
theorem pp {post : V → List Reg → Prop}
    (h : ∀ (C : Cx) (A : Nat → Prop) (φ : List Hd) (a : Act) (w : World), InvA C A φ H w → (∀ x ∈ o.op.operands, Rel A w φ (ρ x) (a.eval x)) →
      ∃ v H' x w' A' φ', post v H' ∧ (execOp a.eval o).run P w = .ok (.value x) w' ∧ InvA C A' φ' H' w' ∧ (∀ b, A b → A' b ∧ w'.heap[b]? = w.heap[b]?) ∧ (∀ (h : Nat) (hd : Hd), φ[h]? = some hd → φ'[h]? = some hd) ∧ Rel A' w' φ' v x) : w9 P o ρ H post := by
  intro S hS hρ C φ a w hI next Q hn
  obtain ⟨hm, ⟨A, hA, hr⟩, hs, hd⟩ := hI
  subst hS
  obtain ⟨v, H', x, w', A', φ', h0, h1, h2, h3, h4, h5⟩ := h C A φ a w hA (fun y hy => by rw [← hρ y hy]; exact wz hr y)
  have h6 : zx A' w' φ' S.tmps (fun i => a.tmps[i]?) := zx.mono h3 h4 hr
  obtain ⟨h7, h8⟩ := vA (H := H') hs h6 h5 o.dst
  unfold Oper.wp
  rw [h1]
  refine hn v H' x w' φ' h0 ⟨by cases o.dst <;> exact hm, ⟨A', ?_, h7⟩, h8, by cases o.dst <;> exact hd⟩
  have : (S.put o.dst v H').H = H' := by cases o.dst <;> rfl
  rw [this]
  exact h2
theorem uW (w : World) (t ty e : TypeId) (i : TypeInfo) (ht : P.underlying t = some (.slice e)) (hi : P.info? e = some i)
    (g off sLen sCap : Nat) (cur : Array Value) (hg : w.heap[g]? = some (.cells cur e (0, 0)))
    (a : Addr) (m c : Nat) (news : List Value) (hl : news.length = m * i.size) (hnews : ∀ j u, news[j]? = some u → w.cell? (a.add j) = some u) (h1 : ∀ u ∈ news, u.oneCell' = true)
    (hroom : sLen + m ≤ sCap) (hfit : off + sLen * i.size + news.length ≤ cur.size) :
    (Builtin.append_ #[t, t] ty #[.slice (some ⟨g, off, none⟩) sLen sCap, .slice (some a) m c]).run P w =
      .ok (.slice (some ⟨g, off, none⟩) (sLen + m) sCap) (w.setRow g (cur.toList.take (off + sLen * i.size) ++ news ++ cur.toList.drop (off + sLen * i.size + news.length)).toArray) := by
  have hf := run_firstCells_some (P := P) w i.size m a m c news hl hnews
  have hst := run_storeCells_at P g (off + sLen * i.size) e news 0 cur w hg (by simpa using hfit) h1
  simp only [Nat.add_zero] at hst
  simp [Builtin.append_, run_underlying ht, sizeOf, typeInfo, hi, Builtin.lenOf, hroom, hf, Addr.add_lit, hst]
def cY (H : List Reg) (h off k m n : Nat) (e : TypeId) (r : Reg) (src : List V) (v : V) (H' : List Reg) : Prop :=
  ∃ (o' : Nat) (pre : List V), v = .sl H.length o' (k + m) ∧ pre.length = o' * n ∧ (o' = off ∨ o' = 0) ∧ H' = H.set h { r with mode := 2 } ++ [⟨e, n, pre ++ (r.cells.drop (off * n)).take (k * n) ++ src, 0⟩]
theorem qs {s x : Operand} {t ty e n b h m k off : Nat} {r : Reg} {src : List V} [ht : Sl P t e n b] (ho : o.op = .call { callee := .builtin .append, args := #[s, x], argTypes := #[t, t] })
    (hs : ρ s = .sl h off k) (hr : H[h]? = some r) (hm : r.mode = 0) (he : r.e = e) (hes : r.esz = n) (hk : (off + k) * n ≤ r.cells.length) (hx : Src H (ρ x) m src) (hsl : src.length = m * n) (hm0 : 0 < m) (h1 : ∀ c ∈ src, vo c = true)
    (hb : (k + m) * b ≤ 140737488355328) (hmax : k + m ≤ maxLen) : w9 P o ρ H (cY H h off k m n e r src) := pp fun C A φ a w hA hh => by
  have hs1 := hh s (by simp [ho, Op.operands, Call.operands])
  have hx1 := hh x (by simp [ho, Op.operands, Call.operands])
  obtain ⟨ad, c, news, ex, n1, n2, n3, n4⟩ := sd hx hA.ok hx1 h1
  rw [hs, Rel] at hs1
  obtain ⟨hd, e1, hs1⟩ := hs1
  obtain ⟨⟨f1, f2, f3⟩, f4⟩ := hA.ok.regs h hd r e1 hr (by omega)
  obtain ⟨i, z, i1, i2, i3, i4, i5⟩ := ht.i
  have hpos := ht.pos
  subst he
  have hlive : ∀ g, hd.blk = some g → z4 φ H h g := fun g hg => ⟨hd, r, e1, hr, hm, hg⟩
  have hK := hA.kill hr
  have hklen : (H.set h { r with mode := 2 }).length = H.length := by simp
  have hsmall : k + m ≤ 9223372036854775807 := by simp only [maxLen] at hmax; omega
  have hnl : news.length = m * n := n1.trans hsl
  have hzs : z.cells.size = n := i5
  have hmn : 0 < m * n := Nat.mul_pos hm0 hpos
  obtain ⟨ad', rfl, n5⟩ : ∃ ad', ad = some ad' ∧ ∀ j u, news[j]? = some u → w.cell? (ad'.add j) = some u := by
    rcases n4 with n4 | n4
    · rw [n4] at hsl; simp at hsl; omega
    · exact n4
  have hkn : (off + k) * n = off * n + k * n := Nat.add_mul ..
  have hpl : ((r.cells.drop (off * n)).take (k * n)).length = k * n := by simp only [List.length_take, List.length_drop]; omega
  have hop : ∀ (v : Value) (w' : World), (Builtin.append_ #[t, t] o.type #[a.eval s, a.eval x]).run P w = .ok v w' → (execOp a.eval o).run P w = .ok (.value v) w' := fun v w' hv => by
    simp only [execOp, ho, resolve, Sem.run_bind]
    simp [invoke, builtin, hv]
  have hnew : ∀ (olds : List Value) (cap : Nat), olds.length = k * n → zx A w φ ((r.cells.drop (off * n)).take (k * n)) (fun i => olds[i]?) → k + m ≤ cap → cap ≤ maxLen →
      (Builtin.append_ #[t, t] o.type #[a.eval s, a.eval x]).run P w = .ok (.slice (some ⟨w.heap.size, 0, none⟩) (k + m) cap) ((w.drewN 1).alloc (.cells (olds.toArray ++ news.toArray ++ Builtin.zeroCells z.cells (cap - (k + m))) r.e)) →
      ∃ v H' x w' A' φ', cY H h off k m n r.e r src v H' ∧ (execOp a.eval o).run P w = .ok (.value x) w' ∧ InvA C A' φ' H' w' ∧ (∀ b, A b → A' b ∧ w'.heap[b]? = w.heap[b]?) ∧ (∀ (h : Nat) (hd : Hd), φ[h]? = some hd → φ'[h]? = some hd) ∧ Rel A' w' φ' v x := fun olds cap ol or hc1 hc2 hrun => by
    have hsz : (olds.toArray ++ news.toArray ++ Builtin.zeroCells z.cells (cap - (k + m))).size = cap * n := by
      simp only [Array.size_append, List.size_toArray, size_zeroCells, hzs, ol, hnl, ← Nat.add_mul]
      congr 1
      omega
    have hcl : ((r.cells.drop (off * n)).take (k * n) ++ src).length = (k + m) * n := by rw [List.length_append, hpl, hsl, Nat.add_mul]
    refine ⟨_, _, _, _, A, φ ++ [⟨some w.heap.size, cap, n, r.e⟩], ⟨0, [], rfl, by simp, Or.inr rfl, rfl⟩, hop _ _ hrun, we hK hsz hc2 (by rw [hcl, hsz]; exact Nat.mul_le_mul_right _ hc1) (sk n3 n1 _ _ or (by rw [ol, hpl]) _) 1, wG hA _ 1, fun h hd hh => zb hh, ?_⟩
    have := uP (H := H.set h { r with mode := 2 }) hK (hd := ⟨some w.heap.size, cap, n, r.e⟩) rfl hc1 ((w.drewN 1).alloc (.cells (olds.toArray ++ news.toArray ++ Builtin.zeroCells z.cells (cap - (k + m))) r.e))
    rw [hklen] at this
    exact this
  have hempty : ∀ base : Option Addr, k = 0 → a.eval s = .slice base 0 0 → ∃ v H' x w' A' φ', cY H h off k m n r.e r src v H' ∧ (execOp a.eval o).run P w = .ok (.value x) w' ∧ InvA C A' φ' H' w' ∧ (∀ b, A b → A' b ∧ w'.heap[b]? = w.heap[b]?) ∧ (∀ (h : Nat) (hd : Hd), φ[h]? = some hd → φ'[h]? = some hd) ∧ Rel A' w' φ' v x := fun base hk0 e2' => by
    subst hk0
    cases base with
    | none =>
      have hrun := run_append_nil (P := P) w t o.type r.e i z ht.u i1 i4 ad' m c news (by rw [hnl, i2]) n5 (by omega) (by omega) (by rw [i3]; simp only [Nat.zero_add] at hb; omega)
      refine hnew [] (grownCap w m 0 r.e) (by simp) (by simp [zx]) (by simpa using grownCap_ge w m 0 r.e) (grownCap_le_maxLen w m 0 r.e (by omega)) ?_
      rw [e2', ex, hrun]
      simp [World.drewN_drew, World.drew_is_drewN]
    | some bs =>
      have hrun := run_append_grow (P := P) w t o.type r.e i z ht.u i1 i4 bs 0 0 [] (by simp) (fun j u hu => by simp at hu) ad' m c news (by rw [hnl, i2]) n5 (by omega) (by omega) (growslice_fits (by omega) (by rw [i3]; exact hb))
      refine hnew [] (grownCap w (0 + m) 0 r.e) (by simp) (by simp [zx]) (grownCap_ge w (0 + m) 0 r.e) (grownCap_le_maxLen w (0 + m) 0 r.e hmax) ?_
      rw [e2', ex, hrun]
      simp [World.drewN_drew, World.drew_is_drewN]
  rcases hs1 with ⟨e2, e3⟩ | ⟨p1, p2, base, e2⟩
  rotate_left
  · subst p2
    exact hempty base rfl e2
  cases hblk : hd.blk with
  | none =>
    rw [hblk] at f4 e2
    obtain ⟨g1, g2⟩ := f4
    exact hempty none (by omega) (by rw [e2, g2, show k = 0 by omega, Nat.zero_sub]; rfl)
  | some g =>
    rw [hblk] at f4 e2
    obtain ⟨cur, g1, g2, g3, g4⟩ := f4
    have hesz : hd.esz = n := f1.trans hes
    rw [hesz] at g2 e2
    have e2' : a.eval s = .slice (some ⟨g, off * n, none⟩) k (hd.cap - off) := by rw [e2]; simp
    have hlg := hlive g hblk
    have hfree : ∀ h', ¬ z4 φ (H.set h { r with mode := 2 }) h' g := fun h' ⟨hd', r', q1, q2, q3, q4⟩ => by
      rcases getElem?_set' q2 with ⟨_, rfl⟩ | ⟨hne, q2⟩
      · cases q3
      · exact hne (hA.ok.inj _ _ _ ⟨hd', r', q1, q2, q3, q4⟩ hlg)
    have hpre : zx A w φ (r.cells.take (off * n)) (fun i => cur[i]?) := yx g4 _
    have hmid : zx A w φ ((r.cells.drop (off * n)).take (k * n)) (fun i => cur[off * n + i]?) := yx (yy g4 _) _
    have hpre2 : (r.cells.take (off * n)).length = off * n := by simp only [List.length_take]; omega
    by_cases hroom : k + m ≤ hd.cap - off
    · have hcap : (off + (k + m)) * n ≤ hd.cap * n := Nat.mul_le_mul_right _ (by omega)
      have hcapn : (off + (k + m)) * n = off * n + k * n + m * n := by rw [Nat.add_mul, Nat.add_mul]; omega
      have hfit : off * n + k * i.size + news.length ≤ cur.size := by rw [i2, hnl, g2]; omega
      have hrun := uW (P := P) w t o.type r.e i ht.u i1 g (off * n) k (hd.cap - off) cur (by rw [g1, f2]) ad' m c news (by rw [hnl, i2]) n5 n2 hroom hfit
      rw [← e2', ← ex] at hrun
      rw [i2] at hfit hrun
      refine ⟨_, _, _, _, A, φ ++ [⟨some g, hd.cap, n, r.e⟩], ⟨off, r.cells.take (off * n), rfl, hpre2, Or.inl rfl, rfl⟩, hop _ _ hrun, hK.add hfree (hA.ok.apart h g hlg) (fun i _ hi => setRow_other w g i _ hi) (by simp) (hA.own h g hlg) rfl rfl rfl (setRow_heap w g cur _ r.e (0, 0) (by rw [g1, f2])) ?_ f3 ?_ ?_,
        fun b' hb' => ⟨hb', setRow_other w g b' _ fun e => hA.ok.apart h g hlg (e ▸ hb')⟩, fun h hd hh => zb hh, ?_⟩
      · rw [← g2]
        simp only [List.size_toArray, List.length_append, List.length_take, List.length_drop, Array.length_toList]
        omega
      · simp only [List.length_append, hpl, hpre2, hsl, List.size_toArray, List.length_take, List.length_drop, Array.length_toList]
        omega
      · refine yc (yc (yF hpre fun j hj => ?_) (yF hmid fun j hj => ?_)) (yF n3 fun j hj => ?_)
        · rw [hpre2] at hj
          simp only [List.getElem?_toArray]
          rw [List.append_assoc, List.getElem?_append_left (by simp; omega), List.getElem?_take, if_pos (by omega), Array.getElem?_toList]
        · rw [hpl] at hj
          simp only [List.getElem?_toArray]
          rw [hpre2, List.append_assoc, List.getElem?_append_left (by simp; omega), List.getElem?_take, if_pos (by omega), Array.getElem?_toList]
        · rw [hsl] at hj
          simp only [List.getElem?_toArray]
          rw [List.length_append, hpre2, hpl, List.append_assoc, List.getElem?_append_right (by simp; omega), List.getElem?_append_left (by simp; omega)]
          congr 1
          simp
          omega
      · rw [Rel]
        refine ⟨⟨some g, hd.cap, n, r.e⟩, ?_, Or.inl ⟨rfl, by simp only; omega⟩⟩
        rw [← hA.ok.len]
        simp
    · have holds : ∀ j u, ((cur.toList.drop (off * n)).take (k * n))[j]? = some u → w.cell? ((⟨g, off * n, none⟩ : Addr).add j) = some u := fun j u hu => by
        rw [List.getElem?_take] at hu
        split at hu
        · rw [List.getElem?_drop] at hu
          rw [Addr.plus, cell_of_row w g (off * n + j) cur hd.e (0, 0) g1, ← Array.getElem?_toList]
          exact hu
        · cases hu
      have hol : ((cur.toList.drop (off * n)).take (k * n)).length = k * n := by
        simp only [List.length_take, List.length_drop, Array.length_toList, g2]
        have := Nat.mul_le_mul_right n e3
        omega
      have hrun := run_append_grow (P := P) w t o.type r.e i z ht.u i1 i4 ⟨g, off * n, none⟩ k (hd.cap - off) ((cur.toList.drop (off * n)).take (k * n)) (by rw [hol, i2]) holds ad' m c news (by rw [hnl, i2]) n5 (by omega) (by omega) (growslice_fits (by omega) (by rw [i3]; exact hb))
      refine hnew _ (grownCap w (k + m) (hd.cap - off) r.e) hol (yF hmid fun j hj => ?_) (grownCap_ge w (k + m) (hd.cap - off) r.e) (grownCap_le_maxLen w (k + m) (hd.cap - off) r.e hmax) ?_
      · rw [hpl] at hj
        rw [List.getElem?_take, if_pos (by omega), List.getElem?_drop, Array.getElem?_toList]
      · rw [e2', ex, hrun]
        simp [World.drewN_drew, World.drew_is_drewN]
end
theorem w9.mono {P : Program} {o : Oper} {ρ : Operand → V} {H : List Reg} {post post' : V → List Reg → Prop} (h : w9 P o ρ H post) (hp : ∀ v H', post v H' → post' v H') : w9 P o ρ H post' :=
  fun S hS hρ C φ a w hI next Q hn => h S hS hρ C φ a w hI next Q fun v H' x w' φ' hq hI' => hn v H' x w' φ' (hp v H' hq) hI'
theorem d8 {l : List V} {H : List Reg} {m : Nat} {e : Exit} {post : V → List Reg → Prop} (he : e = .ret ∨ e = .normal) (hp : post (.tup []) H) : (e = .ret ∨ e = .normal) ∧ ∃ r hs', post r hs' ∧ Out true r hs' (uB ⟨l, H, m⟩ []) ⟨l, H, m⟩ :=
  ⟨he, _, _, hp, mB (S := ⟨l, H, m⟩)⟩
section
variable {α : Type} {T : Ty α} {e : TypeId}
theorem l7 {H : List Reg} {h b ty : Nat} {pre : List V} {rs : List (List α)} (hH : H[h]? = some ⟨ty, 1, pre ++ nC b rs, 0⟩) (hR : ∀ j x, rs[j]? = some x → H[b + j]? = some (yV T e x)) : Pur true H (.sl h pre.length rs.length) (xf (lsT T) rs) :=
  .slN hH (Or.inr ⟨rfl, rfl⟩) (Nat.succ_pos 0) (by simp [xM]) (by
    have := n9 (H := H) hR
    simpa [xM, List.take_of_length_le] using this)
end
def vq (P : Program) (f : FuncId) (cargs : List V) (hs : List Reg) (post : V → List Reg → Prop) (al : Bool) : Prop :=
  ∀ (A : Nat → Prop) (φ : List Hd) (w : World) (xs : Array Value), HeapOk A w φ hs → zx A w φ cargs (fun i => xs[i]?) → xs.size = cargs.length →
    Calls P f xs w fun e w' => ∃ r hs', post r hs' ∧ ∃ x φ' A', e = .returned x ∧ HeapOk A' w' φ' hs' ∧ Rel A' w' φ' r x ∧ (∀ b, A' b → (al = true ∧ A b) ∨ w.heap.size ≤ b) ∧
      (∀ h b, z4 φ' hs' h b → w.heap.size ≤ b ∨ ∃ h0, z4 φ hs h0 b) ∧ Framed ⟨A, w, φ, hs⟩ w' ∧ (∀ (h : Nat) (hd : Hd), φ[h]? = some hd → φ'[h]? = some hd)
theorem zy.x {P : Program} {f : FuncId} {cargs : List V} {hs : List Reg} {r : V} {hs' : List Reg} {al : Bool} (h : zy P f cargs hs r hs' al) {post : V → List Reg → Prop} (hp : post r hs') : vq P f cargs hs post al := fun A φ w xs h1 h2 h3 =>
  (h A φ w xs h1 h2 h3).mono fun e w' hq => ⟨r, hs', hp, hq⟩
theorem kE {P : Program} {f : FuncId} {fn : Func} {c : Code} {cargs : List V} {hs : List Reg} {post : V → List Reg → Prop} {al : Bool} (ts : List Tmp)
    (hf : P.funcs[f]? = some fn) (hb : fn.body = some c) (hr : fn.results = (ts.map ResultVar.tmp).toArray)
    (h : AW P c (fun e S => (e = .ret ∨ e = .normal) ∧ ∃ r hs', post r hs' ∧ Out al r hs' (uB S ts) S) ⟨cargs ++ List.replicate (fn.ntmps - cargs.length) (.k undef), hs, hs.length⟩) : vq P f cargs hs post al := by
  intro A φ w xs hok hrel hsz
  refine calls_of_wp hf hb ?_
  have hI : Inv ⟨A, w, φ, hs⟩ φ ⟨cargs ++ List.replicate (fn.ntmps - cargs.length) (.k undef), hs, hs.length⟩ { tmps := xs ++ Array.replicate (fn.ntmps - xs.size) undef, defers := [] } w := by
    refine ⟨hok.len, ⟨A, ⟨hok, fun b hb => Or.inl hb, fun h b hl => Or.inr ⟨h, hl⟩, ⟨rfl, rfl, rfl, Nat.le_refl _, fun _ _ _ => rfl⟩, fun _ _ h => h⟩, ?_⟩, by simp [hsz], rfl⟩
    refine yc (yF hrel fun i hi => ?_) (yQ.2 fun i c hc => ⟨undef, ?_, ?_⟩)
    · simp [Array.getElem?_append, hsz, hi]
    · have hlt := (List.getElem?_eq_some_iff.1 hc).1
      simp only [List.length_replicate] at hlt
      simp only [Array.getElem?_append, hsz, Nat.not_lt.2 (Nat.le_add_right _ _), if_false, Nat.add_sub_cancel_left]
      simp [hlt]
    · have := List.mem_of_getElem? hc
      obtain rfl := List.eq_of_mem_replicate this
      simp [Rel]
  refine wp_mono (h.out ⟨A, w, φ, hs⟩ φ _ w hI) ?_
  rintro e a' w' ⟨S', φ1, hI', he, r, hs', hp, ho⟩
  obtain ⟨hm, ⟨A1, hA1, hr1⟩, hs1, hd1⟩ := hI'
  obtain ⟨φ', A', k1, k2, k3, k4, k5⟩ := ho ⟨A, w, φ, hs⟩ A1 φ1 w' (jH a'.tmps ts) hm hA1 (py hr1 ts)
  have key : a'.defers = [] ∧ ∃ v, (results fn a'.tmps).run P w' = .ok v w' ∧ ∃ r hs', post r hs' ∧ ∃ x φ' A', (Ending.returned v) = .returned x ∧ HeapOk A' w' φ' hs' ∧ Rel A' w' φ' r x ∧ (∀ b, A' b → (al = true ∧ A b) ∨ w.heap.size ≤ b) ∧
      (∀ h b, z4 φ' hs' h b → w.heap.size ≤ b ∨ ∃ h0, z4 φ hs h0 b) ∧ Framed ⟨A, w, φ, hs⟩ w' ∧ (∀ (h : Nat) (hd : Hd), φ[h]? = some hd → φ'[h]? = some hd) :=
    ⟨hd1, _, tm hr _ _, r, hs', hp, _, φ', A', rfl, k1, k2, k3, k4, hA1.frame, k5⟩
  rcases he with rfl | rfl
  · exact key
  · exact key
section
variable {P : Program}
theorem nG {f : FuncId} {fn : Func} {c : Code} {cargs : List V} {hs : List Reg} {post : V → List Reg → Prop} {al : Bool} (t : Tmp) (ty : TypeId) (us : List Tmp) {n : Nat} [ht : Ag P ty n]
    (hf : P.funcs[f]? = some fn) (hb : fn.body = some c) (hus : us.isEmpty = false) (hr : fn.results = (.cell t ty :: us.map ResultVar.tmp).toArray)
    (h : AW P c (fun e S => (e = .ret ∨ e = .normal) ∧ ∃ v, CellIs S.tmps S.H t n v ∧ ∃ r hs', post r hs' ∧ Out al r hs' (.tup (v :: us.map fun u => (S.tmps[u]?).getD .any)) S) ⟨cargs ++ List.replicate (fn.ntmps - cargs.length) (.k undef), hs, hs.length⟩) : vq P f cargs hs post al := by
  intro A φ w xs hok hrel hsz
  refine calls_of_wp hf hb ?_
  have hI : Inv ⟨A, w, φ, hs⟩ φ ⟨cargs ++ List.replicate (fn.ntmps - cargs.length) (.k undef), hs, hs.length⟩ { tmps := xs ++ Array.replicate (fn.ntmps - xs.size) undef, defers := [] } w := by
    refine ⟨hok.len, ⟨A, ⟨hok, fun b hb => Or.inl hb, fun h b hl => Or.inr ⟨h, hl⟩, ⟨rfl, rfl, rfl, Nat.le_refl _, fun _ _ _ => rfl⟩, fun _ _ h => h⟩, ?_⟩, by simp [hsz], rfl⟩
    refine yc (yF hrel fun i hi => ?_) (yQ.2 fun i c hc => ⟨undef, ?_, ?_⟩)
    · simp [Array.getElem?_append, hsz, hi]
    · have hlt := (List.getElem?_eq_some_iff.1 hc).1
      simp only [List.length_replicate] at hlt
      simp only [Array.getElem?_append, hsz, Nat.not_lt.2 (Nat.le_add_right _ _), if_false, Nat.add_sub_cancel_left]
      simp [hlt]
    · have := List.mem_of_getElem? hc
      obtain rfl := List.eq_of_mem_replicate this
      simp [Rel]
  refine wp_mono (h.out ⟨A, w, φ, hs⟩ φ _ w hI) ?_
  rintro e a' w' ⟨S', φ1, hI', he, v, hc, r, hs', hp, ho⟩
  obtain ⟨hm, ⟨A1, hA1, hr1⟩, hs1, hd1⟩ := hI'
  obtain ⟨⟨h, off, r0, c1, c2, c3, c4, c5⟩⟩ := hc
  obtain ⟨y, y1, y2⟩ := yn hr1 c1
  rw [Rel] at y2
  obtain ⟨hd, b, e1, e2, e3⟩ := y2
  obtain ⟨xs', h2, h3, h4⟩ := xB (P := P) (yx (yy (xt hA1.ok e1 c2 c3 e2) off) n)
  have hl : ((r0.cells.drop off).take n).length = n := by simp; omega
  rw [hl] at h2
  have hx : Rel A1 w' φ1 v (.agg xs') := by subst c5; rw [Rel]; exact ⟨xs', rfl, h3, h4⟩
  have hrun : (results fn a'.tmps).run P w' = .ok (.tuple ((Value.agg xs') :: us.map fun u => a'.tmps.getD u undef).toArray) w' := by
    have hg : a'.tmps.getD t undef = .pointer (some ⟨b, off, none⟩) := by
      rw [Array.getD_eq_getD_getElem?, show a'.tmps[t]? = some y from y1, e3]
      rfl
    unfold results
    rw [hr]
    simp only [List.mapM_toArray, List.mapM_cons, hg, Sem.run_bind, Sem.run_map, Sem.run_pure, Result.andThen_ok, asAddr, loadVar, ht.a, ht.s, h2, if_true]
    rw [u6 a'.tmps w' _ (fun t => rfl)]
    simp only [Result.andThen_ok, Sem.run_pure]
    cases us with
    | nil => cases hus
    | cons u us => simp
  have hxt : Rel A1 w' φ1 (.tup (v :: us.map fun u => (S'.tmps[u]?).getD .any)) (.tuple ((Value.agg xs') :: us.map fun u => a'.tmps.getD u undef).toArray) := by
    rw [Rel]
    refine ⟨_, rfl, by simp, ?_⟩
    rw [zx]
    refine ⟨⟨.agg xs', rfl, hx⟩, yQ.2 fun i c hc => ?_⟩
    rw [List.getElem?_map] at hc
    cases hi : us[i]? with
    | none => rw [hi] at hc; simp at hc
    | some u =>
      rw [hi] at hc
      simp only [Option.map_some, Option.some.injEq] at hc
      subst hc
      exact ⟨a'.tmps.getD u undef, by simp [hi], wz hr1 (.tmp u)⟩
  obtain ⟨φ', A', k1, k2, k3, k4, k5⟩ := ho ⟨A, w, φ, hs⟩ A1 φ1 w' _ hm hA1 hxt
  have key : a'.defers = [] ∧ ∃ v, (results fn a'.tmps).run P w' = .ok v w' ∧ ∃ r hs', post r hs' ∧ ∃ x φ' A', (Ending.returned v) = .returned x ∧ HeapOk A' w' φ' hs' ∧ Rel A' w' φ' r x ∧ (∀ b, A' b → (al = true ∧ A b) ∨ w.heap.size ≤ b) ∧
      (∀ h b, z4 φ' hs' h b → w.heap.size ≤ b ∨ ∃ h0, z4 φ hs h0 b) ∧ Framed ⟨A, w, φ, hs⟩ w' ∧ (∀ (h : Nat) (hd : Hd), φ[h]? = some hd → φ'[h]? = some hd) :=
    ⟨hd1, _, hrun, r, hs', hp, _, φ', A', rfl, k1, k2, k3, k4, hA1.frame, k5⟩
  rcases he with rfl | rfl
  · exact key
  · exact key
theorem vq.frozen {f : FuncId} {cargs : List V} {r' : V} {post : V → List Reg → Prop} {al : Bool} (h : vq P f cargs [] post al) (hp : ∀ r K, post r K → Pur true K r r') : zy P f cargs [] r' [] true := by
  intro A φ w xs hok hrel hsz
  refine (h A φ w xs hok hrel hsz).mono ?_
  rintro e w' ⟨r, K, hq, x, φ', A', rfl, k1, k2, k3, k4, k5, k6⟩
  have hφ : φ = [] := List.length_eq_zero_iff.1 hok.len
  refine ⟨x, [], fun b => A' b ∨ ∃ h, z4 φ' K h b, rfl, ⟨rfl, fun h hd r h1 => by simp at h1, fun h h' b ⟨hd, r, h1, _⟩ => by simp at h1, fun h b ⟨hd, r, h1, _⟩ => by simp at h1, fun h hd r b h1 => by simp at h1, fun b hb => ?_⟩,
    Pur.rel k1 (fun b hb => Or.inl hb) (fun _ h b hb => Or.inr ⟨h, hb⟩) (hp r K hq) k2, fun b hb => ?_, fun h b ⟨hd, r, h1, _⟩ => by simp at h1, k5, fun h hd h1 => by rw [hφ] at h1; simp at h1⟩
  · rcases hb with hb | ⟨h, hd, r, q1, q2, q3, q4⟩
    · exact k1.low b hb
    · exact wU k1 q1 q2 (by omega) q4
  · rcases hb with hb | ⟨h, hb⟩
    · exact (k3 b hb).imp (fun h => ⟨rfl, h.2⟩) id
    · rcases k4 h b hb with h1 | ⟨h9, hd, r, p1, _⟩
      · exact Or.inr h1
      · rw [hφ] at p1
        simp at p1
end
section
variable {P : Program} {o : Oper} {ρ : Operand → V} {H : List Reg}
theorem tx {f : FuncId} {cargs : List V} {post : V → List Reg → Prop}
    (hrun : ∀ (A : Nat → Prop) (φ : List Hd) (a : Act) (w : World), HeapOk A w φ H → (∀ x ∈ o.op.operands, Rel A w φ (ρ x) (a.eval x)) → ∃ xs : Array Value, (execOp a.eval o).run P w = .ok (.enter f xs) w ∧ xs.size = cargs.length ∧ zx A w φ cargs (fun i => xs[i]?))
    (hm : vq P f cargs H post true) : w9 P o ρ H post := by
  intro S hS hρ C φ a w hI next Q hn
  obtain ⟨hm0, ⟨A, hA, hr⟩, hs, hd⟩ := hI
  subst hS
  obtain ⟨xs, hexec, hxl, hargr⟩ := hrun A φ a w hA.ok (fun x hx => by rw [← hρ x hx]; exact wz hr x)
  have hcall := hm A φ w xs hA.ok hargr hxl
  unfold Oper.wp
  rw [hexec, Oper.upon_enter]
  refine hcall.mono ?_
  rintro e w' ⟨r, K, hq, x, φ', A', rfl, k1, k2, k3, k4, k5, k6⟩
  have hfrA : ∀ b, A b → w'.heap[b]? = w.heap[b]? := fun b hb => k5.block b (hA.ok.low b hb) (fun h hl => hA.ok.apart h b hl hb)
  have wI : ∀ b, A' b → A b ∨ w.heap.size ≤ b := fun b hb => (k3 b hb).imp (fun h => h.2) id
  have hJ : InvA C (fun b => A b ∨ A' b) φ' K w' := by
    refine ⟨⟨k1.len, fun h hd q q1 q2 q3 => ?_, k1.inj, fun h b hl hb => ?_, fun h hd q b q1 q2 q3 q4 => Or.inr (k1.frz h hd q b q1 q2 q3 q4), fun b hb => ?_⟩, fun b hb => ?_, fun h b hl => ?_, ?_, fun h hd hh => k6 h hd (hA.pre h hd hh)⟩
    · obtain ⟨e1, e2⟩ := k1.regs h hd q q1 q2 q3
      refine ⟨e1, ?_⟩
      cases hb : hd.blk with
      | none => rw [hb] at e2; exact e2
      | some b =>
        rw [hb] at e2
        obtain ⟨c, c1, c2, c3, c4⟩ := e2
        exact ⟨c, c1, c2, c3, zx.mono (fun b hb => ⟨Or.inr hb, rfl⟩) (fun _ _ h => h) c4⟩
    · rcases hb with hb | hb
      · rcases k4 h b hl with h1 | ⟨h0, h1⟩
        · have := hA.ok.low b hb
          omega
        · exact hA.ok.apart h0 b h1 hb
      · exact k1.apart h b hl hb
    · rcases hb with hb | hb
      · exact Nat.lt_of_lt_of_le (hA.ok.low b hb) k5.size
      · exact k1.low b hb
    · rcases hb with hb | hb
      · exact hA.old b hb
      · rcases wI b hb with hb | hb
        · exact hA.old b hb
        · exact Or.inr (Nat.le_trans hA.frame.size hb)
    · rcases k4 h b hl with h1 | ⟨h0, h1⟩
      · exact Or.inl (Nat.le_trans hA.frame.size h1)
      · exact hA.own h0 b h1
    · obtain ⟨f1, f2, f3, f4, f5⟩ := hA.frame
      refine ⟨k5.os.trans f1, k5.tape.trans f2, k5.output.trans f3, Nat.le_trans f4 k5.size, fun b hb hno => ?_⟩
      rw [k5.block b (Nat.lt_of_lt_of_le hb f4) (fun h hl => ?_)]
      · exact f5 b hb hno
      · rcases hA.own h b hl with h1 | ⟨h0, h1⟩
        · have h2 : b < C.w0.heap.size := hb
          omega
        · exact hno h0 h1
  have hr' : zx (fun b => A b ∨ A' b) w' φ' S.tmps (fun i => a.tmps[i]?) := zx.mono (fun b hb => ⟨Or.inl hb, hfrA b hb⟩) (fun h hd hh => k6 h hd hh) hr
  have hx : Rel (fun b => A b ∨ A' b) w' φ' r x := Rel.mono (fun b hb => ⟨Or.inr hb, rfl⟩) (fun _ _ h => h) k2
  obtain ⟨h7, h8⟩ := vA (H := K) hs hr' hx o.dst
  refine hn r K x w' φ' hq ⟨by cases o.dst <;> exact hm0, ⟨_, ?_, h7⟩, h8, by cases o.dst <;> exact hd⟩
  rw [wD]
  exact hJ
theorem pt {f : FuncId} {args : List Operand} {ats : Array TypeId} {cargs : List V} {post : V → List Reg → Prop} [he : Ent P f] (ho : o.op = .call { callee := .value (.func f), args := args.toArray, argTypes := ats })
    (hm : vq P f cargs H post true) (hargs : args.map ρ = cargs) : w9 P o ρ H post :=
  tx (fun A φ a w _ hh => ⟨_, uA ho, by rw [← hargs]; simp, by rw [← hargs]; exact wo fun x hx => hh x (by rw [ho]; simp only [Op.operands, Call.operands]; simp [hx])⟩) hm
end
end Go.Proofs.Ytojcojanokhnaaa.Ab
namespace Go.Proofs.Ytojcojanokhnaaa.Ab
open Go.RowKit
theorem dc {o : Oper} {ρ : Operand → V} {H : List Reg} {h hz off n : Nat} {v : V} {s x : Operand} {cells : List V} (ho : o.op = .call { callee := .builtin .append, args := #[s, x], argTypes := #[25, 25] })
    (hs : ρ s = .sl h off n) (hH : H[h]? = some ⟨84, 1, cells, 0⟩) (hx : ρ x = .sl hz 0 1) (hzz : H[hz]? = some ⟨84, 1, [v], 0⟩) (hv : vo v = true) (hn : cells.length = off + n) (hl : cells.length ≤ 100000000) :
    w9 Go.Proofs.Try.prog o ρ H (fun w H' => ∃ (o' : Nat) (pre : List V), pre.length = o' ∧ (o' = off ∨ o' = 0) ∧ w = .sl H.length o' (n + 1) ∧ H' = H.set h ⟨84, 1, cells, 2⟩ ++ [⟨84, 1, pre ++ cells.drop off ++ [v], 0⟩]) := by
  have hsrc : Src H (ρ x) 1 [v] := by
    rw [hx]
    exact Src.sl (H := H) (off := 0) (m := 1) (r := ⟨84, 1, [v], 0⟩) hzz (Nat.zero_le _) (Nat.le_refl _)
  refine (qs (P := Go.Proofs.Try.prog) (ρ := ρ) (ty := 25) (m := 1) ho hs hH rfl rfl rfl (by show (off + n) * 1 ≤ cells.length; omega) hsrc rfl (by decide) (fun c hc => by simp at hc; subst hc; exact hv) (by omega) (by simp only [maxLen]; omega)).mono ?_
  rintro w H' ⟨o', pre, rfl, h1, h2, rfl⟩
  refine ⟨o', pre, by rw [h1, Nat.mul_one], h2, rfl, ?_⟩
  have e1 : ((⟨84, 1, cells, 0⟩ : Reg).cells.drop (off * 1)).take (n * 1) = cells.drop off := by
    show (cells.drop (off * 1)).take (n * 1) = _
    rw [Nat.mul_one, Nat.mul_one, List.take_of_length_le (by simp; omega)]
  rw [e1]
theorem kM (a0 a1 a3 a4 a5 a6 : Reg) (c0 c1 c2 c3 c6 c7 c8 c9 : V) (out : List Rw) (cells : List V) (off n : Nat) (hn : cells.length = off + n) (L : List Reg) (hl : cells.length ≤ 100000000) :
    vq Go.Proofs.Try.prog 60 [.ptr 2 0] (a0 :: a1 :: bxS [c0, c1, c2, c3, .sl 7 0 out.length, .sl 8 off n, c6, c7, c8, c9] :: a3 :: a4 :: a5 :: a6 :: rwR out :: ⟨84, 1, cells, 0⟩ :: L)
      (fun r K => ∃ (o' : Nat) (pre : List V), pre.length = o' ∧ (o' = off ∨ o' = 0) ∧ r = .tup [] ∧ K = a0 :: a1 :: bxS [c0, c1, c2, c3, ww, .sl ((L ++ [(⟨84, 1, [.sl 7 0 out.length], 0⟩ : Reg)]).length + 9) o' (n + 1), c6, c7, c8, c9] :: a3 :: a4 :: a5 :: a6 :: rwR out :: ⟨84, 1, cells, 2⟩ :: (L ++ [⟨84, 1, [.sl 7 0 out.length], 0⟩] ++ [⟨84, 1, pre ++ cells.drop off ++ [.sl 7 0 out.length], 0⟩])) true := by
  refine kE [] Go.Proofs.Try.func60 rfl rfl ?_
  simp only [Go.Proofs.Try.ntmps60, List.length_cons, List.length_nil, Nat.reduceAdd, Nat.reduceSub, List.replicate_succ, List.replicate_zero, List.cons_append, List.nil_append]
  repeat' first | refine zL ?_ | refine zA ?_ | (refine isA ?_; refine zf rfl ?_) | (refine isL ?_; refine zV rfl (by kernel_rfl) rfl rfl ?_) | (refine zc rfl ?_; refine zU rfl (by kernel_rfl) rfl rfl ?_) | refine zD ?_ | refine zB _ rfl (by kernel_rfl) ?_ | refine zW rfl ?_ | refine zX rfl ?_ | refine zC ?_ | with_reducible refine zO ?_ | refine zI ?_ | refine zJ ?_ | (with_reducible first | refine zM ?_ | refine zN ?_ | refine zF ?_ | refine zH ?_ | refine zG ?_) | refine zP ?_
  refine uU 14 (fun H => H[2]? = some (bxS [c0, c1, c2, c3, .sl 7 0 out.length, .sl 8 off n, c6, c7, c8, c9])) 15 rfl ?_
  refine yD 0 (Or.inr rfl) rfl rfl (by kernel_rfl) rfl (fun _ => rfl) rfl ?_
  refine yD 1 (Or.inr rfl) rfl rfl (by kernel_rfl) rfl (fun _ => rfl) rfl ?_
  refine yD 2 (Or.inr rfl) rfl rfl (by kernel_rfl) rfl (fun _ => rfl) rfl ?_
  refine yD 3 (Or.inr rfl) rfl rfl (by kernel_rfl) rfl (fun _ => rfl) rfl ?_
  refine vn 4 rfl (by kernel_rfl) rfl (by kernel_rfl) rfl (fun _ hG => xv rfl rfl hG rfl rfl) rfl ?_
  refine yD 5 (Or.inr rfl) rfl rfl (by kernel_rfl) rfl (fun _ => rfl) rfl ?_
  refine yD 6 (Or.inr rfl) rfl rfl (by kernel_rfl) rfl (fun _ => rfl) rfl ?_
  refine yD 7 (Or.inr rfl) rfl rfl (by kernel_rfl) rfl (fun _ => rfl) rfl ?_
  refine vn 8 rfl (by kernel_rfl) rfl (by kernel_rfl) rfl (fun _ hG => xv rfl rfl hG rfl rfl) rfl ?_
  refine yD 9 (Or.inr rfl) rfl rfl (by kernel_rfl) rfl (fun _ => rfl) rfl ?_
  refine xR 10 (by kernel_rfl) rfl rfl rfl (Or.inr rfl) rfl ?_
  refine jM 11 (by kernel_rfl) rfl rfl (dc rfl rfl rfl rfl (zg rfl) rfl hn hl) (fun v H' hq => Or.inr ?_) (fun v H' hq => ?_)
  · obtain ⟨o', pre, p1, p2, rfl, rfl⟩ := hq
    rfl
  · obtain ⟨o', pre, p1, p2, rfl, rfl⟩ := hq
    refine ⟨_, _, rfl, ?_⟩
    refine yD 12 (Or.inr rfl) rfl rfl (by kernel_rfl) rfl (fun _ => rfl) rfl ?_
    refine yD 13 (Or.inr rfl) rfl rfl (by kernel_rfl) rfl (fun _ => rfl) rfl ?_
    refine xR 14 (by kernel_rfl) rfl rfl rfl (Or.inl (by kernel_rfl)) rfl ?_
    refine vF (by kernel_rfl) ?_
    repeat' first | refine zL ?_ | refine zA ?_ | refine zQ [] ?_ | (refine isA ?_; refine zf rfl ?_) | (refine isL ?_; refine zV rfl (by kernel_rfl) rfl rfl ?_) | (refine zc rfl ?_; refine zU rfl (by kernel_rfl) rfl rfl ?_) | refine zD ?_ | refine zB _ rfl (by kernel_rfl) ?_ | refine zW rfl ?_ | refine zX rfl ?_ | refine zC ?_ | with_reducible refine zO ?_ | refine zI ?_ | refine zJ ?_ | (with_reducible first | refine zM ?_ | refine zN ?_ | refine zF ?_ | refine zH ?_ | refine zG ?_) | refine zP ?_
    exact d8 (Or.inr rfl) ⟨o', pre, p1, p2, rfl, rfl⟩
end Go.Proofs.Ytojcojanokhnaaa.Ab
namespace Go.Proofs.Ytojcojanokhnaaa.Ab
open Go.RowKit
theorem cT (s : So) (g : Int) (a : Rn) (r : Rw) (i : Nat) (hok : okSo s) (hp : s.ph = 3) (hr : s.runs = [a]) (hi : s.lp = (i : Int)) (h1 : a[i]? = some r) : AW Go.Proofs.Try.prog up (stQ s (xr s) g [r]) (stT s s g []) := by
  obtain ⟨inp, pos, heap, dfr, out, runs, lp, rp, ph, wr⟩ := s
  simp only at hp hr hi
  subst hp hr hi
  have g3 := hok.input
  have g6 := hok.tot
  simp only at g3 g6
  have hlt := (List.getElem?_eq_some_iff.1 h1).1
  have ha : a.length ≤ 10000000 := by simpa [tot] using g6
  have ew : IntKind.i64.wrap ((i : Int) + 1) = (i : Int) + 1 := by rw [IntKind.wrap_i64]; omega
  repeat' first | (refine tq rfl ?_; refine zT rfl (by kernel_rfl) rfl (yh rfl rfl rfl rfl rfl) rfl ?_) | (refine xH rfl ?_; refine tp rfl (by kernel_rfl) rfl (yX (t := rwT) (xs := []) (ys := [r]) rfl rfl rfl rfl (.lst _ _) (by simp) rfl) rfl ?_) | refine zL ?_ | refine zA ?_ | refine zQ [11] ?_ | (refine isA ?_; refine zf rfl ?_) | (refine isL ?_; refine zV rfl (by kernel_rfl) rfl rfl ?_) | (refine zc rfl ?_; refine zU rfl (by kernel_rfl) rfl rfl ?_) | (refine yB (x := .tmp 226) ?_; refine za rfl (zo (j := 0) rfl rfl rfl (Nat.zero_le _) rfl rfl (by decide) (by simp)) rfl ?_) | (refine yA (x := .tmp 226) rfl ?_; refine zT rfl (by kernel_rfl) rfl (zo (j := 0) rfl rfl rfl (Nat.zero_le _) rfl rfl (by decide) (by simp)) rfl ?_) | (refine yB (x := .tmp 229) ?_; refine za rfl (zo (j := (i : Int)) rfl rfl rfl (Nat.zero_le _) rfl rfl (Int.natCast_nonneg _) (by omega)) rfl ?_) | (refine yA (x := .tmp 229) rfl ?_; refine zT rfl (by kernel_rfl) rfl (zo (j := (i : Int)) rfl rfl rfl (Nat.zero_le _) rfl rfl (Int.natCast_nonneg _) (by omega)) rfl ?_) | (refine xi (x := .tmp 232) ?_; refine za rfl (yv (T := rwT) (i := 0 + i) (z := r) rfl rfl rfl (by rw [Nat.zero_add]; exact h1)) rfl ?_) | (refine xh (x := .tmp 232) rfl ?_; refine zT rfl (by kernel_rfl) rfl (yv (T := rwT) (i := 0 + i) (z := r) rfl rfl rfl (by rw [Nat.zero_add]; exact h1)) rfl ?_) | refine zD ?_ | refine zB _ rfl (by kernel_rfl) ?_ | refine zW rfl ?_ | refine zX rfl ?_ | refine zC ?_ | with_reducible refine zO ?_ | refine zI ?_ | refine zJ ?_ | (with_reducible first | refine zM ?_ | refine zN ?_ | refine zF ?_ | refine zH ?_ | refine zG ?_) | refine zP ?_
  refine zh rfl (fun h => ?_) (fun h => ?_)
  · have e : xr ⟨inp, pos, heap, dfr, out, [a], (i : Int), rp, 3, wr⟩ = ⟨inp, pos, heap, dfr, out, [a], (i : Int) + 1, rp, 4, wr⟩ := by
      have h' : decide ((i : Int) + 1 = (inp.length : Int)) = true := by rw [← ew]; exact h
      simp only [xr, h', cond_true]
    rw [e]
    repeat' first | refine zL ?_ | refine zA ?_ | refine zQ [] ?_ | (refine isA ?_; refine zf rfl ?_) | (refine isL ?_; refine zV rfl (by kernel_rfl) rfl rfl ?_) | (refine zc rfl ?_; refine zU rfl (by kernel_rfl) rfl rfl ?_) | refine zD ?_ | refine zB _ rfl (by kernel_rfl) ?_ | refine zW rfl ?_ | refine zX rfl ?_ | refine zC ?_ | with_reducible refine zO ?_ | refine zI ?_ | refine zJ ?_ | (with_reducible first | refine zM ?_ | refine zN ?_ | refine zF ?_ | refine zH ?_ | refine zG ?_) | refine zP ?_
    refine And.intro rfl (wW [0, 1, 2, 10, 4, 5, 6, 7, 8] (List.range' 9 1) rfl rfl (by decide) (by repeat' first | exact HLes.nil | refine HLes.cons rfl rfl rfl rfl (zY (zE _ _)) ?_ | refine HLes.cons rfl rfl rfl rfl (z5 rfl) ?_ | refine HLes.cons rfl rfl rfl rfl (wB (fun j hj => wQ _ 9 _ j hj)) ?_ | refine HLes.cons (z7 (zg xG)) rfl rfl rfl (zY (zE _ _)) ?_ | refine HLes.cons (z7 (zg y7)) rfl rfl rfl (zY (zE _ _)) ?_ | refine HLes.cons (z7 (zg y6)) rfl rfl rfl (zY (zE _ _)) ?_ | refine HLes.cons (z7 (zg xD)) rfl rfl rfl (zY (zE _ _)) ?_ | refine HLes.cons (z7 (zb (zg xG))) rfl rfl rfl (zY (zE _ _)) ?_ | refine HLes.cons (z7 (zb (zg y7))) rfl rfl rfl (zY (zE _ _)) ?_ | refine HLes.cons (z7 (zb (zg y6))) rfl rfl rfl (zY (zE _ _)) ?_ | refine HLes.cons (z7 (zb (zg xD))) rfl rfl rfl (zY (zE _ _)) ?_ | refine HLes.cons (z7 (zb (zb (zg xG)))) rfl rfl rfl (zY (zE _ _)) ?_ | refine HLes.cons (z7 (zb (zb (zg y7)))) rfl rfl rfl (zY (zE _ _)) ?_ | refine HLes.cons (z7 (zb (zb (zg y6)))) rfl rfl rfl (zY (zE _ _)) ?_ | refine HLes.cons (z7 (zb (zb (zg xD)))) rfl rfl rfl (zY (zE _ _)) ?_ | refine HLes.cons rfl rfl rfl rfl (by repeat' first | exact zj | refine zZ ?_ ?_ | exact zp | exact le_refl rfl | exact zm rfl rfl | exact zu rfl | exact zu (congrArg some (by simp [zn] <;> omega)) | exact zm rfl (by simp) | exact zm (congrArg some (by simp [zn] <;> omega)) rfl | exact zm (congrArg some (by simp [zn] <;> omega)) (by simp [yf, xk, yG]) | exact yC (congrArg _ (by assumption)) | exact yC (congrArg _ (Eq.symm (by assumption)))) ?_) (fun j i x hi hx => by rw [ix9 hi]; exact uG (zb (xQ hx))) (by repeat' first | exact zj | refine zZ ?_ ?_ | exact zp | exact le_refl rfl | exact zm rfl rfl | exact zu rfl | exact zu (congrArg some (by simp [zn] <;> omega)) | exact zm rfl (by simp) | exact zm (congrArg some (by simp [zn] <;> omega)) rfl | exact zm (congrArg some (by simp [zn] <;> omega)) (by simp [yf, xk, yG]) | exact yC (congrArg _ (by assumption)) | exact yC (congrArg _ (Eq.symm (by assumption)))))
  · have e : xr ⟨inp, pos, heap, dfr, out, [a], (i : Int), rp, 3, wr⟩ = ⟨inp, pos, heap, dfr, out, [a], (i : Int) + 1, rp, 3, wr⟩ := by
      have h' : decide ((i : Int) + 1 = (inp.length : Int)) = false := by rw [← ew]; exact h
      simp only [xr, h', cond_false]
    rw [e]
    repeat' first | refine zL ?_ | refine zA ?_ | refine zQ [] ?_ | (refine isA ?_; refine zf rfl ?_) | (refine isL ?_; refine zV rfl (by kernel_rfl) rfl rfl ?_) | (refine zc rfl ?_; refine zU rfl (by kernel_rfl) rfl rfl ?_) | refine zD ?_ | refine zB _ rfl (by kernel_rfl) ?_ | refine zW rfl ?_ | refine zX rfl ?_ | refine zC ?_ | with_reducible refine zO ?_ | refine zI ?_ | refine zJ ?_ | (with_reducible first | refine zM ?_ | refine zN ?_ | refine zF ?_ | refine zH ?_ | refine zG ?_) | refine zP ?_
    refine And.intro rfl (wW [0, 1, 2, 10, 4, 5, 6, 7, 8] (List.range' 9 1) rfl rfl (by decide) (by repeat' first | exact HLes.nil | refine HLes.cons rfl rfl rfl rfl (zY (zE _ _)) ?_ | refine HLes.cons rfl rfl rfl rfl (z5 rfl) ?_ | refine HLes.cons rfl rfl rfl rfl (wB (fun j hj => wQ _ 9 _ j hj)) ?_ | refine HLes.cons (z7 (zg xG)) rfl rfl rfl (zY (zE _ _)) ?_ | refine HLes.cons (z7 (zg y7)) rfl rfl rfl (zY (zE _ _)) ?_ | refine HLes.cons (z7 (zg y6)) rfl rfl rfl (zY (zE _ _)) ?_ | refine HLes.cons (z7 (zg xD)) rfl rfl rfl (zY (zE _ _)) ?_ | refine HLes.cons (z7 (zb (zg xG))) rfl rfl rfl (zY (zE _ _)) ?_ | refine HLes.cons (z7 (zb (zg y7))) rfl rfl rfl (zY (zE _ _)) ?_ | refine HLes.cons (z7 (zb (zg y6))) rfl rfl rfl (zY (zE _ _)) ?_ | refine HLes.cons (z7 (zb (zg xD))) rfl rfl rfl (zY (zE _ _)) ?_ | refine HLes.cons (z7 (zb (zb (zg xG)))) rfl rfl rfl (zY (zE _ _)) ?_ | refine HLes.cons (z7 (zb (zb (zg y7)))) rfl rfl rfl (zY (zE _ _)) ?_ | refine HLes.cons (z7 (zb (zb (zg y6)))) rfl rfl rfl (zY (zE _ _)) ?_ | refine HLes.cons (z7 (zb (zb (zg xD)))) rfl rfl rfl (zY (zE _ _)) ?_ | refine HLes.cons rfl rfl rfl rfl (by repeat' first | exact zj | refine zZ ?_ ?_ | exact zp | exact le_refl rfl | exact zm rfl rfl | exact zu rfl | exact zu (congrArg some (by simp [zn] <;> omega)) | exact zm rfl (by simp) | exact zm (congrArg some (by simp [zn] <;> omega)) rfl | exact zm (congrArg some (by simp [zn] <;> omega)) (by simp [yf, xk, yG]) | exact yC (congrArg _ (by assumption)) | exact yC (congrArg _ (Eq.symm (by assumption)))) ?_) (fun j i x hi hx => by rw [ix9 hi]; exact uG (zb (xQ hx))) (by repeat' first | exact zj | refine zZ ?_ ?_ | exact zp | exact le_refl rfl | exact zm rfl rfl | exact zu rfl | exact zu (congrArg some (by simp [zn] <;> omega)) | exact zm rfl (by simp) | exact zm (congrArg some (by simp [zn] <;> omega)) rfl | exact zm (congrArg some (by simp [zn] <;> omega)) (by simp [yf, xk, yG]) | exact yC (congrArg _ (by assumption)) | exact yC (congrArg _ (Eq.symm (by assumption)))))
end Go.Proofs.Ytojcojanokhnaaa.Ab
namespace Go.Proofs.Ytojcojanokhnaaa.Ab
open Go.RowKit
abbrev zR : Reg := ⟨78, 3, [I 0, I 0, I 0], 0⟩
abbrev T32 (s : So) (g : Int) (n m : Nat) (c : Bool) : St := ⟨(.any :: (I g) :: (.ptr 0 0) :: .any :: (.ptr 1 0) :: .any :: .any :: (.ptr 2 0) :: (.sl 3 0 0) :: .any :: .any :: .any :: (.sl 9 0 n) :: (.sl 10 0 m) :: (.ptr (stH s s []).length 0) :: .any :: .any :: .any :: .any :: .any :: .any :: .any :: .any :: .any :: .any :: .any :: .any :: .any :: .any :: .any :: .any :: .any :: .any :: .any :: .any :: .any :: .any :: .any :: .any :: .any :: .any :: .any :: .any :: .any :: .any :: .any :: .any :: .any :: .any :: .any :: .any :: .any :: .any :: .any :: .any :: .any :: .any :: .any :: .any :: .any :: .any :: .any :: .any :: .any :: .any :: .any :: .any :: .any :: .any :: .any :: .any :: .any :: .any :: .any :: .any :: .any :: .any :: .any :: .any :: .any :: .any :: .any :: .any :: .any :: .any :: .any :: .any :: .any :: .any :: .any :: .any :: .any :: .any :: .any :: .any :: .any :: .any :: .any :: .any :: .any :: .any :: .any :: .any :: .any :: .any :: .any :: .any :: .any :: .any :: .any :: .any :: .any :: .any :: .any :: .any :: .any :: .any :: .any :: .any :: .any :: .any :: .any :: .any :: .any :: .any :: .any :: .any :: .any :: .any :: .any :: .any :: .any :: .any :: .any :: .any :: .any :: .any :: .any :: .any :: .any :: .any :: .any :: .any :: .any :: .any :: .any :: .any :: .any :: .any :: .any :: .any :: .any :: .any :: .any :: .any :: .any :: .any :: .any :: .any :: .any :: .any :: .any :: .any :: .any :: .any :: .any :: .any :: .any :: .any :: .any :: .any :: .any :: .any :: .any :: .any :: .any :: .any :: .any :: .any :: .any :: .any :: .any :: .any :: .any :: .any :: .any :: .any :: .any :: .any :: .any :: .any :: (B c) :: .any :: .any :: .any :: .any :: .any :: .any :: .any :: .any :: .any :: .any :: .any :: .any :: .any :: .any :: .any :: .any :: .any :: .any :: .any :: .any :: .any :: .any :: .any :: .any :: .any :: .any :: .any :: .any :: .any :: .any :: .any :: .any :: .any :: .any :: .any :: .any :: .any :: .any :: .any :: .any :: .any :: .any :: .any :: .any :: .any :: .any :: .any :: .any :: .any :: .any :: .any :: .any :: .any :: .any :: .any :: .any :: .any :: []), stH s s [] ++ [zR], 0⟩
theorem cO (inp heap dfr out : List Rw) (pos wr g : Int) (a b : Rn) (rest : List Rn) (i k : Nat) (r : Rw) (hok : okSo ⟨inp, pos, heap, dfr, out, a :: b :: rest, i, k, 2, wr⟩) (h1 : a[i]? = some r) (hk : k ≤ b.length) (h2 : ∀ q, b[k]? = some q → leW r q) :
    AW Go.Proofs.Try.prog up (stQ ⟨inp, pos, heap, dfr, out, a :: b :: rest, i, k, 2, wr⟩ (w5 ⟨inp, pos, heap, dfr, out, a :: b :: rest, i, k, 2, wr⟩ r) g []) (stT ⟨inp, pos, heap, dfr, out, a :: b :: rest, i, k, 2, wr⟩ ⟨inp, pos, heap, dfr, out, a :: b :: rest, i, k, 2, wr⟩ g []) := by
  have g4 := hok.out
  have g6 := hok.tot
  simp only [tot, List.map_cons, List.sum_cons] at g4 g6
  have hlt := (List.getElem?_eq_some_iff.1 h1).1
  have ew : IntKind.i64.wrap ((i : Int) + 1) = (i : Int) + 1 := by rw [IntKind.wrap_i64]; omega
  repeat' first | refine zL ?_ | refine zA ?_ | refine zQ [] ?_ | (refine isA ?_; refine zf rfl ?_) | (refine isL ?_; refine zV rfl (by kernel_rfl) rfl rfl ?_) | (refine zc rfl ?_; refine zU rfl (by kernel_rfl) rfl rfl ?_) | (refine yB (x := .tmp 138) ?_; refine za rfl (zo (j := 0) rfl rfl rfl (Nat.zero_le _) rfl rfl (by decide) (by simp; omega)) rfl ?_) | (refine yA (x := .tmp 138) rfl ?_; refine zT rfl (by kernel_rfl) rfl (zo (j := 0) rfl rfl rfl (Nat.zero_le _) rfl rfl (by decide) (by simp; omega)) rfl ?_) | (refine yB (x := .tmp 143) ?_; refine za rfl (zo (j := 1) rfl rfl rfl (Nat.zero_le _) rfl rfl (by decide) (by simp; omega)) rfl ?_) | (refine yA (x := .tmp 143) rfl ?_; refine zT rfl (by kernel_rfl) rfl (zo (j := 1) rfl rfl rfl (Nat.zero_le _) rfl rfl (by decide) (by simp; omega)) rfl ?_) | refine zD ?_ | refine zB _ rfl (by kernel_rfl) ?_ | refine zW rfl ?_ | refine zX rfl ?_ | refine zC ?_ | with_reducible refine zO ?_ | refine zI ?_ | refine zJ ?_ | (with_reducible first | refine zM ?_ | refine zN ?_ | refine zF ?_ | refine zH ?_ | refine zG ?_) | refine zP ?_
  refine yb rfl rfl (fun h => absurd (of_decide_eq_true h) (by simp only; omega)) (fun _ => ?_)
  repeat' first | (refine wv 32 (T32 ⟨inp, pos, heap, dfr, out, a :: b :: rest, i, k, 2, wr⟩ g a.length b.length true) (xb ?_) ?_) | refine zL ?_ | refine zA ?_ | refine zQ [] ?_ | (refine isA ?_; refine zf rfl ?_) | (refine isL ?_; refine zV rfl (by kernel_rfl) rfl rfl ?_) | (refine zc rfl ?_; refine zU rfl (by kernel_rfl) rfl rfl ?_) | (refine tE (x := .tmp 14) ?_; refine za rfl (wM (vs := [I 0, I 0, I 0]) rfl rfl rfl rfl rfl (fun c hc => by simp at hc; subst hc; rfl) rfl rfl) rfl ?_) | (refine tD (x := .tmp 14) rfl ?_; refine zT rfl (by kernel_rfl) rfl (wM (vs := [I 0, I 0, I 0]) rfl rfl rfl rfl rfl (fun c hc => by simp at hc; subst hc; rfl) rfl rfl) rfl ?_) | refine zD ?_ | refine zB _ rfl (by kernel_rfl) ?_ | refine zW rfl ?_ | refine zX rfl ?_ | refine zC ?_ | with_reducible refine zO ?_ | refine zI ?_ | refine zJ ?_ | (with_reducible first | refine zM ?_ | refine zN ?_ | refine zF ?_ | refine zH ?_ | refine zG ?_) | refine zP ?_
  · refine wI ?_
    repeat' first | refine zL ?_ | refine zA ?_ | refine zQ [] ?_ | (refine isA ?_; refine zf rfl ?_) | (refine isL ?_; refine zV rfl (by kernel_rfl) rfl rfl ?_) | (refine zc rfl ?_; refine zU rfl (by kernel_rfl) rfl rfl ?_) | refine zD ?_ | refine zB _ rfl (by kernel_rfl) ?_ | refine zW rfl ?_ | refine zX rfl ?_ | refine zC ?_ | with_reducible refine zO ?_ | refine zI ?_ | refine zJ ?_ | (with_reducible first | refine zM ?_ | refine zN ?_ | refine zF ?_ | refine zH ?_ | refine zG ?_) | refine zP ?_
    refine yK rfl rfl rfl rfl (fun h => ?_) (fun h => ?_)
    · repeat' first | refine zL ?_ | refine zA ?_ | refine zQ [] ?_ | (refine isA ?_; refine zf rfl ?_) | (refine isL ?_; refine zV rfl (by kernel_rfl) rfl rfl ?_) | (refine zc rfl ?_; refine zU rfl (by kernel_rfl) rfl rfl ?_) | exact ⟨rfl, xl rfl (by repeat' first | exact EqS.nil | refine EqS.any ?_ | refine EqS.same rfl ?_)⟩ | refine zD ?_ | refine zB _ rfl (by kernel_rfl) ?_ | refine zW rfl ?_ | refine zX rfl ?_ | refine zC ?_ | with_reducible refine zO ?_ | refine zI ?_ | refine zJ ?_ | (with_reducible first | refine zM ?_ | refine zN ?_ | refine zF ?_ | refine zH ?_ | refine zG ?_) | refine zP ?_
    · have hkl : k < b.length := by have := of_decide_eq_false h; simp only at this; omega
      obtain ⟨q, hq⟩ : ∃ z, b[k]? = some z := ⟨_, List.getElem?_eq_getElem hkl⟩
      have hle : decide (yu r q ≤ 0) = true := decide_eq_true (h2 q hq)
      repeat' first | refine zL ?_ | refine zA ?_ | refine zQ [] ?_ | (refine isA ?_; refine zf rfl ?_) | (refine isL ?_; refine zV rfl (by kernel_rfl) rfl rfl ?_) | (refine zc rfl ?_; refine zU rfl (by kernel_rfl) rfl rfl ?_) | refine zD ?_ | refine zB _ rfl (by kernel_rfl) ?_ | refine zW rfl ?_ | refine zX rfl ?_ | refine zC ?_ | with_reducible refine zO ?_ | refine zI ?_ | refine zJ ?_ | (with_reducible first | refine zM ?_ | refine zN ?_ | refine zF ?_ | refine zH ?_ | refine zG ?_) | refine zP ?_
      refine yK rfl rfl rfl rfl (fun _ => ?_) (fun h => absurd (of_decide_eq_false h) (by simp only; omega))
      repeat' first | refine zL ?_ | refine zA ?_ | refine zQ [] ?_ | (refine isA ?_; refine zf rfl ?_) | (refine isL ?_; refine zV rfl (by kernel_rfl) rfl rfl ?_) | (refine zc rfl ?_; refine zU rfl (by kernel_rfl) rfl rfl ?_) | (refine yB (x := .tmp 178) ?_; refine za rfl (zo (j := (i : Int)) rfl rfl rfl (Nat.zero_le _) rfl rfl (Int.natCast_nonneg _) (by omega)) rfl ?_) | (refine yA (x := .tmp 178) rfl ?_; refine zT rfl (by kernel_rfl) rfl (zo (j := (i : Int)) rfl rfl rfl (Nat.zero_le _) rfl rfl (Int.natCast_nonneg _) (by omega)) rfl ?_) | (refine yB (x := .tmp 183) ?_; refine za rfl (zo (j := (k : Int)) rfl rfl rfl (Nat.zero_le _) rfl rfl (Int.natCast_nonneg _) (by omega)) rfl ?_) | (refine yA (x := .tmp 183) rfl ?_; refine zT rfl (by kernel_rfl) rfl (zo (j := (k : Int)) rfl rfl rfl (Nat.zero_le _) rfl rfl (Int.natCast_nonneg _) (by omega)) rfl ?_) | (refine xi (x := .tmp 181) ?_; refine za rfl (yv (T := rwT) (i := 0 + i) (z := r) rfl rfl rfl (by rw [Nat.zero_add]; exact h1)) rfl ?_) | (refine xh (x := .tmp 181) rfl ?_; refine zT rfl (by kernel_rfl) rfl (yv (T := rwT) (i := 0 + i) (z := r) rfl rfl rfl (by rw [Nat.zero_add]; exact h1)) rfl ?_) | (refine xi (x := .tmp 186) ?_; refine za rfl (yv (T := rwT) (i := 0 + k) (z := q) rfl rfl rfl (by rw [Nat.zero_add]; exact hq)) rfl ?_) | (refine xh (x := .tmp 186) rfl ?_; refine zT rfl (by kernel_rfl) rfl (yv (T := rwT) (i := 0 + k) (z := q) rfl rfl rfl (by rw [Nat.zero_add]; exact hq)) rfl ?_) | (refine zr 64 ?_; refine za rfl (zK rfl (xO r q) (.cons (.same rfl) (.cons (.same rfl) .nil)) rfl) rfl ?_) | (refine zq 64 rfl ?_; refine zT rfl (by kernel_rfl) rfl (zK rfl (xO r q) (.cons (.same rfl) (.cons (.same rfl) .nil)) rfl) rfl ?_) | exact ⟨rfl, xl rfl (by repeat' first | exact EqS.nil | refine EqS.any ?_ | refine EqS.same rfl ?_ | refine EqS.same (congrArg B hle) ?_)⟩ | refine zD ?_ | refine zB _ rfl (by kernel_rfl) ?_ | refine zW rfl ?_ | refine zX rfl ?_ | refine zC ?_ | with_reducible refine zO ?_ | refine zI ?_ | refine zJ ?_ | (with_reducible first | refine zM ?_ | refine zN ?_ | refine zF ?_ | refine zH ?_ | refine zG ?_) | refine zP ?_
  · repeat' first | (refine isA ?_; refine za rfl (yh rfl rfl rfl rfl rfl) rfl ?_) | refine zL ?_ | refine zA ?_ | refine zQ [6] ?_ | (refine isA ?_; refine zf rfl ?_) | (refine isL ?_; refine zV rfl (by kernel_rfl) rfl rfl ?_) | (refine zc rfl ?_; refine zU rfl (by kernel_rfl) rfl rfl ?_) | (refine yB (x := .tmp 192) ?_; refine za rfl (zo (j := (i : Int)) rfl rfl rfl (Nat.zero_le _) rfl rfl (Int.natCast_nonneg _) (by omega)) rfl ?_) | (refine yA (x := .tmp 192) rfl ?_; refine zT rfl (by kernel_rfl) rfl (zo (j := (i : Int)) rfl rfl rfl (Nat.zero_le _) rfl rfl (Int.natCast_nonneg _) (by omega)) rfl ?_) | (refine xi (x := .tmp 195) ?_; refine za rfl (yv (T := rwT) (i := 0 + i) (z := r) rfl rfl rfl (by rw [Nat.zero_add]; exact h1)) rfl ?_) | (refine xh (x := .tmp 195) rfl ?_; refine zT rfl (by kernel_rfl) rfl (yv (T := rwT) (i := 0 + i) (z := r) rfl rfl rfl (by rw [Nat.zero_add]; exact h1)) rfl ?_) | (refine tE (x := .tmp 14) ?_; refine za rfl (wM rfl rfl rfl rfl rfl (wi r) rfl rfl) rfl ?_) | (refine tD (x := .tmp 14) rfl ?_; refine zT rfl (by kernel_rfl) rfl (wM rfl rfl rfl rfl rfl (wi r) rfl rfl) rfl ?_) | (refine xi (x := .tmp 14) ?_; refine za rfl (xc rfl rfl (zg rfl) rfl rfl) rfl ?_) | (refine xh (x := .tmp 14) rfl ?_; refine zT rfl (by kernel_rfl) rfl (xc rfl rfl (zg rfl) rfl rfl) rfl ?_) | (refine xi (x := .tmp 14) ?_; refine za rfl (xc rfl rfl (z7 (j := (nR rwT 78 (a :: b :: rest)).length) (zb (zg rfl))) rfl rfl) rfl ?_) | (refine xh (x := .tmp 14) rfl ?_; refine zT rfl (by kernel_rfl) rfl (xc rfl rfl (z7 (j := (nR rwT 78 (a :: b :: rest)).length) (zb (zg rfl))) rfl rfl) rfl ?_) | (refine xd ?_; refine za rfl (yX (t := rwT) (xs := out) (ys := [r]) rfl rfl rfl rfl (.lst _ _) (by simp; omega) rfl) rfl ?_) | (refine xH rfl ?_; refine zT rfl (by kernel_rfl) rfl (yX (t := rwT) (xs := out) (ys := [r]) rfl rfl rfl rfl (.lst _ _) (by simp; omega) rfl) rfl ?_) | (refine zr 58 ?_; refine za rfl (zK rfl (w7 r) (.cons (.same rfl) .nil) rfl) rfl ?_) | (refine zq 58 rfl ?_; refine zT rfl (by kernel_rfl) rfl (zK rfl (w7 r) (.cons (.same rfl) .nil) rfl) rfl ?_) | (refine isL ?_; refine wx rfl (by kernel_rfl) rfl rfl ?_) | refine zD ?_ | refine zB _ rfl (by kernel_rfl) ?_ | refine zW rfl ?_ | refine zX rfl ?_ | refine zC ?_ | with_reducible refine zO ?_ | refine zI ?_ | refine zJ ?_ | (with_reducible first | refine zM ?_ | refine zN ?_ | refine zF ?_ | refine zH ?_ | refine zG ?_) | refine zP ?_
    refine And.intro rfl (wW [0, 1, 2, 3, 4, 5, 6, (a :: b :: rest).length + 1 + 9, 8] (List.range' 9 (a :: b :: rest).length) rfl (by simp [w5]) (xI (by simp <;> omega) (fun h hh => by simp at hh; simp; omega)) (by repeat' first | exact HLes.nil | refine HLes.cons rfl rfl rfl rfl (zY (zE _ _)) ?_ | refine HLes.cons rfl rfl rfl rfl (z5 rfl) ?_ | refine HLes.cons rfl rfl rfl rfl (wB (fun j hj => wQ _ 9 _ j hj)) ?_ | refine HLes.cons (z7 (zg xG)) rfl rfl rfl (zY (zE _ _)) ?_ | refine HLes.cons (z7 (zg y7)) rfl rfl rfl (zY (zE _ _)) ?_ | refine HLes.cons (z7 (zg y6)) rfl rfl rfl (zY (zE _ _)) ?_ | refine HLes.cons (z7 (zg xD)) rfl rfl rfl (zY (zE _ _)) ?_ | refine HLes.cons (z7 (zb (zg xG))) rfl rfl rfl (zY (zE _ _)) ?_ | refine HLes.cons (z7 (zb (zg y7))) rfl rfl rfl (zY (zE _ _)) ?_ | refine HLes.cons (z7 (zb (zg y6))) rfl rfl rfl (zY (zE _ _)) ?_ | refine HLes.cons (z7 (zb (zg xD))) rfl rfl rfl (zY (zE _ _)) ?_ | refine HLes.cons (z7 (zb (zb (zg xG)))) rfl rfl rfl (zY (zE _ _)) ?_ | refine HLes.cons (z7 (zb (zb (zg y7)))) rfl rfl rfl (zY (zE _ _)) ?_ | refine HLes.cons (z7 (zb (zb (zg y6)))) rfl rfl rfl (zY (zE _ _)) ?_ | refine HLes.cons (z7 (zb (zb (zg xD)))) rfl rfl rfl (zY (zE _ _)) ?_ | refine HLes.cons rfl rfl rfl rfl (by repeat' first | exact zj | refine zZ ?_ ?_ | exact zp | exact le_refl rfl | exact zm rfl rfl | exact zu rfl | exact zu (congrArg some (by simp [zn] <;> omega)) | exact zm rfl (by simp) | exact zm (congrArg some (by simp [zn] <;> omega)) rfl | exact zm (congrArg some (by simp [zn] <;> omega)) (by simp [yf, xk, yG]) | exact yC (congrArg _ (by assumption)) | exact yC (congrArg _ (Eq.symm (by assumption)))) ?_) (fun j i x hi hx => by rw [ix9 hi]; exact uG (zb (zb (xQ hx)))) (by repeat' first | exact zj | refine zZ ?_ ?_ | exact zp | exact le_refl rfl | exact zm rfl rfl | exact zu rfl | exact zu (congrArg some (by simp [zn] <;> omega)) | exact zm rfl (by simp) | exact zm (congrArg some (by simp [zn] <;> omega)) rfl | exact zm (congrArg some (by simp [zn] <;> omega)) (by simp [yf, xk, yG]) | exact yC (congrArg _ (by assumption)) | exact yC (congrArg _ (Eq.symm (by assumption)))))
end Go.Proofs.Ytojcojanokhnaaa.Ab
namespace Go.Proofs.Ytojcojanokhnaaa.Ab
open Go.RowKit
abbrev T27 (s : So) (g : Int) (n m : Nat) (c : Bool) : St := ⟨(.any :: (I g) :: (.ptr 0 0) :: .any :: (.ptr 1 0) :: .any :: .any :: (.ptr 2 0) :: (.sl 3 0 0) :: .any :: .any :: .any :: (.sl 9 0 n) :: (.sl 10 0 m) :: .any :: .any :: .any :: .any :: .any :: .any :: .any :: .any :: .any :: .any :: .any :: .any :: .any :: .any :: .any :: .any :: .any :: .any :: .any :: .any :: .any :: .any :: .any :: .any :: .any :: .any :: .any :: .any :: .any :: .any :: .any :: .any :: .any :: .any :: .any :: .any :: .any :: .any :: .any :: .any :: .any :: .any :: .any :: .any :: .any :: .any :: .any :: .any :: .any :: .any :: .any :: .any :: .any :: .any :: .any :: .any :: .any :: .any :: .any :: .any :: .any :: .any :: .any :: .any :: .any :: .any :: .any :: .any :: .any :: .any :: .any :: .any :: .any :: .any :: .any :: .any :: .any :: .any :: .any :: .any :: .any :: .any :: .any :: .any :: .any :: .any :: .any :: .any :: .any :: .any :: .any :: .any :: .any :: .any :: .any :: .any :: .any :: .any :: .any :: .any :: .any :: .any :: .any :: .any :: .any :: .any :: .any :: .any :: .any :: .any :: .any :: .any :: .any :: .any :: .any :: .any :: .any :: .any :: .any :: .any :: .any :: .any :: .any :: .any :: .any :: .any :: .any :: .any :: .any :: .any :: .any :: .any :: .any :: .any :: .any :: .any :: .any :: .any :: .any :: .any :: .any :: .any :: .any :: .any :: (B c) :: .any :: .any :: .any :: .any :: .any :: .any :: .any :: .any :: .any :: .any :: .any :: .any :: .any :: .any :: .any :: .any :: .any :: .any :: .any :: .any :: .any :: .any :: .any :: .any :: .any :: .any :: .any :: .any :: .any :: .any :: .any :: .any :: .any :: .any :: .any :: .any :: .any :: .any :: .any :: .any :: .any :: .any :: .any :: .any :: .any :: .any :: .any :: .any :: .any :: .any :: .any :: .any :: .any :: .any :: .any :: .any :: .any :: .any :: .any :: .any :: .any :: .any :: .any :: .any :: .any :: .any :: .any :: .any :: .any :: .any :: .any :: .any :: .any :: .any :: .any :: .any :: .any :: .any :: .any :: .any :: .any :: .any :: .any :: .any :: .any :: .any :: .any :: .any :: .any :: .any :: []), stH s s [], 0⟩
theorem eN (inp heap dfr out : List Rw) (pos wr g : Int) (a b : Rn) (rest : List Rn) (i k : Nat) (r : Rw) (hok : okSo ⟨inp, pos, heap, dfr, out, a :: b :: rest, i, k, 2, wr⟩) (h1 : b[k]? = some r) (hi : i ≤ a.length) (h2 : ∀ q, a[i]? = some q → ¬ leW q r) :
    AW Go.Proofs.Try.prog up (stQ ⟨inp, pos, heap, dfr, out, a :: b :: rest, i, k, 2, wr⟩ (xx ⟨inp, pos, heap, dfr, out, a :: b :: rest, i, k, 2, wr⟩ r) g []) (stT ⟨inp, pos, heap, dfr, out, a :: b :: rest, i, k, 2, wr⟩ ⟨inp, pos, heap, dfr, out, a :: b :: rest, i, k, 2, wr⟩ g []) := by
  have g4 := hok.out
  have g6 := hok.tot
  simp only [tot, List.map_cons, List.sum_cons] at g4 g6
  have hlt := (List.getElem?_eq_some_iff.1 h1).1
  have ew : IntKind.i64.wrap ((k : Int) + 1) = (k : Int) + 1 := by rw [IntKind.wrap_i64]; omega
  repeat' first | (refine wv 27 (T27 ⟨inp, pos, heap, dfr, out, a :: b :: rest, i, k, 2, wr⟩ g a.length b.length false) (xb ?_) ?_) | (refine wv 32 (T32 ⟨inp, pos, heap, dfr, out, a :: b :: rest, i, k, 2, wr⟩ g a.length b.length false) (xb ?_) ?_) | refine zL ?_ | refine zA ?_ | refine zQ [] ?_ | (refine isA ?_; refine zf rfl ?_) | (refine isL ?_; refine zV rfl (by kernel_rfl) rfl rfl ?_) | (refine zc rfl ?_; refine zU rfl (by kernel_rfl) rfl rfl ?_) | (refine yB (x := .tmp 138) ?_; refine za rfl (zo (j := 0) rfl rfl rfl (Nat.zero_le _) rfl rfl (by decide) (by simp; omega)) rfl ?_) | (refine yA (x := .tmp 138) rfl ?_; refine zT rfl (by kernel_rfl) rfl (zo (j := 0) rfl rfl rfl (Nat.zero_le _) rfl rfl (by decide) (by simp; omega)) rfl ?_) | (refine yB (x := .tmp 143) ?_; refine za rfl (zo (j := 1) rfl rfl rfl (Nat.zero_le _) rfl rfl (by decide) (by simp; omega)) rfl ?_) | (refine yA (x := .tmp 143) rfl ?_; refine zT rfl (by kernel_rfl) rfl (zo (j := 1) rfl rfl rfl (Nat.zero_le _) rfl rfl (by decide) (by simp; omega)) rfl ?_) | (refine tE (x := .tmp 14) ?_; refine za rfl (wM (vs := [I 0, I 0, I 0]) rfl rfl rfl rfl rfl (fun c hc => by simp at hc; subst hc; rfl) rfl rfl) rfl ?_) | (refine tD (x := .tmp 14) rfl ?_; refine zT rfl (by kernel_rfl) rfl (wM (vs := [I 0, I 0, I 0]) rfl rfl rfl rfl rfl (fun c hc => by simp at hc; subst hc; rfl) rfl rfl) rfl ?_) | refine zD ?_ | refine zB _ rfl (by kernel_rfl) ?_ | refine zW rfl ?_ | refine zX rfl ?_ | refine zC ?_ | with_reducible refine zO ?_ | refine zI ?_ | refine zJ ?_ | (with_reducible first | refine zM ?_ | refine zN ?_ | refine zF ?_ | refine zH ?_ | refine zG ?_) | refine zP ?_
  · refine wI ?_
    have hne : decide ((k : Int) = (b.length : Int)) = false := decide_eq_false (by omega)
    repeat' first | refine zL ?_ | refine zA ?_ | refine zQ [] ?_ | (refine isA ?_; refine zf rfl ?_) | (refine isL ?_; refine zV rfl (by kernel_rfl) rfl rfl ?_) | (refine zc rfl ?_; refine zU rfl (by kernel_rfl) rfl rfl ?_) | refine zD ?_ | refine zB _ rfl (by kernel_rfl) ?_ | refine zW rfl ?_ | refine zX rfl ?_ | refine zC ?_ | with_reducible refine zO ?_ | refine zI ?_ | refine zJ ?_ | (with_reducible first | refine zM ?_ | refine zN ?_ | refine zF ?_ | refine zH ?_ | refine zG ?_) | refine zP ?_
    refine yb rfl rfl (fun h => ?_) (fun h => ?_)
    · repeat' first | refine zL ?_ | refine zA ?_ | refine zQ [] ?_ | (refine isA ?_; refine zf rfl ?_) | (refine isL ?_; refine zV rfl (by kernel_rfl) rfl rfl ?_) | (refine zc rfl ?_; refine zU rfl (by kernel_rfl) rfl rfl ?_) | exact ⟨rfl, xl rfl (by repeat' first | exact EqS.nil | refine EqS.any ?_ | refine EqS.same rfl ?_ | refine EqS.same (congrArg B hne) ?_)⟩ | refine zD ?_ | refine zB _ rfl (by kernel_rfl) ?_ | refine zW rfl ?_ | refine zX rfl ?_ | refine zC ?_ | with_reducible refine zO ?_ | refine zI ?_ | refine zJ ?_ | (with_reducible first | refine zM ?_ | refine zN ?_ | refine zF ?_ | refine zH ?_ | refine zG ?_) | refine zP ?_
    · repeat' first | refine zL ?_ | refine zA ?_ | refine zQ [] ?_ | (refine isA ?_; refine zf rfl ?_) | (refine isL ?_; refine zV rfl (by kernel_rfl) rfl rfl ?_) | (refine zc rfl ?_; refine zU rfl (by kernel_rfl) rfl rfl ?_) | exact ⟨rfl, xl rfl (by repeat' first | exact EqS.nil | refine EqS.any ?_ | refine EqS.same rfl ?_)⟩ | refine zD ?_ | refine zB _ rfl (by kernel_rfl) ?_ | refine zW rfl ?_ | refine zX rfl ?_ | refine zC ?_ | with_reducible refine zO ?_ | refine zI ?_ | refine zJ ?_ | (with_reducible first | refine zM ?_ | refine zN ?_ | refine zF ?_ | refine zH ?_ | refine zG ?_) | refine zP ?_
  · refine wI ?_
    repeat' first | refine zL ?_ | refine zA ?_ | refine zQ [] ?_ | (refine isA ?_; refine zf rfl ?_) | (refine isL ?_; refine zV rfl (by kernel_rfl) rfl rfl ?_) | (refine zc rfl ?_; refine zU rfl (by kernel_rfl) rfl rfl ?_) | refine zD ?_ | refine zB _ rfl (by kernel_rfl) ?_ | refine zW rfl ?_ | refine zX rfl ?_ | refine zC ?_ | with_reducible refine zO ?_ | refine zI ?_ | refine zJ ?_ | (with_reducible first | refine zM ?_ | refine zN ?_ | refine zF ?_ | refine zH ?_ | refine zG ?_) | refine zP ?_
    refine yK rfl rfl rfl rfl (fun h => absurd (of_decide_eq_true h) (by simp only; omega)) (fun _ => ?_)
    repeat' first | refine zL ?_ | refine zA ?_ | refine zQ [] ?_ | (refine isA ?_; refine zf rfl ?_) | (refine isL ?_; refine zV rfl (by kernel_rfl) rfl rfl ?_) | (refine zc rfl ?_; refine zU rfl (by kernel_rfl) rfl rfl ?_) | refine zD ?_ | refine zB _ rfl (by kernel_rfl) ?_ | refine zW rfl ?_ | refine zX rfl ?_ | refine zC ?_ | with_reducible refine zO ?_ | refine zI ?_ | refine zJ ?_ | (with_reducible first | refine zM ?_ | refine zN ?_ | refine zF ?_ | refine zH ?_ | refine zG ?_) | refine zP ?_
    refine yK rfl rfl rfl rfl (fun h => ?_) (fun h => ?_)
    · have hil : i < a.length := by have := of_decide_eq_true h; simp only at this; omega
      obtain ⟨q, hq⟩ : ∃ z, a[i]? = some z := ⟨_, List.getElem?_eq_getElem hil⟩
      have hle : decide (yu q r ≤ 0) = false := decide_eq_false (h2 q hq)
      repeat' first | refine zL ?_ | refine zA ?_ | refine zQ [] ?_ | (refine isA ?_; refine zf rfl ?_) | (refine isL ?_; refine zV rfl (by kernel_rfl) rfl rfl ?_) | (refine zc rfl ?_; refine zU rfl (by kernel_rfl) rfl rfl ?_) | (refine yB (x := .tmp 178) ?_; refine za rfl (zo (j := (i : Int)) rfl rfl rfl (Nat.zero_le _) rfl rfl (Int.natCast_nonneg _) (by omega)) rfl ?_) | (refine yA (x := .tmp 178) rfl ?_; refine zT rfl (by kernel_rfl) rfl (zo (j := (i : Int)) rfl rfl rfl (Nat.zero_le _) rfl rfl (Int.natCast_nonneg _) (by omega)) rfl ?_) | (refine yB (x := .tmp 183) ?_; refine za rfl (zo (j := (k : Int)) rfl rfl rfl (Nat.zero_le _) rfl rfl (Int.natCast_nonneg _) (by omega)) rfl ?_) | (refine yA (x := .tmp 183) rfl ?_; refine zT rfl (by kernel_rfl) rfl (zo (j := (k : Int)) rfl rfl rfl (Nat.zero_le _) rfl rfl (Int.natCast_nonneg _) (by omega)) rfl ?_) | (refine xi (x := .tmp 181) ?_; refine za rfl (yv (T := rwT) (i := 0 + i) (z := q) rfl rfl rfl (by rw [Nat.zero_add]; exact hq)) rfl ?_) | (refine xh (x := .tmp 181) rfl ?_; refine zT rfl (by kernel_rfl) rfl (yv (T := rwT) (i := 0 + i) (z := q) rfl rfl rfl (by rw [Nat.zero_add]; exact hq)) rfl ?_) | (refine xi (x := .tmp 186) ?_; refine za rfl (yv (T := rwT) (i := 0 + k) (z := r) rfl rfl rfl (by rw [Nat.zero_add]; exact h1)) rfl ?_) | (refine xh (x := .tmp 186) rfl ?_; refine zT rfl (by kernel_rfl) rfl (yv (T := rwT) (i := 0 + k) (z := r) rfl rfl rfl (by rw [Nat.zero_add]; exact h1)) rfl ?_) | (refine zr 64 ?_; refine za rfl (zK rfl (xO q r) (.cons (.same rfl) (.cons (.same rfl) .nil)) rfl) rfl ?_) | (refine zq 64 rfl ?_; refine zT rfl (by kernel_rfl) rfl (zK rfl (xO q r) (.cons (.same rfl) (.cons (.same rfl) .nil)) rfl) rfl ?_) | exact ⟨rfl, xl rfl (by repeat' first | exact EqS.nil | refine EqS.any ?_ | refine EqS.same rfl ?_ | refine EqS.same (congrArg B hle) ?_)⟩ | refine zD ?_ | refine zB _ rfl (by kernel_rfl) ?_ | refine zW rfl ?_ | refine zX rfl ?_ | refine zC ?_ | with_reducible refine zO ?_ | refine zI ?_ | refine zJ ?_ | (with_reducible first | refine zM ?_ | refine zN ?_ | refine zF ?_ | refine zH ?_ | refine zG ?_) | refine zP ?_
    · repeat' first | refine zL ?_ | refine zA ?_ | refine zQ [] ?_ | (refine isA ?_; refine zf rfl ?_) | (refine isL ?_; refine zV rfl (by kernel_rfl) rfl rfl ?_) | (refine zc rfl ?_; refine zU rfl (by kernel_rfl) rfl rfl ?_) | exact ⟨rfl, xl rfl (by repeat' first | exact EqS.nil | refine EqS.any ?_ | refine EqS.same rfl ?_)⟩ | refine zD ?_ | refine zB _ rfl (by kernel_rfl) ?_ | refine zW rfl ?_ | refine zX rfl ?_ | refine zC ?_ | with_reducible refine zO ?_ | refine zI ?_ | refine zJ ?_ | (with_reducible first | refine zM ?_ | refine zN ?_ | refine zF ?_ | refine zH ?_ | refine zG ?_) | refine zP ?_
  · repeat' first | (refine isA ?_; refine za rfl (yh rfl rfl rfl rfl rfl) rfl ?_) | refine zL ?_ | refine zA ?_ | refine zQ [6] ?_ | (refine isA ?_; refine zf rfl ?_) | (refine isL ?_; refine zV rfl (by kernel_rfl) rfl rfl ?_) | (refine zc rfl ?_; refine zU rfl (by kernel_rfl) rfl rfl ?_) | (refine yB (x := .tmp 201) ?_; refine za rfl (zo (j := (k : Int)) rfl rfl rfl (Nat.zero_le _) rfl rfl (Int.natCast_nonneg _) (by omega)) rfl ?_) | (refine yA (x := .tmp 201) rfl ?_; refine zT rfl (by kernel_rfl) rfl (zo (j := (k : Int)) rfl rfl rfl (Nat.zero_le _) rfl rfl (Int.natCast_nonneg _) (by omega)) rfl ?_) | (refine xi (x := .tmp 204) ?_; refine za rfl (yv (T := rwT) (i := 0 + k) (z := r) rfl rfl rfl (by rw [Nat.zero_add]; exact h1)) rfl ?_) | (refine xh (x := .tmp 204) rfl ?_; refine zT rfl (by kernel_rfl) rfl (yv (T := rwT) (i := 0 + k) (z := r) rfl rfl rfl (by rw [Nat.zero_add]; exact h1)) rfl ?_) | (refine tE (x := .tmp 14) ?_; refine za rfl (wM rfl rfl rfl rfl rfl (wi r) rfl rfl) rfl ?_) | (refine tD (x := .tmp 14) rfl ?_; refine zT rfl (by kernel_rfl) rfl (wM rfl rfl rfl rfl rfl (wi r) rfl rfl) rfl ?_) | (refine xi (x := .tmp 14) ?_; refine za rfl (xc rfl rfl (zg rfl) rfl rfl) rfl ?_) | (refine xh (x := .tmp 14) rfl ?_; refine zT rfl (by kernel_rfl) rfl (xc rfl rfl (zg rfl) rfl rfl) rfl ?_) | (refine xi (x := .tmp 14) ?_; refine za rfl (xc rfl rfl (z7 (j := (nR rwT 78 (a :: b :: rest)).length) (zb (zg rfl))) rfl rfl) rfl ?_) | (refine xh (x := .tmp 14) rfl ?_; refine zT rfl (by kernel_rfl) rfl (xc rfl rfl (z7 (j := (nR rwT 78 (a :: b :: rest)).length) (zb (zg rfl))) rfl rfl) rfl ?_) | (refine xd ?_; refine za rfl (yX (t := rwT) (xs := out) (ys := [r]) rfl rfl rfl rfl (.lst _ _) (by simp; omega) rfl) rfl ?_) | (refine xH rfl ?_; refine zT rfl (by kernel_rfl) rfl (yX (t := rwT) (xs := out) (ys := [r]) rfl rfl rfl rfl (.lst _ _) (by simp; omega) rfl) rfl ?_) | (refine zr 58 ?_; refine za rfl (zK rfl (w7 r) (.cons (.same rfl) .nil) rfl) rfl ?_) | (refine zq 58 rfl ?_; refine zT rfl (by kernel_rfl) rfl (zK rfl (w7 r) (.cons (.same rfl) .nil) rfl) rfl ?_) | (refine isL ?_; refine wx rfl (by kernel_rfl) rfl rfl ?_) | refine zD ?_ | refine zB _ rfl (by kernel_rfl) ?_ | refine zW rfl ?_ | refine zX rfl ?_ | refine zC ?_ | with_reducible refine zO ?_ | refine zI ?_ | refine zJ ?_ | (with_reducible first | refine zM ?_ | refine zN ?_ | refine zF ?_ | refine zH ?_ | refine zG ?_) | refine zP ?_
    refine And.intro rfl (wW [0, 1, 2, 3, 4, 5, 6, (a :: b :: rest).length + 1 + 9, 8] (List.range' 9 (a :: b :: rest).length) rfl (by simp [xx]) (xI (by simp <;> omega) (fun h hh => by simp at hh; simp; omega)) (by repeat' first | exact HLes.nil | refine HLes.cons rfl rfl rfl rfl (zY (zE _ _)) ?_ | refine HLes.cons rfl rfl rfl rfl (z5 rfl) ?_ | refine HLes.cons rfl rfl rfl rfl (wB (fun j hj => wQ _ 9 _ j hj)) ?_ | refine HLes.cons (z7 (zg xG)) rfl rfl rfl (zY (zE _ _)) ?_ | refine HLes.cons (z7 (zg y7)) rfl rfl rfl (zY (zE _ _)) ?_ | refine HLes.cons (z7 (zg y6)) rfl rfl rfl (zY (zE _ _)) ?_ | refine HLes.cons (z7 (zg xD)) rfl rfl rfl (zY (zE _ _)) ?_ | refine HLes.cons (z7 (zb (zg xG))) rfl rfl rfl (zY (zE _ _)) ?_ | refine HLes.cons (z7 (zb (zg y7))) rfl rfl rfl (zY (zE _ _)) ?_ | refine HLes.cons (z7 (zb (zg y6))) rfl rfl rfl (zY (zE _ _)) ?_ | refine HLes.cons (z7 (zb (zg xD))) rfl rfl rfl (zY (zE _ _)) ?_ | refine HLes.cons (z7 (zb (zb (zg xG)))) rfl rfl rfl (zY (zE _ _)) ?_ | refine HLes.cons (z7 (zb (zb (zg y7)))) rfl rfl rfl (zY (zE _ _)) ?_ | refine HLes.cons (z7 (zb (zb (zg y6)))) rfl rfl rfl (zY (zE _ _)) ?_ | refine HLes.cons (z7 (zb (zb (zg xD)))) rfl rfl rfl (zY (zE _ _)) ?_ | refine HLes.cons rfl rfl rfl rfl (by repeat' first | exact zj | refine zZ ?_ ?_ | exact zp | exact le_refl rfl | exact zm rfl rfl | exact zu rfl | exact zu (congrArg some (by simp [zn] <;> omega)) | exact zm rfl (by simp) | exact zm (congrArg some (by simp [zn] <;> omega)) rfl | exact zm (congrArg some (by simp [zn] <;> omega)) (by simp [yf, xk, yG]) | exact yC (congrArg _ (by assumption)) | exact yC (congrArg _ (Eq.symm (by assumption)))) ?_) (fun j i x hi hx => by rw [ix9 hi]; exact uG (zb (zb (xQ hx)))) (by repeat' first | exact zj | refine zZ ?_ ?_ | exact zp | exact le_refl rfl | exact zm rfl rfl | exact zu rfl | exact zu (congrArg some (by simp [zn] <;> omega)) | exact zm rfl (by simp) | exact zm (congrArg some (by simp [zn] <;> omega)) rfl | exact zm (congrArg some (by simp [zn] <;> omega)) (by simp [yf, xk, yG]) | exact yC (congrArg _ (by assumption)) | exact yC (congrArg _ (Eq.symm (by assumption)))))
end Go.Proofs.Ytojcojanokhnaaa.Ab
namespace Go.Proofs.Ytojcojanokhnaaa.Ab
open Go.RowKit
abbrev ny (b : Nat) (s : So) (o : Nat) : List V := [.sl b 0 s.input.length, I s.pos, .sl (b + 1) 0 s.heap.length, .sl (b + 2) 0 s.dfr.length, .sl (b + 3) 0 s.out.length, .sl (b + 4) o s.runs.length, I s.lp, I s.rp, I s.ph, I s.wr]
abbrev nx (b : Nat) (s : So) (o : Nat) : List Reg := rwR s.input :: rwR s.heap :: rwR s.dfr :: rwR s.out :: ⟨84, 1, List.replicate o .any ++ nC (b + 5) s.runs, 0⟩ :: nR rwT 78 s.runs
abbrev dm (s t : So) (r : List Rw) (o : Nat) : List Reg := bxS (soE s) :: bxS zS :: bxS (ny 4 t o) :: rwR r :: nx 4 t o
abbrev stTX (s t : So) (g : Int) (r : List Rw) (o : Nat) : St := ⟨stL s g r.length, dm s t r o, 0⟩
def kw (s x : So) (g : Int) (r : List Rw) : Exit → St → Prop := fun e S' => e = .normal ∧ ∃ o, (o = 0 ∨ o = 2) ∧ Sub (stTX s x g r o) S'
theorem sq {ψ : List Nat} {cs ds : List V} : ∀ {n : Nat} {pre : List V}, pre.length = n → Les ψ cs ds → Les ψ (List.replicate n V.any ++ cs) (pre ++ ds)
  | 0, pre, hp, h => by rw [List.eq_nil_of_length_eq_zero hp]; exact h
  | n + 1, [], hp, h => by simp at hp
  | n + 1, p :: pre, hp, h => zZ zp (sq (by simpa using hp) h)
theorem fe {s t : So} {r : List Rw} {o : Nat} {l lT : List V} {H : List Reg} (hs ix : List Nat) (hl9 : hs.length = 9) (hl : ix.length = t.runs.length) (hn : (hs ++ ix).Nodup)
    (h1 : HLes (hs ++ ix) H hs [bxS (soE s), bxS zS, bxS (ny 4 t o), rwR r, rwR t.input, rwR t.heap, rwR t.dfr, rwR t.out, ⟨84, 1, List.replicate o .any ++ nC 9 t.runs, 0⟩]) (h2 : ∀ (j i : Nat) (x : Rn), ix[j]? = some i → t.runs[j]? = some x → H[i]? = some (rwR x))
    (ht : Les (hs ++ ix) lT l) : Sub ⟨lT, dm s t r o, 0⟩ ⟨l, H, 0⟩ := by
  have := qZ hl hn h1 h2
  exact sP (T := ⟨lT, dm s t r o, 0⟩) (S := ⟨l, H, 0⟩) (hs ++ ix) rfl (fun i hi => absurd hi (Nat.not_lt_zero _)) this ht
theorem kF {ψ hs : List Nat} {rs : List Rn} {z : Rn} {k b : Nat} (hψ : ψ = hs ++ (List.range' b rs.length ++ [k])) (h9 : hs.length = 9) : Les ψ (nC 9 (rs ++ [z])) (nC b rs ++ [.sl k 0 z.length]) := by
  have e : nC b rs ++ [.sl k 0 z.length] = nX (List.range' b rs.length ++ [k]) (rs ++ [z]) := by
    rw [jP (by simp), jQ]; rfl
  rw [e]
  refine mE (by simp) fun j hj => ?_
  rw [hψ, ← h9, jL]
theorem ixB {b n j i : Nat} (h : (List.range' b n)[j]? = some i) : i = b + j := by
  rw [List.getElem?_range'] at h
  · have := Option.some.inj h; omega
  · exact Nat.lt_of_not_le fun hn => by rw [List.getElem?_eq_none (by simpa using hn)] at h; cases h
theorem n7 {H : List Reg} {rs : List Rn} {z : Rn} {k b : Nat} (hR : ∀ j x, rs[j]? = some x → H[b + j]? = some (rwR x)) (hz : H[k]? = some (rwR z)) : ∀ (j i : Nat) (x : Rn), (List.range' b rs.length ++ [k])[j]? = some i → (rs ++ [z])[j]? = some x → H[i]? = some (rwR x) := fun j i x hi hx => by
  rcases Nat.lt_or_ge j rs.length with h | h
  · rw [List.getElem?_append_left (by simpa using h)] at hi
    rw [List.getElem?_append_left h] at hx
    rw [ixB hi]
    exact hR j x hx
  · rw [List.getElem?_append_right h] at hx
    rw [List.getElem?_append_right (by simpa using h), List.length_range'] at hi
    cases hj : j - rs.length with
    | zero =>
      rw [hj] at hi hx
      cases hi
      cases hx
      exact hz
    | succ q =>
      rw [hj] at hx
      simp at hx
theorem nD {hs : List Nat} {n k b : Nat} (h1 : (k :: hs).Nodup) (h2 : ∀ h ∈ k :: hs, h < b ∨ b + n ≤ h) : (hs ++ (List.range' b n ++ [k])).Nodup := by
  rw [List.nodup_cons] at h1
  rw [List.nodup_append]
  refine ⟨h1.2, ?_, fun x hx y hy => ?_⟩
  · rw [List.nodup_append]
    refine ⟨List.nodup_range', by simp, fun x hx y hy => ?_⟩
    rw [List.mem_range'_1] at hx
    simp at hy
    have := h2 k (by simp)
    omega
  · rw [List.mem_append, List.mem_range'_1, List.mem_singleton] at hy
    have := h2 x (by simp [hx])
    rcases hy with hy | hy
    · omega
    · rintro rfl
      subst hy
      exact h1.1 hx
theorem fA (inp heap dfr out : List Rw) (pos wr g : Int) (a b : Rn) (rest : List Rn) (hok : okSo ⟨inp, pos, heap, dfr, out, a :: b :: rest, a.length, b.length, 2, wr⟩) :
    AW Go.Proofs.Try.prog up (kw ⟨inp, pos, heap, dfr, out, a :: b :: rest, a.length, b.length, 2, wr⟩ ⟨inp, pos, heap, dfr, [], rest ++ [out], 0, 0, cond (decide (rest.length + 1 = 0)) 4 (cond (decide (rest.length + 1 = 1)) 3 2), wr⟩ g []) (stT ⟨inp, pos, heap, dfr, out, a :: b :: rest, a.length, b.length, 2, wr⟩ ⟨inp, pos, heap, dfr, out, a :: b :: rest, a.length, b.length, 2, wr⟩ g []) := by
  have g5 := hok.runs
  simp only [List.length_cons] at g5
  have ae := kM (bxS (soE ⟨inp, pos, heap, dfr, out, a :: b :: rest, a.length, b.length, 2, wr⟩)) (bxS zS) (rwR []) (rwR inp) (rwR heap) (rwR dfr) (.sl 4 0 inp.length) (I pos) (.sl 5 0 heap.length) (.sl 6 0 dfr.length) (I a.length) (I b.length) (I 2) (I wr) out (nC 9 (a :: b :: rest)) 2 rest.length (by simp [xM]; omega) (nR rwT 78 (a :: b :: rest)) (by simp [xM]; omega)
  repeat' first | (refine wv 27 (T27 ⟨inp, pos, heap, dfr, out, a :: b :: rest, a.length, b.length, 2, wr⟩ g a.length b.length true) (xb ?_) ?_) | refine zL ?_ | refine zA ?_ | refine zQ [] ?_ | (refine isA ?_; refine zf rfl ?_) | (refine isL ?_; refine zV rfl (by kernel_rfl) rfl rfl ?_) | (refine zc rfl ?_; refine zU rfl (by kernel_rfl) rfl rfl ?_) | (refine yB (x := .tmp 138) ?_; refine za rfl (zo (j := 0) rfl rfl rfl (Nat.zero_le _) rfl rfl (by decide) (by simp; omega)) rfl ?_) | (refine yA (x := .tmp 138) rfl ?_; refine zT rfl (by kernel_rfl) rfl (zo (j := 0) rfl rfl rfl (Nat.zero_le _) rfl rfl (by decide) (by simp; omega)) rfl ?_) | (refine yB (x := .tmp 143) ?_; refine za rfl (zo (j := 1) rfl rfl rfl (Nat.zero_le _) rfl rfl (by decide) (by simp; omega)) rfl ?_) | (refine yA (x := .tmp 143) rfl ?_; refine zT rfl (by kernel_rfl) rfl (zo (j := 1) rfl rfl rfl (Nat.zero_le _) rfl rfl (by decide) (by simp; omega)) rfl ?_) | (refine uF ?_; refine za rfl (yq (l := (2 : Int)) (h := ((a :: b :: rest).length : Int)) rfl rfl rfl (Nat.zero_le _) rfl (.yes _ rfl) (.no _) (by decide) (by simp; omega) (by simp)) rfl ?_) | (refine uE rfl ?_; refine zT rfl (by kernel_rfl) rfl (yq (l := (2 : Int)) (h := ((a :: b :: rest).length : Int)) rfl rfl rfl (Nat.zero_le _) rfl (.yes _ rfl) (.no _) (by decide) (by simp; omega) (by simp)) rfl ?_) | refine zD ?_ | refine zB _ rfl (by kernel_rfl) ?_ | refine zW rfl ?_ | refine zX rfl ?_ | refine zC ?_ | with_reducible refine zO ?_ | refine zI ?_ | refine zJ ?_ | (with_reducible first | refine zM ?_ | refine zN ?_ | refine zF ?_ | refine zH ?_ | refine zG ?_) | refine zP ?_
  · refine wI ?_
    have hne : decide ((b.length : Int) = (b.length : Int)) = true := by simp
    repeat' first | refine zL ?_ | refine zA ?_ | refine zQ [] ?_ | (refine isA ?_; refine zf rfl ?_) | (refine isL ?_; refine zV rfl (by kernel_rfl) rfl rfl ?_) | (refine zc rfl ?_; refine zU rfl (by kernel_rfl) rfl rfl ?_) | refine zD ?_ | refine zB _ rfl (by kernel_rfl) ?_ | refine zW rfl ?_ | refine zX rfl ?_ | refine zC ?_ | with_reducible refine zO ?_ | refine zI ?_ | refine zJ ?_ | (with_reducible first | refine zM ?_ | refine zN ?_ | refine zF ?_ | refine zH ?_ | refine zG ?_) | refine zP ?_
    refine yb rfl rfl (fun _ => ?_) (fun h => absurd (of_decide_eq_false h) (by simp))
    repeat' first | refine zL ?_ | refine zA ?_ | refine zQ [] ?_ | (refine isA ?_; refine zf rfl ?_) | (refine isL ?_; refine zV rfl (by kernel_rfl) rfl rfl ?_) | (refine zc rfl ?_; refine zU rfl (by kernel_rfl) rfl rfl ?_) | exact ⟨rfl, xl rfl (by repeat' first | exact EqS.nil | refine EqS.any ?_ | refine EqS.same rfl ?_ | refine EqS.same (congrArg B hne) ?_)⟩ | refine zD ?_ | refine zB _ rfl (by kernel_rfl) ?_ | refine zW rfl ?_ | refine zX rfl ?_ | refine zC ?_ | with_reducible refine zO ?_ | refine zI ?_ | refine zJ ?_ | (with_reducible first | refine zM ?_ | refine zN ?_ | refine zF ?_ | refine zH ?_ | refine zG ?_) | refine zP ?_
  · refine do_X rfl (pt rfl ae rfl) (fun v H' hq => ?_)
    obtain ⟨o', pre, p1, p2, rfl, rfl⟩ := hq
    refine ⟨_, _, rfl, ?_⟩
    repeat' first | refine zL ?_ | refine zA ?_ | refine zQ [] ?_ | (refine isA ?_; refine zf rfl ?_) | (refine isL ?_; refine zV rfl (by kernel_rfl) rfl rfl ?_) | (refine zc rfl ?_; refine zU rfl (by kernel_rfl) rfl rfl ?_) | (refine zr 63 ?_; refine za rfl (yN rfl (s5 _ _ _ _ _ _ _ _ _ _ _ _ _ _ _) rfl) rfl ?_) | (refine zq 63 rfl ?_; refine zT rfl (by kernel_rfl) rfl (yN rfl (s5 _ _ _ _ _ _ _ _ _ _ _ _ _ _ _) rfl) rfl ?_) | refine zD ?_ | refine zB _ rfl (by kernel_rfl) ?_ | refine zW rfl ?_ | refine zX rfl ?_ | refine zC ?_ | with_reducible refine zO ?_ | refine zI ?_ | refine zJ ?_ | (with_reducible first | refine zM ?_ | refine zN ?_ | refine zF ?_ | refine zH ?_ | refine zG ?_) | refine zP ?_
    refine ⟨rfl, o', p2.symm, Sub.trans ?_ (vi (l' := _) 78 3 (.rest _) (.cons (.rest _) (.cons (.rest _) (.cons (.cons (.same _) (.cons (.same _) (.cons (.same _) (.cons (.same _) (.cons .nil (.rest _)))))) (.rest _)))))⟩
    refine fe [0, 1, 2, 3, 4, 5, 6, (a :: b :: rest).length + 2 + 9, (a :: b :: rest).length + 1 + 9] (List.range' 11 rest.length ++ [7]) rfl (by simp) (nD (by simp <;> omega) (fun h hh => by simp at hh; omega)) ?_ (n7 (fun j x hx => by rw [show 11 + j = (2 + j) + 9 by omega]; exact z7 (zb (zb (zb (xQ (by rw [Nat.add_comm]; exact hx)))))) rfl) (by repeat' first | exact zj | refine zZ ?_ ?_ | exact zp | exact le_refl rfl | exact zm rfl rfl | exact zu rfl | exact zu (congrArg some (by simp [zn] <;> omega)) | exact zm rfl (by simp) | exact zm (congrArg some (by simp [zn] <;> omega)) rfl | exact zm (congrArg some (by simp [zn] <;> omega)) (by simp [yf, xk, yG]) | exact yC (congrArg _ (by assumption)) | exact yC (congrArg _ (Eq.symm (by assumption))))
    refine .cons rfl rfl rfl rfl (z5 rfl) (.cons rfl rfl rfl rfl (z5 rfl) (.cons rfl rfl rfl rfl ?_ (.cons rfl rfl rfl rfl (zY (zE _ _)) (.cons rfl rfl rfl rfl (zY (zE _ _)) (.cons rfl rfl rfl rfl (zY (zE _ _)) (.cons rfl rfl rfl rfl (zY (zE _ _)) (.cons (z7 (zg y6)) rfl rfl rfl (zY (zE _ _)) (.cons (z7 (zb (zg y7))) rfl rfl rfl (by rw [List.append_assoc]; exact sq p1 (kF rfl rfl)) .nil))))))))
    exact (by repeat' first | exact zj | refine zZ ?_ ?_ | exact zp | exact le_refl rfl | exact zm rfl rfl | exact zu rfl | exact zu (congrArg some (by simp [zn] <;> omega)) | exact zm rfl (by simp) | exact zm (congrArg some (by simp [zn] <;> omega)) rfl | exact zm (congrArg some (by simp [zn] <;> omega)) (by simp [yf, xk, yG]) | exact yC (congrArg _ (by assumption)) | exact yC (congrArg _ (Eq.symm (by assumption))))
end Go.Proofs.Ytojcojanokhnaaa.Ab
namespace Go.Proofs.Ytojcojanokhnaaa.Ab
open Go.RowKit
theorem mP {P : Program} (id : Nat) {ops : Array Oper} {b : Bool} {c y : Code} {Q : Exit → St → Prop} {S : St} (T0 : St) (T : Nat → St) (p : Nat → Prop) (hs : Sub T0 S) (h : AW P (.seq (.region id ops b) c) (fun e S' => e = .normal ∧ ∃ o, p o ∧ Sub (T o) S') T0) (k : ∀ o, p o → AW P y Q (T o)) : AW P (.seq (.seq (.region id ops b) c) y) Q S :=
  ut hs (zL ⟨fun C φ a w hI => wp_mono (h.out C φ a w hI) fun e a' w' hq => by
    obtain ⟨S', φ1, hI', he, o, hp, hs⟩ := hq
    subst he
    obtain ⟨φ2, h2⟩ := hs C φ1 a' w' hI'
    exact ⟨T o, φ2, h2, k o hp⟩⟩)
theorem jd {l : List V} {H : List Reg} {al : Bool} {t : Tmp} {us : List Tmp} {n : Nat} {v r : V} {K : List Reg} {post : V → List Reg → Prop} (ψ : List Nat) (hp : post r K) (hv : CellIs l H t n v) (hr : Le ψ r (.tup (v :: us.map fun u => (l[u]?).getD .any))) (hH : HLe ψ K H) (hal : al = true ∨ (tJ r = true ∧ ∀ q ∈ K, q.mode ≠ 1 ∧ (q.mode = 0 → vw q.cells))) :
    (Exit.ret = .ret ∨ Exit.ret = .normal) ∧ ∃ v, CellIs l H t n v ∧ ∃ r K, post r K ∧ Out al r K (.tup (v :: us.map fun u => (l[u]?).getD .any)) ⟨l, H, 0⟩ := ⟨Or.inl rfl, v, hv, r, K, hp, t9 (S := ⟨l, H, 0⟩) ψ (fun i hi => absurd hi (Nat.not_lt_zero _)) hH hr hal⟩
theorem lz (b : Nat) (s : So) (o : Nat) : ∀ q ∈ nx b s o, q.mode ≠ 1 ∧ (q.mode = 0 → vw q.cells) := fun q hq => by
  rcases List.mem_cons.1 hq with rfl | hq
  · exact xW _
  rcases List.mem_cons.1 hq with rfl | hq
  · exact xW _
  rcases List.mem_cons.1 hq with rfl | hq
  · exact xW _
  rcases List.mem_cons.1 hq with rfl | hq
  · exact xW _
  rcases List.mem_cons.1 hq with rfl | hq
  · refine ⟨Nat.zero_ne_one, fun _ c hc => ?_⟩
    rcases List.mem_append.1 hc with hc | hc
    · rw [List.mem_replicate] at hc
      rw [hc.2]
    · exact tA _ _ c hc
  · obtain ⟨x, hx, rfl⟩ := List.mem_map.1 hq
    exact xW _
def e8 (x : So) (r : List Rw) : V → List Reg → Prop := fun v K => ∃ o, (o = 0 ∨ o = 2) ∧ v = .tup [.agg (ny 1 x o), .sl 0 0 r.length, B true] ∧ K = rwR r :: nx 1 x o
theorem fC (s x : So) (g : Int) (r : List Rw) (hok : okSo s) (hv : vS s = true) (h1 : inV g 8 60 = true) (hp : s.ph ≠ 4) (h : AW Go.Proofs.Try.prog up (kw s x g r) (stT s s g [])) : vq Go.Proofs.Try.prog 13 [.agg (soE s), I g] [] (e8 x r) false := by
  have hfl : ∀ o, ∀ q ∈ rwR r :: nx 1 x o, q.mode ≠ 1 ∧ (q.mode = 0 → vw q.cells) := fun o q hq => by
    rcases List.mem_cons.1 hq with rfl | hq
    · exact xW _
    · exact lz _ _ _ q hq
  have a1 := c_ivS s hok
  rw [hv] at a1
  have a2 := qe g
  rw [h1] at a2
  refine nG 4 27 [5, 6] Go.Proofs.Try.func13 rfl rfl rfl ?_
  simp only [Go.Proofs.Try.ntmps13, List.length_cons, List.length_nil, Nat.reduceAdd, Nat.reduceSub, List.replicate_succ, List.replicate_zero, List.cons_append, List.nil_append]
  repeat' first | (refine mP 5 (stT s s g []) (fun o => stTX s x g r o) (fun o => o = 0 ∨ o = 2) (xb ?_) (xb ?_) (fun o ho => xb ?_)) | (exact absurd (of_decide_eq_true ‹decide (s.ph = 4) = true›) hp) | refine zL ?_ | refine zA ?_ | refine zQ [] ?_ | (refine isA ?_; refine zf rfl ?_) | (refine isL ?_; refine zV rfl (by kernel_rfl) rfl rfl ?_) | (refine zc rfl ?_; refine zU rfl (by kernel_rfl) rfl rfl ?_) | (refine zr 56 ?_; refine za rfl (yO (r' := .agg (soO 2 s)) (H' := bxS (soE s) :: bxS zS :: soR 2 s) rfl (ni s hok) (.cons (.same rfl) .nil) (jB 0 2 s) (by rw [k9]; rfl)) rfl ?_) | (refine zq 56 rfl ?_; refine zT rfl (by kernel_rfl) rfl (yO (r' := .agg (soO 2 s)) (H' := bxS (soE s) :: bxS zS :: soR 2 s) rfl (ni s hok) (.cons (.same rfl) .nil) (jB 0 2 s) (by rw [k9]; rfl)) rfl ?_) | (refine tE (x := .tmp 7) ?_; refine za rfl (wC (vs := soO 2 s) rfl rfl rfl rfl (fun c hc => by simp at hc; rcases hc with rfl | rfl | rfl | rfl | rfl | rfl | rfl | rfl | rfl | rfl <;> rfl) (zg rfl) rfl (Nat.le_refl _)) rfl ?_) | (refine tD (x := .tmp 7) rfl ?_; refine zT rfl (by kernel_rfl) rfl (wC (vs := soO 2 s) rfl rfl rfl rfl (fun c hc => by simp at hc; rcases hc with rfl | rfl | rfl | rfl | rfl | rfl | rfl | rfl | rfl | rfl <;> rfl) (zg rfl) rfl (Nat.le_refl _)) rfl ?_) | (refine zr 17 ?_; refine za rfl (zK rfl a1 (.cons (.same rfl) .nil) rfl) rfl ?_) | (refine zq 17 rfl ?_; refine zT rfl (by kernel_rfl) rfl (zK rfl a1 (.cons (.same rfl) .nil) rfl) rfl ?_) | (refine zr 57 ?_; refine za rfl (zK rfl a2 (.cons (.same rfl) .nil) rfl) rfl ?_) | (refine zq 57 rfl ?_; refine zT rfl (by kernel_rfl) rfl (zK rfl a2 (.cons (.same rfl) .nil) rfl) rfl ?_) | refine zD ?_ | refine zB _ rfl (by kernel_rfl) ?_ | refine zW rfl ?_ | refine zX rfl ?_ | refine zC ?_ | with_reducible refine zO ?_ | refine zI ?_ | refine zJ ?_ | (with_reducible first | refine zM ?_ | refine zN ?_ | refine zF ?_ | refine zH ?_ | refine zG ?_) | refine zP ?_ | refine zh rfl (fun hbr => ?_) (fun hbr => ?_)
  · refine wI ?_
    rw [sf rfl]
    have kl : (bxS (soE s) :: bxS zS :: soR 2 s).length = s.runs.length + 7 := by simp [zn]
    refine wW [0, 1, s.runs.length + 7, s.runs.length + 8, 2, 3, 4, 5, 6] (List.range' 7 s.runs.length) rfl (by simp) (xI (by simp <;> omega) (fun h hh => by simp at hh; omega)) ?_ (fun j i x hi hx => by rw [ix7 hi]; exact zb (zb (get7 (xQ hx)))) (by repeat' first | exact zj | refine zZ ?_ ?_ | exact zp | exact le_refl rfl | exact zm rfl rfl | exact zu rfl | exact zu (congrArg some (by simp [zn] <;> omega)) | exact zm rfl (by simp) | exact zm (congrArg some (by simp [zn] <;> omega)) rfl | exact zm (congrArg some (by simp [zn] <;> omega)) (by simp [yf, xk, yG]) | exact yC (congrArg _ (by assumption)) | exact yC (congrArg _ (Eq.symm (by assumption))))
    refine .cons rfl rfl rfl rfl (z5 rfl) (.cons rfl rfl rfl rfl (z5 rfl) (.cons (zb (zg kl)) rfl rfl rfl ?_ (.cons (zg (by rw [List.length_append, kl]; rfl)) rfl rfl rfl zj (.cons rfl rfl rfl rfl (zY (zE _ _)) (.cons rfl rfl rfl rfl (zY (zE _ _)) (.cons rfl rfl rfl rfl (zY (zE _ _)) (.cons rfl rfl rfl rfl (zY (zE _ _)) (.cons rfl rfl rfl rfl (wB fun j hj => wQ [0, 1, s.runs.length + 7, s.runs.length + 8, 2, 3, 4, 5, 6] 7 _ j hj) .nil))))))))
    exact (by repeat' first | exact zj | refine zZ ?_ ?_ | exact zp | exact le_refl rfl | exact zm rfl rfl | exact zu rfl | exact zu (congrArg some (by simp [zn] <;> omega)) | exact zm rfl (by simp) | exact zm (congrArg some (by simp [zn] <;> omega)) rfl | exact zm (congrArg some (by simp [zn] <;> omega)) (by simp [yf, xk, yG]) | exact yC (congrArg _ (by assumption)) | exact yC (congrArg _ (Eq.symm (by assumption))))
  · exact wI h
  · refine wI ?_
    repeat' first | refine zL ?_ | refine zA ?_ | refine zQ [] ?_ | (refine isA ?_; refine zf rfl ?_) | (refine isL ?_; refine zV rfl (by kernel_rfl) rfl rfl ?_) | (refine zc rfl ?_; refine zU rfl (by kernel_rfl) rfl rfl ?_) | refine zD ?_ | refine zB _ rfl (by kernel_rfl) ?_ | refine zW rfl ?_ | refine zX rfl ?_ | refine zC ?_ | with_reducible refine zO ?_ | refine zI ?_ | refine zJ ?_ | (with_reducible first | refine zM ?_ | refine zN ?_ | refine zF ?_ | refine zH ?_ | refine zG ?_) | refine zP ?_
    have hh : HLe ([3, 4, 5, 6, 7, 8] ++ List.range' 9 x.runs.length) (rwR r :: nx 1 x o) (bxS (soE s) :: bxS (ny 4 x o) :: bxS (ny 4 x o) :: rwR r :: nx 4 x o) := sx (T := rwT) (e := 78) (b := 9) (rs := x.runs) (H := bxS (soE s) :: bxS (ny 4 x o) :: bxS (ny 4 x o) :: rwR r :: nx 4 x o) (hs := [3, 4, 5, 6, 7, 8]) (K1 := [rwR r, rwR x.input, rwR x.heap, rwR x.dfr, rwR x.out, ⟨84, 1, List.replicate o V.any ++ nC 6 x.runs, 0⟩]) (xI (by decide) (fun h hh => by simp at hh; omega)) (.cons rfl rfl rfl rfl (zY (zE _ _)) (.cons rfl rfl rfl rfl (zY (zE _ _)) (.cons rfl rfl rfl rfl (zY (zE _ _)) (.cons rfl rfl rfl rfl (zY (zE _ _)) (.cons rfl rfl rfl rfl (zY (zE _ _)) (.cons rfl rfl rfl rfl (sq (pre := List.replicate o V.any) List.length_replicate (wB fun j hj => wQ [3, 4, 5, 6, 7, 8] 9 _ j hj)) .nil)))))) (fun j x hx => uG (xQ hx))
    exact jd (post := e8 x r) ([3, 4, 5, 6, 7, 8] ++ List.range' 9 x.runs.length) ⟨o, ho, rfl, rfl⟩ (yU rfl rfl rfl rfl rfl) (sr (zZ (su (by repeat' first | exact zj | refine zZ ?_ ?_ | exact zp | exact le_refl rfl | exact zm rfl rfl | exact zu rfl | exact zu (congrArg some (by simp [zn] <;> omega)) | exact zm rfl (by simp) | exact zm (congrArg some (by simp [zn] <;> omega)) rfl | exact zm (congrArg some (by simp [zn] <;> omega)) (by simp [yf, xk, yG]) | exact yC (congrArg _ (by assumption)) | exact yC (congrArg _ (Eq.symm (by assumption))))) (zZ (zm rfl rfl) (zZ (le_refl rfl) zj)))) hh (Or.inr ⟨rfl, hfl o⟩)
theorem fm {H : List Reg} {s : So} {h1 h2 h3 h4 h5 b o : Nat} (e1 : H[h1]? = some (rwR s.input)) (e2 : H[h2]? = some (rwR s.heap)) (e3 : H[h3]? = some (rwR s.dfr)) (e4 : H[h4]? = some (rwR s.out)) (e5 : H[h5]? = some ⟨84, 1, List.replicate o V.any ++ nC b s.runs, 0⟩) (e6 : ∀ j x, s.runs[j]? = some x → H[b + j]? = some (rwR x)) :
    Pur true H (.agg [.sl h1 0 s.input.length, I s.pos, .sl h2 0 s.heap.length, .sl h3 0 s.dfr.length, .sl h4 0 s.out.length, .sl h5 o s.runs.length, I s.lp, I s.rp, I s.ph, I s.wr]) (.agg (soE s)) := by
  have q := l7 (T := rwT) (h := h5) (b := b) (pre := List.replicate o V.any) (rs := s.runs) e5 e6
  rw [List.length_replicate] at q
  exact .agg (.cons (zk e1) (.cons (.same rfl) (.cons (zk e2) (.cons (zk e3) (.cons (zk e4) (.cons q (.cons (.same rfl) (.cons (.same rfl) (.cons (.same rfl) (.cons (.same rfl) .nil))))))))))
theorem fB (s x : So) (g : Int) (r : List Rw) (hok : okSo s) (hv : vS s = true) (h1 : inV g 8 60 = true) (hp : s.ph ≠ 4) (h : AW Go.Proofs.Try.prog up (kw s x g r) (stT s s g [])) : zy Go.Proofs.Try.prog 13 [.agg (soE s), I g] [] (.tup [.agg (soE x), rwL r, B true]) [] true :=
  (fC s x g r hok hv h1 hp h).frozen (fun v K hq => by
    obtain ⟨o, _, rfl, rfl⟩ := hq
    exact .tup (.cons (fm rfl rfl rfl rfl rfl fun j y hy => by rw [Nat.add_comm]; exact xQ hy) (.cons (zk rfl) (.cons (.same rfl) .nil))))
theorem mc {s x : So} {g : Int} {r : List Rw} (h : AW Go.Proofs.Try.prog up (stQ s x g r) (stT s s g [])) : AW Go.Proofs.Try.prog up (kw s x g r) (stT s s g []) :=
  h.mono fun e S' hq => ⟨hq.1, 0, Or.inl rfl, hq.2⟩
theorem cM (s x : So) (g : Int) (r : List Rw) (hok : okSo s) (hv : vS s = true) (h : StepV s g x r) : AW Go.Proofs.Try.prog up (kw s x g r) (stT s s g []) := by
  have hV := tS.1 hv
  cases hV with
  | read b q => exact mc (cN s x g r hok hv q.ph h)
  | @merge b t ph c d rest i j hr hi hj m =>
    obtain ⟨inp, pos, heap, dfr, out, runs, lp, rp, ph', wr⟩ := s
    simp only at ph hr hi hj m
    subst ph hr hi hj
    have m1 := m.ha
    have m2 := m.hb
    cases h with
    | put h1 => simp at h1
    | pop h1 => simp at h1
    | swap h1 => simp at h1
    | close h1 => simp at h1
    | emit h1 => simp at h1
    | @merged a' b' rest' h1 h2 h3 h4 =>
      simp only [List.cons.injEq] at h2
      obtain ⟨rfl, rfl, rfl⟩ := h2
      simp only at h3 h4
      obtain rfl : i = c.length := by omega
      obtain rfl : j = d.length := by omega
      have e : yG (w6 ⟨inp, pos, heap, dfr, out, c :: d :: rest, c.length, d.length, 2, wr⟩) = ⟨inp, pos, heap, dfr, [], rest ++ [out], 0, 0, cond (decide (rest.length + 1 = 0)) 4 (cond (decide (rest.length + 1 = 1)) 3 2), wr⟩ := by
        simp [yG, w6]
      rw [e]
      exact fA inp heap dfr out pos wr g c d rest hok
    | @left a' b' rest' q h1 h2 h3 h4 =>
      simp only [List.cons.injEq] at h2
      obtain ⟨rfl, rfl, rfl⟩ := h2
      simp only [Int.toNat_natCast] at h3 h4
      exact mc (cO inp heap dfr out pos wr g c d rest i j q hok h3 m2 h4)
    | @right a' b' rest' q h1 h2 h3 h4 =>
      simp only [List.cons.injEq] at h2
      obtain ⟨rfl, rfl, rfl⟩ := h2
      simp only [Int.toNat_natCast] at h3 h4
      exact mc (eN inp heap dfr out pos wr g c d rest i j q hok h3 m1 h4)
  | @emit b t ph c i hr hi hl hrp ho =>
    cases h with
    | put h1 => omega
    | pop h1 => omega
    | swap h1 => omega
    | close h1 => omega
    | merged h1 => omega
    | left h1 => omega
    | right h1 => omega
    | @emit a' q h1 h2 h3 =>
      rw [hr] at h2
      simp only [List.cons.injEq, and_true] at h2
      subst h2
      rw [hi, Int.toNat_natCast] at h3
      exact mc (cT s g c q i hok ph hr hi h3)
  | done b t ph =>
    cases h with
    | put h1 => omega
    | pop h1 => omega
    | swap h1 => omega
    | close h1 => omega
    | merged h1 => omega
    | left h1 => omega
    | right h1 => omega
    | emit h1 => omega
theorem kv {s x : So} {g : Int} {r : List Rw} (h : StepV s g x r) : s.ph ≠ 4 := by
  cases h <;> omega
theorem eO (s x : So) (g : Int) (r : List Rw) (hok : okSo s) (hv : vS s = true) (h1 : inV g 8 60 = true) (h : StepV s g x r) : zy Go.Proofs.Try.prog 13 [.agg (soE s), I g] [] (.tup [.agg (soE x), rwL r, B true]) [] true :=
  fB s x g r hok hv h1 (kv h) (cM s x g r hok hv h)
end Go.Proofs.Ytojcojanokhnaaa.Ab
namespace Go.Proofs.Ytojcojanokhnaaa.Ab
open Go.RowKit
abbrev gsL (gs : List Int) : V := xf yP gs
def gOk (g : Int) : Bool := inV g 8 60
def v3 (gs : List Int) : Bool := gs.all gOk && decide ((0 : Int) < gs.length)
theorem g_no {xs : List Int} {i : Nat} {z : Int} (hz : xs[i]? = some z) (h : gOk z = false) : xs.all gOk = false := by
  cases ha : xs.all gOk with
  | false => rfl
  | true => rw [List.all_eq_true] at ha; rw [ha z (List.mem_of_getElem? hz)] at h; cases h
theorem dT {xs : List Int} (h : ∀ j z, j < xs.length → xs[j]? = some z → gOk z = true) : xs.all gOk = true := by
  rw [List.all_eq_true]
  intro x hx
  obtain ⟨i, hi⟩ := List.getElem?_of_mem hx
  exact h i x (List.getElem?_eq_some_iff.1 hi).1 hi
theorem fG (gs : List Int) (hl : gs.length ≤ 1000000000) : zy Go.Proofs.Try.prog 94 [gsL gs] [] (B (v3 gs)) [] false := by
  refine zw [2] Go.Proofs.Try.func94 rfl rfl ?_
  simp only [Go.Proofs.Try.ntmps94, List.length_cons, List.length_nil, Nat.reduceAdd, Nat.reduceSub, List.replicate_succ, List.replicate_zero, List.cons_append, List.nil_append]
  repeat' first | refine zL ?_ | refine zA ?_ | refine zQ [] ?_ | (refine isA ?_; refine zf rfl ?_) | (refine isL ?_; refine zV rfl (by kernel_rfl) rfl rfl ?_) | (refine zc rfl ?_; refine zU rfl (by kernel_rfl) rfl rfl ?_) | refine zD ?_ | refine zB _ rfl (by kernel_rfl) ?_ | refine zW rfl ?_ | refine zX rfl ?_ | refine zC ?_ | with_reducible refine zO ?_ | refine zI ?_ | refine zJ ?_ | (with_reducible first | refine zM ?_ | refine zN ?_ | refine zF ?_ | refine zH ?_ | refine zG ?_) | refine zP ?_
  refine z9 (α := { i : Nat // i ≤ gs.length ∧ ∀ j z, j < i → gs[j]? = some z → gOk z = true }) (fun i => ⟨[gsL gs, .any, .any, .any, .any, gsL gs, I gs.length, I i.1, .any, .any, .any, .any, .any, .any, .any, .any, .any, .any], [], 0⟩) (fun i => gs.length - i.1) ⟨0, Nat.zero_le _, fun j z hj => absurd hj (Nat.not_lt_zero _)⟩ ?_ ?_
  · exact yW [] rfl rfl (by decide) .nil (by repeat' first | exact zj | refine zZ ?_ ?_ | exact zp | exact le_refl rfl | exact zm rfl rfl | exact zu rfl)
  · rintro ⟨i, hi, hb⟩
    repeat' first | refine zL ?_ | refine zA ?_ | refine zQ [] ?_ | (refine isA ?_; refine zf rfl ?_) | (refine isL ?_; refine zV rfl (by kernel_rfl) rfl rfl ?_) | (refine zc rfl ?_; refine zU rfl (by kernel_rfl) rfl rfl ?_) | refine zD ?_ | refine zB _ rfl (by kernel_rfl) ?_ | refine zW rfl ?_ | refine zX rfl ?_ | refine zC ?_ | with_reducible refine zO ?_ | refine zI ?_ | refine zJ ?_ | (with_reducible first | refine zM ?_ | refine zN ?_ | refine zF ?_ | refine zH ?_ | refine zG ?_) | refine zP ?_
    refine zh rfl (fun h => ?_) (fun h => ?_)
    · have hlt : i < gs.length := by simpa using h
      obtain ⟨z, hz⟩ : ∃ z, gs[i]? = some z := ⟨_, List.getElem?_eq_getElem hlt⟩
      have cg : zy Go.Proofs.Try.prog 57 [I z] [] (B (gOk z)) [] false := qe z
      repeat' first | refine zL ?_ | refine zA ?_ | refine zQ [] ?_ | (refine isA ?_; refine zf rfl ?_) | (refine isL ?_; refine zV rfl (by kernel_rfl) rfl rfl ?_) | (refine zc rfl ?_; refine zU rfl (by kernel_rfl) rfl rfl ?_) | (refine yB ?_; refine za rfl (zz (t := yP) (z := z) rfl rfl rfl rfl (Int.natCast_nonneg i) hz) rfl ?_) | (refine yA rfl ?_; refine zT rfl (by kernel_rfl) rfl (zz (t := yP) (z := z) rfl rfl rfl rfl (Int.natCast_nonneg i) hz) rfl ?_) | (refine zr 57 ?_; refine za rfl (zK rfl cg (.cons (.same rfl) .nil) rfl) rfl ?_) | (refine zq 57 rfl ?_; refine zT rfl (by kernel_rfl) rfl (zK rfl cg (.cons (.same rfl) .nil) rfl) rfl ?_) | refine zD ?_ | refine zB _ rfl (by kernel_rfl) ?_ | refine zW rfl ?_ | refine zX rfl ?_ | refine zC ?_ | with_reducible refine zO ?_ | refine zI ?_ | refine zJ ?_ | (with_reducible first | refine zM ?_ | refine zN ?_ | refine zF ?_ | refine zH ?_ | refine zG ?_) | refine zP ?_
      refine zh rfl (fun h1 => ?_) (fun h1 => ?_)
      · have h2 : gOk z = false := by simpa using h1
        repeat' first | refine zL ?_ | refine zA ?_ | refine zQ [] ?_ | (refine isA ?_; refine zf rfl ?_) | (refine isL ?_; refine zV rfl (by kernel_rfl) rfl rfl ?_) | (refine zc rfl ?_; refine zU rfl (by kernel_rfl) rfl rfl ?_) | exact yJ rfl rfl (by rw [v3, g_no hz h2]; rfl) | refine zD ?_ | refine zB _ rfl (by kernel_rfl) ?_ | refine zW rfl ?_ | refine zX rfl ?_ | refine zC ?_ | with_reducible refine zO ?_ | refine zI ?_ | refine zJ ?_ | (with_reducible first | refine zM ?_ | refine zN ?_ | refine zF ?_ | refine zH ?_ | refine zG ?_) | refine zP ?_
      · have h2 : gOk z = true := by simpa using h1
        repeat' first | refine zL ?_ | refine zA ?_ | refine zQ [] ?_ | (refine isA ?_; refine zf rfl ?_) | (refine isL ?_; refine zV rfl (by kernel_rfl) rfl rfl ?_) | (refine zc rfl ?_; refine zU rfl (by kernel_rfl) rfl rfl ?_) | refine zD ?_ | refine zB _ rfl (by kernel_rfl) ?_ | refine zW rfl ?_ | refine zX rfl ?_ | refine zC ?_ | with_reducible refine zO ?_ | refine zI ?_ | refine zJ ?_ | (with_reducible first | refine zM ?_ | refine zN ?_ | refine zF ?_ | refine zH ?_ | refine zG ?_) | refine zP ?_
        refine ⟨⟨i + 1, hlt, fun j w hj hw => ?_⟩, by simp only; omega, ?_⟩
        · rcases Nat.lt_or_ge j i with h | h
          · exact hb j w h hw
          · obtain rfl : j = i := by omega
            rw [hz] at hw
            simp only [Option.some.injEq] at hw
            rw [← hw]; exact h2
        · exact yW [] rfl rfl (by decide) .nil (by repeat' first | exact zj | refine zZ ?_ ?_ | exact zp | exact le_refl rfl | exact xL (by omega) (by omega))
    · have hge : i = gs.length := by
        have : ¬ ((i : Int) < gs.length) := by simpa using h
        omega
      subst hge
      repeat' first | refine zL ?_ | refine zA ?_ | refine zQ [] ?_ | (refine isA ?_; refine zf rfl ?_) | (refine isL ?_; refine zV rfl (by kernel_rfl) rfl rfl ?_) | (refine zc rfl ?_; refine zU rfl (by kernel_rfl) rfl rfl ?_) | exact yJ rfl rfl (by rw [v3, dT hb]; rfl) | refine zD ?_ | refine zB _ rfl (by kernel_rfl) ?_ | refine zW rfl ?_ | refine zX rfl ?_ | refine zC ?_ | with_reducible refine zO ?_ | refine zI ?_ | refine zJ ?_ | (with_reducible first | refine zM ?_ | refine zN ?_ | refine zF ?_ | refine zH ?_ | refine zG ?_) | refine zP ?_
theorem gz (gs : List Int) (hl : gs.length ≤ 1000000000) : zy Go.Proofs.Try.prog 98 [gsL gs] [] (B (v3 gs)) [] false := by
  refine zw [2] Go.Proofs.Try.func98 rfl rfl ?_
  simp only [Go.Proofs.Try.ntmps98, List.length_cons, List.length_nil, Nat.reduceAdd, Nat.reduceSub, List.replicate_succ, List.replicate_zero, List.cons_append, List.nil_append]
  repeat' first | refine zL ?_ | refine zA ?_ | refine zQ [] ?_ | (refine isA ?_; refine zf rfl ?_) | (refine isL ?_; refine zV rfl (by kernel_rfl) rfl rfl ?_) | (refine zc rfl ?_; refine zU rfl (by kernel_rfl) rfl rfl ?_) | refine zD ?_ | refine zB _ rfl (by kernel_rfl) ?_ | refine zW rfl ?_ | refine zX rfl ?_ | refine zC ?_ | with_reducible refine zO ?_ | refine zI ?_ | refine zJ ?_ | (with_reducible first | refine zM ?_ | refine zN ?_ | refine zF ?_ | refine zH ?_ | refine zG ?_) | refine zP ?_
  refine z9 (α := { i : Nat // i ≤ gs.length ∧ ∀ j z, j < i → gs[j]? = some z → gOk z = true }) (fun i => ⟨[gsL gs, .any, .any, I i.1, .any, .any, .any, .any, .any, .any, .any, .any, .any, .any, .any, .any, .any, .any, .any], [], 0⟩) (fun i => gs.length - i.1) ⟨0, Nat.zero_le _, fun j z hj => absurd hj (Nat.not_lt_zero _)⟩ ?_ ?_
  · exact yW [] rfl rfl (by decide) .nil (by repeat' first | exact zj | refine zZ ?_ ?_ | exact zp | exact le_refl rfl | exact zm rfl rfl | exact zu rfl)
  · rintro ⟨i, hi, hb⟩
    repeat' first | refine zL ?_ | refine zA ?_ | refine zQ [] ?_ | (refine isA ?_; refine zf rfl ?_) | (refine isL ?_; refine zV rfl (by kernel_rfl) rfl rfl ?_) | (refine zc rfl ?_; refine zU rfl (by kernel_rfl) rfl rfl ?_) | refine zD ?_ | refine zB _ rfl (by kernel_rfl) ?_ | refine zW rfl ?_ | refine zX rfl ?_ | refine zC ?_ | with_reducible refine zO ?_ | refine zI ?_ | refine zJ ?_ | (with_reducible first | refine zM ?_ | refine zN ?_ | refine zF ?_ | refine zH ?_ | refine zG ?_) | refine zP ?_
    refine zh rfl (fun h => ?_) (fun h => ?_)
    · have hlt : i < gs.length := by simpa using h
      obtain ⟨z, hz⟩ : ∃ z, gs[i]? = some z := ⟨_, List.getElem?_eq_getElem hlt⟩
      have cg : zy Go.Proofs.Try.prog 66 [I z, I 8, I 60] [] (B (gOk z)) [] false := uI z 8 60
      repeat' first | refine zL ?_ | refine zA ?_ | refine zQ [] ?_ | (refine isA ?_; refine zf rfl ?_) | (refine isL ?_; refine zV rfl (by kernel_rfl) rfl rfl ?_) | (refine zc rfl ?_; refine zU rfl (by kernel_rfl) rfl rfl ?_) | (refine yB ?_; refine za rfl (zz (t := yP) (z := z) rfl rfl rfl rfl (Int.natCast_nonneg i) hz) rfl ?_) | (refine yA rfl ?_; refine zT rfl (by kernel_rfl) rfl (zz (t := yP) (z := z) rfl rfl rfl rfl (Int.natCast_nonneg i) hz) rfl ?_) | (refine zr 66 ?_; refine za rfl (zK rfl cg (.cons (.same rfl) (.cons (.same rfl) (.cons (.same rfl) .nil))) rfl) rfl ?_) | (refine zq 66 rfl ?_; refine zT rfl (by kernel_rfl) rfl (zK rfl cg (.cons (.same rfl) (.cons (.same rfl) (.cons (.same rfl) .nil))) rfl) rfl ?_) | refine zD ?_ | refine zB _ rfl (by kernel_rfl) ?_ | refine zW rfl ?_ | refine zX rfl ?_ | refine zC ?_ | with_reducible refine zO ?_ | refine zI ?_ | refine zJ ?_ | (with_reducible first | refine zM ?_ | refine zN ?_ | refine zF ?_ | refine zH ?_ | refine zG ?_) | refine zP ?_
      refine zh rfl (fun h1 => ?_) (fun h1 => ?_)
      · have h2 : gOk z = false := by simpa using h1
        repeat' first | refine zL ?_ | refine zA ?_ | refine zQ [] ?_ | (refine isA ?_; refine zf rfl ?_) | (refine isL ?_; refine zV rfl (by kernel_rfl) rfl rfl ?_) | (refine zc rfl ?_; refine zU rfl (by kernel_rfl) rfl rfl ?_) | exact yJ rfl rfl (by rw [v3, g_no hz h2]; rfl) | refine zD ?_ | refine zB _ rfl (by kernel_rfl) ?_ | refine zW rfl ?_ | refine zX rfl ?_ | refine zC ?_ | with_reducible refine zO ?_ | refine zI ?_ | refine zJ ?_ | (with_reducible first | refine zM ?_ | refine zN ?_ | refine zF ?_ | refine zH ?_ | refine zG ?_) | refine zP ?_
      · have h2 : gOk z = true := by simpa using h1
        repeat' first | refine zL ?_ | refine zA ?_ | refine zQ [] ?_ | (refine isA ?_; refine zf rfl ?_) | (refine isL ?_; refine zV rfl (by kernel_rfl) rfl rfl ?_) | (refine zc rfl ?_; refine zU rfl (by kernel_rfl) rfl rfl ?_) | refine zD ?_ | refine zB _ rfl (by kernel_rfl) ?_ | refine zW rfl ?_ | refine zX rfl ?_ | refine zC ?_ | with_reducible refine zO ?_ | refine zI ?_ | refine zJ ?_ | (with_reducible first | refine zM ?_ | refine zN ?_ | refine zF ?_ | refine zH ?_ | refine zG ?_) | refine zP ?_
        refine ⟨⟨i + 1, hlt, fun j w hj hw => ?_⟩, by simp only; omega, ?_⟩
        · rcases Nat.lt_or_ge j i with h | h
          · exact hb j w h hw
          · obtain rfl : j = i := by omega
            rw [hz] at hw
            simp only [Option.some.injEq] at hw
            rw [← hw]; exact h2
        · exact yW [] rfl rfl (by decide) .nil (by repeat' first | exact zj | refine zZ ?_ ?_ | exact zp | exact le_refl rfl | exact xL (by omega) (by omega))
    · have hge : i = gs.length := by
        have : ¬ ((i : Int) < gs.length) := by simpa using h
        omega
      subst hge
      repeat' first | refine zL ?_ | refine zA ?_ | refine zQ [] ?_ | (refine isA ?_; refine zf rfl ?_) | (refine isL ?_; refine zV rfl (by kernel_rfl) rfl rfl ?_) | (refine zc rfl ?_; refine zU rfl (by kernel_rfl) rfl rfl ?_) | exact yJ rfl rfl (by rw [v3, dT hb]; rfl) | refine zD ?_ | refine zB _ rfl (by kernel_rfl) ?_ | refine zW rfl ?_ | refine zX rfl ?_ | refine zC ?_ | with_reducible refine zO ?_ | refine zI ?_ | refine zJ ?_ | (with_reducible first | refine zM ?_ | refine zN ?_ | refine zF ?_ | refine zH ?_ | refine zG ?_) | refine zP ?_
abbrev bxO (cs : List V) : Reg := ⟨40, 4, cs, 0⟩
abbrev zRs : List V := [ww, I 0, I 0, I 0]
abbrev roC (h n : Nat) (k pk w : Int) : List V := [.sl h 0 n, I k, I pk, I w]
abbrev deadW (xs : List Rw) : Reg := { rwR xs with mode := 2 }
theorem cU (s0 x : So) (r rows : List Rw) (k' k pk : Int) (hok : okSo x) (h1 : rows.length ≤ 1000000) (h2 : r.length ≤ 1000000) :
    zy Go.Proofs.Try.prog 96 [.agg (soE x), rwL r, I k', .ptr 2 0] [bxO zRs, bxS (soE s0), bxO (roC 3 rows.length k pk 0), rwR rows, bxS zS, bxS (soE x), bxS (soE x)] (B true)
      [bxO zRs, bxS (soE s0), bxO (roC 7 (rows ++ r).length k' (mxV pk (yj x)) 0), deadW rows, bxS zS, bxS (soE x), bxS (soE x), rwR (rows ++ r)] true := by
  have m1 := s8 x hok
  refine zw [7] Go.Proofs.Try.func96 rfl rfl ?_
  simp only [Go.Proofs.Try.ntmps96, List.length_cons, List.length_nil, Nat.reduceAdd, Nat.reduceSub, List.replicate_succ, List.replicate_zero, List.cons_append, List.nil_append]
  repeat' first | refine zL ?_ | refine zA ?_ | refine zQ [6] ?_ | (refine isA ?_; refine zf rfl ?_) | (refine isL ?_; refine zV rfl (by kernel_rfl) rfl rfl ?_) | (refine zc rfl ?_; refine zU rfl (by kernel_rfl) rfl rfl ?_) | (refine xd ?_; refine za rfl (yX (t := rwT) (xs := rows) (ys := r) rfl rfl rfl rfl (.lst _ _) (by omega) rfl) rfl ?_) | (refine xH rfl ?_; refine zT rfl (by kernel_rfl) rfl (yX (t := rwT) (xs := rows) (ys := r) rfl rfl rfl rfl (.lst _ _) (by omega) rfl) rfl ?_) | (refine zr 19 ?_; refine za rfl (zK rfl m1 (.cons (.same rfl) .nil) rfl) rfl ?_) | (refine zq 19 rfl ?_; refine zT rfl (by kernel_rfl) rfl (zK rfl m1 (.cons (.same rfl) .nil) rfl) rfl ?_) | (refine isL ?_; refine wx rfl (by kernel_rfl) rfl rfl ?_) | refine zD ?_ | refine zB _ rfl (by kernel_rfl) ?_ | refine zW rfl ?_ | refine zX rfl ?_ | refine zC ?_ | with_reducible refine zO ?_ | refine zI ?_ | refine zJ ?_ | (with_reducible first | refine zM ?_ | refine zN ?_ | refine zF ?_ | refine zH ?_ | refine zG ?_) | refine zP ?_
  exact mJ 7 [0, 1, 2, 3, 4, 5, 6, 8] (by decide) (by decide) rfl (le_refl rfl) (.cons rfl rfl rfl rfl (z5 rfl) (.cons rfl rfl rfl rfl (z5 rfl) (.cons rfl rfl rfl rfl (by repeat' first | exact zj | refine zZ ?_ ?_ | exact le_refl rfl | exact zm rfl rfl) (.cons rfl rfl rfl rfl (zY (zE _ _)) (.cons rfl rfl rfl rfl (z5 rfl) (.cons rfl rfl rfl rfl (z5 rfl) (.cons rfl rfl rfl rfl (z5 rfl) (.cons rfl rfl rfl rfl (zY (zE _ _)) .nil))))))))
end Go.Proofs.Ytojcojanokhnaaa.Ab
namespace Go.Proofs.Ytojcojanokhnaaa.Ab
open Go.RowKit
section
variable {P : Program} {md : Region.Mode} {ops : Array Oper} {s : Nat} {G : List Reg → Prop} {Q : Exit → St → Prop}
theorem pZ {i : Nat} {oi : Oper} {v : V} (hi : ops[i]? = some oi) (hne : i ≠ s) (fu : Nat) (hed : Region.reachB md ops i fu s = true) :
    ∀ (n : Nat) (listed : Array Bool) (S : St), G S.H → listed.getD s true = false → y9 md ops listed →
      (∀ j oj, ops[j]? = some oj → j ≠ i → listed.getD j true = false → (∀ e ∈ oj.after, Region.binds md e = true → e.on ≠ i) → oi.apart ops oj = true) →
      i ∈ Region.ready md ops listed → vO P ops G oi v S →
      uK P md ops s G Q n (listed.setIfInBounds i true) (S.put oi.dst v S.H) → uK P md ops s G Q (n + 1) listed S := by
  intro n
  induction n with
  | zero =>
    intro listed S hG hB hC _ hr hy H
    refine ⟨fun h => (by rw [h] at hr; cases hr), fun j hj => ?_⟩
    by_cases hji : j = i
    · subst hji
      unfold tR
      rw [hi]
      rcases hy with ⟨h1, h2⟩ | ⟨h1, rfl⟩
      · exact Or.inl ⟨h1, _, .of (h2 _ hG), fun v1 H1 hp hb => by obtain ⟨_, rfl⟩ := hp; exact hG, fun v1 H1 hp => by obtain ⟨rfl, rfl⟩ := hp; exact H⟩
      · exact Or.inr ⟨h1, H⟩
    · have := ready_mono hj hji
      rw [H.1] at this
      cases this
  | succ n ih =>
    intro listed S hG hB hC hfree hr hy H
    refine ⟨fun h => (by rw [h] at hr; cases hr), fun j hj => ?_⟩
    by_cases hji : j = i
    · subst hji
      unfold tR
      rw [hi]
      rcases hy with ⟨h1, h2⟩ | ⟨h1, rfl⟩
      · exact Or.inl ⟨h1, _, .of (h2 _ hG), fun v1 H1 hp hb => by obtain ⟨_, rfl⟩ := hp; exact hG, fun v1 H1 hp => by obtain ⟨rfl, rfl⟩ := hp; exact H⟩
      · exact Or.inr ⟨h1, H⟩
    · have h1 := H.2 j (ready_mono hj hji)
      obtain ⟨hjun, oj, hoj, hall⟩ := mem_ready.1 hj
      have hiun := (mem_ready.1 hr).1
      have hnot : ∀ e ∈ oj.after, Region.binds md e = true → e.on ≠ i := fun e he hb heq => by
        have h1 := hall e he hb
        rw [heq] at h1
        rcases Nat.lt_or_ge i listed.size with h' | h'
        · simp [h'] at hiun h1; rw [hiun] at h1; cases h1
        · simp [Array.getElem?_eq_none h'] at h1
      have hjs : j ≠ s := fun hjs => by
        subst hjs
        exact Region.reach_not_ready hC hed hiun hj
      have hfree' : ∀ k ok, ops[k]? = some ok → k ≠ i → (listed.setIfInBounds j true).getD k true = false →
          (∀ e ∈ ok.after, Region.binds md e = true → e.on ≠ i) → oi.apart ops ok = true := fun k ok hk hki hun hno => by
        refine hfree k ok hk hki ?_ hno
        by_cases hjk : j = k
        · subst hjk; exact hjun
        · rw [getD_set_ne true hjk] at hun; exact hun
      have hb2 : ((listed.setIfInBounds i true).setIfInBounds j true).getD s true = (listed.setIfInBounds j true).getD s true := by
        rw [Array.setIfInBounds_comm _ _ (Ne.symm hji), xT hne]
      have hBj : (listed.setIfInBounds j true).getD s true = false := by rw [xT hjs]; exact hB
      obtain ⟨p1, p2, p3⟩ := Oper.apart_spec (hfree j oj hoj hji hjun hnot)
      have key : ∀ (u : V) (H' : List Reg), G H' → uK P md ops s G Q n ((listed.setIfInBounds j true).setIfInBounds i true) ((S.put oj.dst u H').put oi.dst v H') → uK P md ops s G Q (n + 1) (listed.setIfInBounds j true) (S.put oj.dst u H') := fun u H' hGH hk => by
        refine ih (listed.setIfInBounds j true) (S.put oj.dst u H') (by rw [wD]; exact hGH) hBj (hC.set hj) hfree' (ready_mono hr (Ne.symm hji)) (hy.keep p3) ?_
        rw [wD]
        exact hk
      unfold tR at h1 ⊢
      rw [hoj] at h1 ⊢
      simp only at h1 ⊢
      rw [vD p1, wD] at h1
      rcases h1 with ⟨hw, post, hs, hH, hk⟩ | ⟨hw, hk⟩
      · rw [hb2] at hH
        refine Or.inl ⟨hw, post, hs.congr (fun x hx => (xp p1 x hx).symm), hH, fun u H' hp => key u H' (hH u H' hp hBj) ?_⟩
        rw [Array.setIfInBounds_comm _ _ hji, ← wq v u S.H H' p2]
        exact hk u H' hp
      · refine Or.inr ⟨hw, key (.k undef) S.H hG ?_⟩
        rw [Array.setIfInBounds_comm _ _ hji, ← wq v (.k undef) S.H S.H p2]
        exact hk
end
section
variable {P : Program} {T : Tab} {ops : Array Oper} {s : Nat} {G : List Reg → Prop} {Q : Exit → St → Prop} {l l' : List V} {H H' K : List Reg} {m : Nat} {o : Oper} {d : List Nat} {n : Nat}
def dV (ops : Array Oper) (d : List Nat) (s i : Nat) : Bool := !((mkL ops.size d).getD s true) && Region.reachB .any ops i ops.size s && Region.closedB .any ops (mkL ops.size d) && !(i == s)
theorem tV (i : Nat) {v : V} (hG : G H) (he : dV ops d s i = true) (ho : ops[i]? = some o) (hc : u9 ops d i = true) (hw : ye ops ⟨l, H, m⟩ o = some true) (hs : ∀ H, G H → z8 P o (St.ev ⟨l, H, m⟩) H v H) (hp : vK l H o.dst v = some (l', K)) (hk : APerS P ops s G (i :: d) n Q ⟨l', K, m⟩) : APerS P ops s G d (n + 1) Q ⟨l, H, m⟩ := by
  simp only [u9, Bool.and_eq_true] at hc
  simp only [dV, Bool.and_eq_true, Bool.not_eq_true'] at he
  obtain ⟨⟨⟨e1, e2⟩, e3⟩, e4⟩ := he
  refine ⟨pZ ho (by simpa using e4) _ e2 n _ _ hG e1 (Region.closedB_spec e3) (Region.free_spec ho hc.1) (by simpa using hc.2) (Or.inl ⟨hw, hs⟩) ?_⟩
  rw [show (⟨l, H, m⟩ : St).put o.dst v (⟨l, H, m⟩ : St).H = ⟨l', K, m⟩ from yz hp m]
  exact hk.out
end
end Go.Proofs.Ytojcojanokhnaaa.Ab
namespace Go.Proofs.Ytojcojanokhnaaa.Ab
open Go.RowKit
theorem jU {ψ : List Nat} {f : FuncId} {cs ds : List V} (h : Les ψ cs ds) : Le ψ (.fn f cs) (.fn f ds) := by rw [Le]; exact ⟨ds, rfl, h⟩
theorem eE {l : List V} {H : List Reg} {t : Tmp} {us : List Tmp} {n : Nat} {v r : V} {K : List Reg} (k : Nat) (ψ : List Nat) (hfix : ∀ i, i < k → ψ[i]? = some i) (hnd : ψ.Nodup) (hv : CellIs l H t n v) (hr : Le ψ r (.tup (v :: us.map fun u => (l[u]?).getD .any))) (hH : HLes ψ H ψ K) :
    (Exit.ret = .ret ∨ Exit.ret = .normal) ∧ ∃ v, CellIs l H t n v ∧ Out true r K (.tup (v :: us.map fun u => (l[u]?).getD .any)) ⟨l, H, k⟩ := ⟨Or.inl rfl, v, hv, uC (S := ⟨l, H, k⟩) ψ hfix (wb hnd hH) hr (Or.inl rfl)⟩
theorem Runs.le {gs : List Int} {s y : So} {k m : Nat} {rows rs : List Rw} {pk p : Int} (h : Runs gs s k rows pk y m rs p) : k ≤ m := by
  induction h with
  | done h => exact Nat.le_refl _
  | step h st t ih => omega
theorem Runs.end {gs : List Int} {s y : So} {k m : Nat} {rows rs : List Rw} {pk p : Int} (h : Runs gs s k rows pk y m rs p) : y.ph = 4 := by
  induction h with
  | done h => exact h
  | step h st t ih => exact ih
theorem pJ {gs : List Int} (h : v3 gs = true) : (∀ g ∈ gs, 8 ≤ g ∧ g ≤ 60) ∧ gs ≠ [] := by
  simp only [v3, Bool.and_eq_true, List.all_eq_true, decide_eq_true_eq] at h
  refine ⟨fun g hg => xS.1 (h.1 g hg), ?_⟩
  rintro rfl
  simp at h
theorem fI (gs : List Int) (s0 y : So) (m : Nat) (rs : List Rw) (p : Int) (hl : gs.length ≤ 1000000000) (hg : v3 gs = true) (hv : VS s0) (hw : s0.wr ≤ 0) (hr : Runs gs s0 0 [] 0 y m rs p) (hm : m ≤ 100000) :
    zy Go.Proofs.Try.prog 95 [.agg (soE s0), gsL gs, .fn 96 [.ptr 2 0]] [bxO zRs, bxS (soE s0), bxO zRs] (.tup [.agg (soE y), B true]) [bxO zRs, bxS (soE s0), bxO (roC 3 rs.length m p 0), rwR rs] true := by
  obtain ⟨gall, gne⟩ := pJ hg
  refine yS 6 27 [7] Go.Proofs.Try.func95 rfl rfl rfl ?_
  simp only [Go.Proofs.Try.ntmps95, List.length_cons, List.length_nil, Nat.reduceAdd, Nat.reduceSub, List.replicate_succ, List.replicate_zero, List.cons_append, List.nil_append]
  repeat' first | refine zL ?_ | refine zA ?_ | refine zQ [] ?_ | (refine isA ?_; refine zf rfl ?_) | (refine isL ?_; refine zV rfl (by kernel_rfl) rfl rfl ?_) | (refine zc rfl ?_; refine zU rfl (by kernel_rfl) rfl rfl ?_) | refine zD ?_ | refine zB _ rfl (by kernel_rfl) ?_ | refine zW rfl ?_ | refine zX rfl ?_ | refine zC ?_ | with_reducible refine zO ?_ | refine zI ?_ | refine zJ ?_ | (with_reducible first | refine zM ?_ | refine zN ?_ | refine zF ?_ | refine zH ?_ | refine zG ?_) | refine zP ?_
  refine z9 (α := { q : So × Nat × List Rw × Int // Runs gs q.1 q.2.1 q.2.2.1 q.2.2.2 y m rs p ∧ VS q.1 ∧ q.1.wr ≤ 4 * q.2.1 ∧ q.2.2.1.length ≤ q.2.1 }) (fun q => ⟨[.any, gsL gs, .fn 96 [.ptr 2 0], .ptr 5 0, .any, .any, .ptr 4 0, .any, I q.1.2.1, .any, .any, .any, .any, .any, .any, .any, .any, .any, .any, .any, .any, .any, .any, .any, .any, .any, .any, .any, .any, .any, .any, .any, .any, .any, .any, .any, .any, .any, .any, .any, .any, .any, .any], [bxO zRs, bxS (soE s0), bxO (roC 3 q.1.2.2.1.length q.1.2.1 q.1.2.2.2 0), rwR q.1.2.2.1, bxS zS, bxS (soE q.1.1)], 3⟩) (fun q => m - q.1.2.1) ⟨(s0, 0, [], 0), hr, hv, hw, Nat.le_refl _⟩ ?_ ?_
  · refine Sub.trans (T := ⟨[.any, gsL gs, .fn 96 [.ptr 2 0], .ptr 3 0, .any, .any, .ptr 4 0, .any, I 0, .any, .any, .any, .any, .any, .any, .any, .any, .any, .any, .any, .any, .any, .any, .any, .any, .any, .any, .any, .any, .any, .any, .any, .any, .any, .any, .any, .any, .any, .any, .any, .any, .any, .any], [bxO zRs, bxS (soE s0), bxO (roC 5 0 0 0 0), bxS (soE s0), bxS zS, rwR []], 3⟩) ?_ ?_
    · exact xE 3 [0, 1, 2, 5, 4, 3] rfl rfl (by decide) (by decide) (.cons rfl rfl rfl rfl (z5 rfl) (.cons rfl rfl rfl rfl (z5 rfl) (.cons rfl rfl rfl rfl (by repeat' first | exact zj | refine zZ ?_ ?_ | exact le_refl rfl | exact zm rfl rfl) (.cons rfl rfl rfl rfl (zY (zE _ _)) (.cons rfl rfl rfl rfl (z5 rfl) (.cons rfl rfl rfl rfl (z5 rfl) .nil)))))) (by repeat' first | exact zj | refine zZ ?_ ?_ | exact zp | exact le_refl rfl | exact zu rfl | exact jU (zZ (zu rfl) zj))
    refine Sub.trans (T := ⟨[.any, gsL gs, .fn 96 [.ptr 2 0], .ptr 3 0, .any, .any, .ptr 4 0, .any, I 0, .any, .any, .any, .any, .any, .any, .any, .any, .any, .any, .any, .any, .any, .any, .any, .any, .any, .any, .any, .any, .any, .any, .any, .any, .any, .any, .any, .any, .any, .any, .any, .any, .any, .any], [bxO zRs, bxS (soE s0), bxO zRs, bxS (soE s0), bxS zS], 3⟩) (vi 78 3 (.rest _) (.cons (.rest _) (.cons (.rest _) (.cons (.cons .nil (.rest _)) (.rest _))))) ?_
    exact xE 3 [0, 1, 2, 3, 4] rfl rfl (by decide) (by decide) (.cons rfl rfl rfl rfl (z5 rfl) (.cons rfl rfl rfl rfl (z5 rfl) (.cons rfl rfl rfl rfl (z5 rfl) (.cons rfl rfl rfl rfl (z5 rfl) (.cons rfl rfl rfl rfl (z5 rfl) .nil))))) (by repeat' first | exact zj | refine zZ ?_ ?_ | exact zp | exact le_refl rfl | exact zu rfl | exact jU (zZ (zu rfl) zj))
  · rintro ⟨⟨s, k, rows, pk⟩, jr, jv, jw, jl⟩
    simp only at jr jv jw jl
    have jk := jr.le
    have jok := jv.ok
    repeat' first | refine zL ?_ | refine zA ?_ | refine zQ [] ?_ | (refine isA ?_; refine zf rfl ?_) | (refine isL ?_; refine zV rfl (by kernel_rfl) rfl rfl ?_) | (refine zc rfl ?_; refine zU rfl (by kernel_rfl) rfl rfl ?_) | refine zD ?_ | refine zB _ rfl (by kernel_rfl) ?_ | refine zW rfl ?_ | refine zX rfl ?_ | refine zC ?_ | with_reducible refine zO ?_ | refine zI ?_ | refine zJ ?_ | (with_reducible first | refine zM ?_ | refine zN ?_ | refine zF ?_ | refine zH ?_ | refine zG ?_) | refine zP ?_
    refine zh rfl (fun h => ?_) (fun h => ?_)
    · have hp : s.ph ≠ 4 := by simpa using h
      cases jr with
      | done h4 => exact absurd h4 hp
      | @step _ x _ _ _ _ r _ _ _ _ st t =>
        obtain ⟨g8, g60⟩ := gall _ (pK gne k)
        have hin : inV (grV gs k) 8 60 = true := xS.2 ⟨g8, g60⟩
        have hx := ui jv g8 g60 (by omega) st
        have hwx := qn st (VS.base jv).wr (by omega)
        have hrl := pm st
        have c1 := eO s x (grV gs k) r jok (tS.2 jv) hin st
        have hgl : 0 < gs.length := List.length_pos_iff.2 gne
        have hz : gs[(((k : Int).tmod (gs.length : Int)).toNat)]? = some (grV gs k) := by
          rw [← Int.ofNat_tmod, Int.toNat_natCast, grV, List.getD_eq_getElem?_getD, List.getElem?_eq_getElem (Nat.mod_lt _ hgl)]; rfl
        have hz0 : 0 ≤ (k : Int).tmod (gs.length : Int) := by rw [← Int.ofNat_tmod]; exact Int.natCast_nonneg _
        generalize grV gs k = g at c1 hz
        repeat' first | (refine uU 14 (fun H => H[5]? = some (bxS (soE s))) 17 rfl (xb ?_)) | refine zL ?_ | refine zA ?_ | refine zQ [] ?_ | (refine isA ?_; refine zf rfl ?_) | (refine isL ?_; refine zV rfl (by kernel_rfl) rfl rfl ?_) | (refine zc rfl ?_; refine zU rfl (by kernel_rfl) rfl rfl ?_) | refine zD ?_ | refine zB _ rfl (by kernel_rfl) ?_ | refine zW rfl ?_ | refine zX rfl ?_ | refine zC ?_ | with_reducible refine zO ?_ | refine zI ?_ | refine zJ ?_ | (with_reducible first | refine zM ?_ | refine zN ?_ | refine zF ?_ | refine zH ?_ | refine zG ?_) | refine zP ?_
        refine wI ?_
        refine tV 0 rfl (by kernel_rfl) rfl (by kernel_rfl) rfl (fun _ hG => mp rfl rfl hG rfl rfl rfl) rfl ?_
        refine yD 1 (Or.inr rfl) rfl rfl (by kernel_rfl) rfl (fun _ => rfl) rfl ?_
        refine yD 2 (Or.inr rfl) rfl rfl (by kernel_rfl) rfl (fun _ => rfl) rfl ?_
        refine yD 3 (Or.inr rfl) rfl rfl (by kernel_rfl) rfl (fun _ => rfl) rfl ?_
        refine yD 4 (Or.inr rfl) rfl rfl (by kernel_rfl) rfl (fun _ => rfl) rfl ?_
        refine ul 5 (Or.inr rfl) rfl rfl (by kernel_rfl) rfl (fun _ => sS rfl rfl rfl (by omega)) rfl ?_
        refine ul 6 (Or.inr rfl) rfl rfl (by kernel_rfl) rfl (fun _ => zz (t := yP) (z := g) rfl rfl rfl rfl hz0 hz) rfl ?_
        refine yD 7 (Or.inr rfl) rfl rfl (by kernel_rfl) rfl (fun _ => rfl) rfl ?_
        refine ul 8 (Or.inr rfl) rfl rfl (by kernel_rfl) rfl (fun _ => zK rfl c1 (.cons (.same rfl) (.cons (.same rfl) .nil)) rfl) rfl ?_
        refine yD 9 (Or.inr rfl) rfl rfl (by kernel_rfl) rfl (fun _ => rfl) rfl ?_
        refine yD 10 (Or.inr rfl) rfl rfl (by kernel_rfl) rfl (fun _ => rfl) rfl ?_
        refine yD 11 (Or.inr rfl) rfl rfl (by kernel_rfl) rfl (fun _ => rfl) rfl ?_
        refine yD 12 (Or.inr rfl) rfl rfl (by kernel_rfl) rfl (fun _ => rfl) rfl ?_
        refine xR 13 (by kernel_rfl) rfl rfl rfl (Or.inr rfl) rfl ?_
        refine xR 14 (by kernel_rfl) rfl rfl rfl (Or.inl (by kernel_rfl)) rfl ?_
        refine yD 15 (Or.inl (by kernel_rfl)) rfl rfl (by kernel_rfl) rfl (fun _ => rfl) rfl ?_
        refine yD 16 (Or.inl (by kernel_rfl)) rfl rfl (by kernel_rfl) rfl (fun _ => rfl) rfl ?_
        refine vF (by kernel_rfl) ?_
        have c2 := cU s0 x r rows (IntKind.i64.wrap ((k : Int) + 1)) k pk hx.ok (by omega) (by omega)
        repeat' first | (refine isA ?_; refine za rfl (pu rfl rfl c2 rfl) rfl ?_) | refine zL ?_ | refine zA ?_ | refine zQ [] ?_ | (refine isA ?_; refine zf rfl ?_) | (refine isL ?_; refine zV rfl (by kernel_rfl) rfl rfl ?_) | (refine zc rfl ?_; refine zU rfl (by kernel_rfl) rfl rfl ?_) | refine zD ?_ | refine zB _ rfl (by kernel_rfl) ?_ | refine zW rfl ?_ | refine zX rfl ?_ | refine zC ?_ | with_reducible refine zO ?_ | refine zI ?_ | refine zJ ?_ | (with_reducible first | refine zM ?_ | refine zN ?_ | refine zF ?_ | refine zH ?_ | refine zG ?_) | refine zP ?_
        have e9 : ((k + 1 : Nat) : Int) = IntKind.i64.wrap ((k : Int) + 1) := by rw [IntKind.wrap_i64]; have := t.le; omega
        refine ⟨⟨(x, k + 1, rows ++ r, mxV pk (yj x)), t, hx, by simp only; omega, by simp only [List.length_append]; omega⟩, by have := t.le; simp only; omega, ?_⟩
        exact xE 3 [0, 1, 2, 7, 4, 5] rfl rfl (by decide) (by decide) (.cons rfl rfl rfl rfl (z5 rfl) (.cons rfl rfl rfl rfl (z5 rfl) (.cons rfl rfl rfl rfl (by repeat' first | exact zj | refine zZ ?_ ?_ | exact le_refl rfl | exact zm rfl rfl | exact yC (congrArg _ e9)) (.cons rfl rfl rfl rfl (zY (zE _ _)) (.cons rfl rfl rfl rfl (z5 rfl) (.cons rfl rfl rfl rfl (z5 rfl) .nil)))))) (by repeat' first | exact zj | refine zZ ?_ ?_ | exact zp | exact le_refl rfl | exact zu rfl | exact jU (zZ (zu rfl) zj) | exact yC (congrArg _ e9))
    · have hp : s.ph = 4 := by simpa using h
      cases jr with
      | step h4 => exact absurd hp h4
      | done h4 =>
        repeat' first | refine zL ?_ | refine zA ?_ | refine zQ [] ?_ | (refine isA ?_; refine zf rfl ?_) | (refine isL ?_; refine zV rfl (by kernel_rfl) rfl rfl ?_) | (refine zc rfl ?_; refine zU rfl (by kernel_rfl) rfl rfl ?_) | refine zD ?_ | refine zB _ rfl (by kernel_rfl) ?_ | refine zW rfl ?_ | refine zX rfl ?_ | refine zC ?_ | with_reducible refine zO ?_ | refine zI ?_ | refine zJ ?_ | (with_reducible first | refine zM ?_ | refine zN ?_ | refine zF ?_ | refine zH ?_ | refine zG ?_) | refine zP ?_
        exact eE 3 [0, 1, 2, 3] (by decide) (by decide) (yU rfl rfl rfl rfl rfl) (le_refl rfl) (.cons rfl rfl rfl rfl (z5 rfl) (.cons rfl rfl rfl rfl (z5 rfl) (.cons rfl rfl rfl rfl (by repeat' first | exact zj | refine zZ ?_ ?_ | exact le_refl rfl | exact zm rfl rfl) (.cons rfl rfl rfl rfl (zY (zE _ _)) .nil))))
end Go.Proofs.Ytojcojanokhnaaa.Ab
namespace Go.Proofs.Ytojcojanokhnaaa.Ab
open Go.RowKit
def soN (xs : List Rw) : So := ⟨xs, 0, [], [], [], [], 0, 0, 1, 0⟩
def soZ : So := ⟨[], 0, [], [], [], [], 0, 0, 0, 0⟩
def nsS (xs : List Rw) : So := cond (avR xs) (soN xs) soZ
theorem dX (xs : List Rw) (hl : xs.length ≤ 1000000000) : zy Go.Proofs.Try.prog 97 [rwL xs] [] (.tup [.agg (soE (nsS xs)), B (avR xs)]) [] true := by
  refine yS 2 27 [3] Go.Proofs.Try.func97 rfl rfl rfl ?_
  simp only [Go.Proofs.Try.ntmps97, List.length_cons, List.length_nil, Nat.reduceAdd, Nat.reduceSub, List.replicate_succ, List.replicate_zero, List.cons_append, List.nil_append]
  repeat' first | refine zL ?_ | refine zA ?_ | refine zQ [] ?_ | (refine isA ?_; refine zf rfl ?_) | (refine isL ?_; refine zV rfl (by kernel_rfl) rfl rfl ?_) | (refine zc rfl ?_; refine zU rfl (by kernel_rfl) rfl rfl ?_) | (refine zr 25 ?_; refine za rfl (zK rfl (pT xs hl) (.cons (.same rfl) .nil) rfl) rfl ?_) | (refine zq 25 rfl ?_; refine zT rfl (by kernel_rfl) rfl (zK rfl (pT xs hl) (.cons (.same rfl) .nil) rfl) rfl ?_) | refine zD ?_ | refine zB _ rfl (by kernel_rfl) ?_ | refine zW rfl ?_ | refine zX rfl ?_ | refine zC ?_ | with_reducible refine zO ?_ | refine zI ?_ | refine zJ ?_ | (with_reducible first | refine zM ?_ | refine zN ?_ | refine zF ?_ | refine zH ?_ | refine zG ?_) | refine zP ?_
  refine zh rfl (fun k1 => ?_) (fun k1 => ?_)
  · have k1 : avR xs = false := by simpa using k1
    rw [nsS, k1]
    repeat' first | refine zL ?_ | refine zA ?_ | refine zQ [] ?_ | (refine isA ?_; refine zf rfl ?_) | (refine isL ?_; refine zV rfl (by kernel_rfl) rfl rfl ?_) | (refine zc rfl ?_; refine zU rfl (by kernel_rfl) rfl rfl ?_) | exact nY (yU rfl rfl rfl rfl rfl) (.tup (.cons (.agg (.cons .nil (.cons (.same rfl) (.cons .nil (.cons .nil (.cons .nil (.cons .nil (.cons (.same rfl) (.cons (.same rfl) (.cons (.same rfl) (.cons (.same rfl) .nil))))))))))) (.cons (.same rfl) .nil))) | refine zD ?_ | refine zB _ rfl (by kernel_rfl) ?_ | refine zW rfl ?_ | refine zX rfl ?_ | refine zC ?_ | with_reducible refine zO ?_ | refine zI ?_ | refine zJ ?_ | (with_reducible first | refine zM ?_ | refine zN ?_ | refine zF ?_ | refine zH ?_ | refine zG ?_) | refine zP ?_
  · have k1 : avR xs = true := by simpa using k1
    rw [nsS, k1]
    repeat' first | refine zL ?_ | refine zA ?_ | refine zQ [] ?_ | (refine isA ?_; refine zf rfl ?_) | (refine isL ?_; refine zV rfl (by kernel_rfl) rfl rfl ?_) | (refine zc rfl ?_; refine zU rfl (by kernel_rfl) rfl rfl ?_) | (refine xd ?_; refine za rfl (yX (t := rwT) (xs := []) (ys := xs) rfl rfl rfl rfl (.lst _ _) (by simp; omega) rfl) rfl ?_) | (refine xH rfl ?_; refine zT rfl (by kernel_rfl) rfl (yX (t := rwT) (xs := []) (ys := xs) rfl rfl rfl rfl (.lst _ _) (by simp; omega) rfl) rfl ?_) | exact nY (yU rfl rfl rfl rfl rfl) (.tup (.cons (.agg (.cons (zk rfl) (.cons (.same rfl) (.cons .nil (.cons .nil (.cons .nil (.cons .nil (.cons (.same rfl) (.cons (.same rfl) (.cons (.same rfl) (.cons (.same rfl) .nil))))))))))) (.cons (.same rfl) .nil))) | refine zD ?_ | refine zB _ rfl (by kernel_rfl) ?_ | refine zW rfl ?_ | refine zX rfl ?_ | refine zC ?_ | with_reducible refine zO ?_ | refine zI ?_ | refine zJ ?_ | (with_reducible first | refine zM ?_ | refine zN ?_ | refine zF ?_ | refine zH ?_ | refine zG ?_) | refine zP ?_
abbrev nsO (n : Nat) : List V := [.sl 0 0 n, I 0, ww, ww, ww, ww, I 0, I 0, I 1, I 0]
abbrev nsZ : List V := [ww, I 0, ww, ww, ww, ww, I 0, I 0, I 0, I 0]
theorem dZ (xs : List Rw) (hl : xs.length ≤ 1000000000) (hv : avR xs = true) : zy Go.Proofs.Try.prog 93 [rwL xs] [] (.tup [.agg (nsO xs.length), B true]) [rwR xs] false := by
  refine yS 2 27 [3] Go.Proofs.Try.func93 rfl rfl rfl ?_
  simp only [Go.Proofs.Try.ntmps93, List.length_cons, List.length_nil, Nat.reduceAdd, Nat.reduceSub, List.replicate_succ, List.replicate_zero, List.cons_append, List.nil_append]
  repeat' first | refine zL ?_ | refine zA ?_ | refine zQ [] ?_ | (refine isA ?_; refine zf rfl ?_) | (refine isL ?_; refine zV rfl (by kernel_rfl) rfl rfl ?_) | (refine zc rfl ?_; refine zU rfl (by kernel_rfl) rfl rfl ?_) | (refine zr 74 ?_; refine za rfl (zK rfl (by have := th xs hl; rw [hv] at this; exact this) (.cons (.same rfl) .nil) rfl) rfl ?_) | (refine zq 74 rfl ?_; refine zT rfl (by kernel_rfl) rfl (zK rfl (by have := th xs hl; rw [hv] at this; exact this) (.cons (.same rfl) .nil) rfl) rfl ?_) | (refine zr 114 ?_; refine za rfl (z6 rfl (x5 xs hl) (.cons (.same rfl) .nil) (fun q hq => by simp at hq; subst hq; exact zE _ _) rfl rfl) rfl ?_) | (refine zq 114 rfl ?_; refine zT rfl (by kernel_rfl) rfl (z6 rfl (x5 xs hl) (.cons (.same rfl) .nil) (fun q hq => by simp at hq; subst hq; exact zE _ _) rfl rfl) rfl ?_) | exact sE [1] (by decide) (yU rfl rfl rfl rfl rfl) (sr (zZ (su (zZ (zm rfl rfl) (zZ (le_refl rfl) (zZ (le_refl rfl) (zZ (le_refl rfl) (zZ (le_refl rfl) (zZ (le_refl rfl) (zZ (le_refl rfl) (zZ (le_refl rfl) (zZ (le_refl rfl) (zZ (le_refl rfl) zj))))))))))) (zZ (le_refl rfl) zj))) (.cons rfl rfl rfl rfl (zY (zE _ _)) .nil) rfl (fun q hq => by simp at hq; subst hq; exact ⟨Nat.zero_ne_one, fun _ => xu _⟩) | refine zD ?_ | refine zB _ rfl (by kernel_rfl) ?_ | refine zW rfl ?_ | refine zX rfl ?_ | refine zC ?_ | with_reducible refine zO ?_ | refine zI ?_ | refine zJ ?_ | (with_reducible first | refine zM ?_ | refine zN ?_ | refine zF ?_ | refine zH ?_ | refine zG ?_) | refine zP ?_
theorem cQ (xs : List Rw) (hl : xs.length ≤ 1000000000) (hv : avR xs = false) : zy Go.Proofs.Try.prog 93 [rwL xs] [] (.tup [.agg nsZ, B false]) [] false := by
  refine yS 2 27 [3] Go.Proofs.Try.func93 rfl rfl rfl ?_
  simp only [Go.Proofs.Try.ntmps93, List.length_cons, List.length_nil, Nat.reduceAdd, Nat.reduceSub, List.replicate_succ, List.replicate_zero, List.cons_append, List.nil_append]
  repeat' first | refine zL ?_ | refine zA ?_ | refine zQ [] ?_ | (refine isA ?_; refine zf rfl ?_) | (refine isL ?_; refine zV rfl (by kernel_rfl) rfl rfl ?_) | (refine zc rfl ?_; refine zU rfl (by kernel_rfl) rfl rfl ?_) | (refine zr 74 ?_; refine za rfl (zK rfl (by have := th xs hl; rw [hv] at this; exact this) (.cons (.same rfl) .nil) rfl) rfl ?_) | (refine zq 74 rfl ?_; refine zT rfl (by kernel_rfl) rfl (zK rfl (by have := th xs hl; rw [hv] at this; exact this) (.cons (.same rfl) .nil) rfl) rfl ?_) | exact sE [] (by decide) (yU rfl rfl rfl rfl rfl) (le_refl rfl) .nil rfl (fun q hq => by cases hq) | refine zD ?_ | refine zB _ rfl (by kernel_rfl) ?_ | refine zW rfl ?_ | refine zX rfl ?_ | refine zC ?_ | with_reducible refine zO ?_ | refine zI ?_ | refine zJ ?_ | (with_reducible first | refine zM ?_ | refine zN ?_ | refine zF ?_ | refine zH ?_ | refine zG ?_) | refine zP ?_
end Go.Proofs.Ytojcojanokhnaaa.Ab
namespace Go.Proofs.Ytojcojanokhnaaa.Ab
open Go.RowKit
theorem cP (xs : List Rw) (hl : xs.length ≤ 1000000000) (hv : avR xs = true) : zy Go.Proofs.Try.prog 93 [rwL xs] [] (.tup [.agg (soE (soN xs)), B true]) [] true :=
  (dZ xs hl hv).frozen (.tup (.cons (.agg (.cons (zk rfl) (.cons (.same rfl) (.cons .nil (.cons .nil (.cons .nil (.cons .nil (.cons (.same rfl) (.cons (.same rfl) (.cons (.same rfl) (.cons (.same rfl) .nil))))))))))) (.cons (.same rfl) .nil)))
theorem nz {xs : List Rw} (h : avR xs = true) : VS (soN xs) := by
  refine .read ⟨h, ⟨0, rfl, Nat.zero_le _⟩, fun r hr => absurd hr List.not_mem_nil, Int.le_refl 0, List.Pairwise.nil, fun x hx => absurd hx List.not_mem_nil⟩ ⟨rfl, rfl, rfl, fun h => absurd rfl h, by show (0 : Int) + 0 ≤ 60; decide, ?_⟩
  show ([] : List Rw).Perm (xs.take 0)
  rw [List.take_zero]
theorem eQ (xs : List Rw) (gs : List Int) (h1 : xs.length ≤ 1000000000) (h2 : gs.length ≤ 1000000000) (h : avR xs = false ∨ v3 gs = false) : zy Go.Proofs.Try.prog 23 [rwL xs, gsL gs] [] (.tup [.agg zRs, B false]) [] false := by
  have c1 := fG gs h2
  rcases Bool.eq_false_or_eq_true (avR xs) with hv | hv
  · have hg : v3 gs = false := by rw [hv] at h; simpa using h
    rw [hg] at c1
    have c0 := dZ xs h1 hv
    refine yS 4 40 [5] Go.Proofs.Try.func23 rfl rfl rfl ?_
    simp only [Go.Proofs.Try.ntmps23, List.length_cons, List.length_nil, Nat.reduceAdd, Nat.reduceSub, List.replicate_succ, List.replicate_zero, List.cons_append, List.nil_append]
    repeat' first | refine zL ?_ | refine zA ?_ | refine zQ [] ?_ | (refine isA ?_; refine zf rfl ?_) | (refine isL ?_; refine zV rfl (by kernel_rfl) rfl rfl ?_) | (refine zc rfl ?_; refine zU rfl (by kernel_rfl) rfl rfl ?_) | (refine zr 93 ?_; refine za rfl (z6 (H' := [bxO zRs, rwR xs]) rfl c0 (.cons (.same rfl) .nil) (fun q hq => by simp at hq; subst hq; exact zE _ _) rfl rfl) rfl ?_) | (refine zq 93 rfl ?_; refine zT rfl (by kernel_rfl) rfl (z6 (H' := [bxO zRs, rwR xs]) rfl c0 (.cons (.same rfl) .nil) (fun q hq => by simp at hq; subst hq; exact zE _ _) rfl rfl) rfl ?_) | (refine zr 94 ?_; refine za rfl (zK rfl c1 (.cons (.same rfl) .nil) rfl) rfl ?_) | (refine zq 94 rfl ?_; refine zT rfl (by kernel_rfl) rfl (zK rfl c1 (.cons (.same rfl) .nil) rfl) rfl ?_) | refine zD ?_ | refine zB _ rfl (by kernel_rfl) ?_ | refine zW rfl ?_ | refine zX rfl ?_ | refine zC ?_ | with_reducible refine zO ?_ | refine zI ?_ | refine zJ ?_ | (with_reducible first | refine zM ?_ | refine zN ?_ | refine zF ?_ | refine zH ?_ | refine zG ?_) | refine zP ?_
    exact sE [] (by decide) (yU rfl rfl rfl rfl rfl) (le_refl rfl) .nil rfl (fun q hq => by cases hq)
  · have c0 := cQ xs h1 hv
    refine yS 4 40 [5] Go.Proofs.Try.func23 rfl rfl rfl ?_
    simp only [Go.Proofs.Try.ntmps23, List.length_cons, List.length_nil, Nat.reduceAdd, Nat.reduceSub, List.replicate_succ, List.replicate_zero, List.cons_append, List.nil_append]
    repeat' first | refine zL ?_ | refine zA ?_ | refine zQ [] ?_ | (refine isA ?_; refine zf rfl ?_) | (refine isL ?_; refine zV rfl (by kernel_rfl) rfl rfl ?_) | (refine zc rfl ?_; refine zU rfl (by kernel_rfl) rfl rfl ?_) | (refine zr 93 ?_; refine za rfl (zK rfl c0 (.cons (.same rfl) .nil) rfl) rfl ?_) | (refine zq 93 rfl ?_; refine zT rfl (by kernel_rfl) rfl (zK rfl c0 (.cons (.same rfl) .nil) rfl) rfl ?_) | (refine zr 94 ?_; refine za rfl (zK rfl c1 (.cons (.same rfl) .nil) rfl) rfl ?_) | (refine zq 94 rfl ?_; refine zT rfl (by kernel_rfl) rfl (zK rfl c1 (.cons (.same rfl) .nil) rfl) rfl ?_) | refine zD ?_ | refine zB _ rfl (by kernel_rfl) ?_ | refine zW rfl ?_ | refine zX rfl ?_ | refine zC ?_ | with_reducible refine zO ?_ | refine zI ?_ | refine zJ ?_ | (with_reducible first | refine zM ?_ | refine zN ?_ | refine zF ?_ | refine zH ?_ | refine zG ?_) | refine zP ?_
    exact sE [] (by decide) (yU rfl rfl rfl rfl rfl) (le_refl rfl) .nil rfl (fun q hq => by cases hq)
theorem eP (xs : List Rw) (gs : List Int) (y : So) (m : Nat) (rs : List Rw) (p : Int) (h1 : xs.length ≤ 1000000000) (h2 : gs.length ≤ 1000000000) (hv : avR xs = true) (hg : v3 gs = true) (hr : Runs gs (soN xs) 0 [] 0 y m rs p) (hm : m ≤ 100000) :
    zy Go.Proofs.Try.prog 23 [rwL xs, gsL gs] [] (.tup [.agg (roC 0 rs.length m p y.wr), B true]) [rwR rs] false := by
  have c0 := cP xs h1 hv
  have c1 := fG gs h2
  rw [hg] at c1
  have c2 := fI gs (soN xs) y m rs p h2 hg (nz hv) (Int.le_refl 0) hr hm
  refine yS 4 40 [5] Go.Proofs.Try.func23 rfl rfl rfl ?_
  simp only [Go.Proofs.Try.ntmps23, List.length_cons, List.length_nil, Nat.reduceAdd, Nat.reduceSub, List.replicate_succ, List.replicate_zero, List.cons_append, List.nil_append]
  repeat' first | (refine isAf ?_; refine za rfl (qE (cap := [.tmp 8]) rfl) rfl ?_) | refine zL ?_ | refine zA ?_ | refine zQ [] ?_ | (refine isA ?_; refine zf rfl ?_) | (refine isL ?_; refine zV rfl (by kernel_rfl) rfl rfl ?_) | (refine zc rfl ?_; refine zU rfl (by kernel_rfl) rfl rfl ?_) | (refine zr 93 ?_; refine za rfl (zK rfl c0 (.cons (.same rfl) .nil) rfl) rfl ?_) | (refine zq 93 rfl ?_; refine zT rfl (by kernel_rfl) rfl (zK rfl c0 (.cons (.same rfl) .nil) rfl) rfl ?_) | (refine zr 94 ?_; refine za rfl (zK rfl c1 (.cons (.same rfl) .nil) rfl) rfl ?_) | (refine zq 94 rfl ?_; refine zT rfl (by kernel_rfl) rfl (zK rfl c1 (.cons (.same rfl) .nil) rfl) rfl ?_) | (refine zr 95 ?_; refine za rfl (yN rfl c2 rfl) rfl ?_) | (refine zq 95 rfl ?_; refine zT rfl (by kernel_rfl) rfl (yN rfl c2 rfl) rfl ?_) | refine zD ?_ | refine zB _ rfl (by kernel_rfl) ?_ | refine zW rfl ?_ | refine zX rfl ?_ | refine zC ?_ | with_reducible refine zO ?_ | refine zI ?_ | refine zJ ?_ | (with_reducible first | refine zM ?_ | refine zN ?_ | refine zF ?_ | refine zH ?_ | refine zG ?_) | refine zP ?_
  exact eF [3] (yU rfl rfl rfl rfl rfl) (sr (zZ (su (zZ (zm rfl rfl) (zZ (le_refl rfl) (zZ (le_refl rfl) (zZ (le_refl rfl) zj))))) (zZ (le_refl rfl) zj))) (wb (by decide) (.cons rfl rfl rfl rfl (zY (zE _ _)) .nil)) (Or.inr ⟨rfl, fun q hq => by
    simp only [List.mem_singleton] at hq
    subst hq
    exact xW _⟩)
end Go.Proofs.Ytojcojanokhnaaa.Ab
namespace Go.Proofs.Ytojcojanokhnaaa.Ab
open Go.RowKit
theorem dp (inp heap dfr out : List Rw) (pos wr g : Int) (a b : Rn) (rest : List Rn) (i k : Nat) (r : Rw) (hok : okSo ⟨inp, pos, heap, dfr, out, a :: b :: rest, i, k, 2, wr⟩) (hv : vS ⟨inp, pos, heap, dfr, out, a :: b :: rest, i, k, 2, wr⟩ = true) (hg : inV g 8 60 = true) (h1 : a[i]? = some r) (hk : k ≤ b.length) (h2 : ∀ q, b[k]? = some q → leW r q) :
    zy Go.Proofs.Try.prog 14 [.agg (soE ⟨inp, pos, heap, dfr, out, a :: b :: rest, i, k, 2, wr⟩), I g] [] (.tup [.agg (soH (w5 ⟨inp, pos, heap, dfr, out, a :: b :: rest, i, k, 2, wr⟩ r)), rwL [], B true]) [rwR (w5 ⟨inp, pos, heap, dfr, out, a :: b :: rest, i, k, 2, wr⟩ r).heap] true := by
  have g4 := hok.out
  have g6 := hok.tot
  simp only [tot, List.map_cons, List.sum_cons] at g4 g6
  have hlt := (List.getElem?_eq_some_iff.1 h1).1
  have ew : IntKind.i64.wrap ((i : Int) + 1) = (i : Int) + 1 := by rw [IntKind.wrap_i64]; omega
  have ac := wF _ hok
  have a1 := tt _ hok
  rw [hv] at a1
  have a2 := uI g 8 60
  rw [hg] at a2
  have b1 := wT (a :: b :: rest) 0 i hok.rn (by decide)
  have b2 := wT (a :: b :: rest) 1 k hok.rn (by decide)
  have e0 : wX (a :: b :: rest) 0 i = (a[i]?).toList := rfl
  have e1 : wX (a :: b :: rest) 1 k = (b[k]?).toList := rfl
  rw [e0] at b1
  rw [e1] at b2
  rw [h1] at b1
  have hz1 : ([r] : List Rw)[0]? = some r := rfl
  rcases hq : b[k]? with _ | q
  · rw [hq] at b2
    refine yS 4 27 [5, 6] Go.Proofs.Try.func14 rfl rfl rfl ?_
    simp only [Go.Proofs.Try.ntmps14, List.length_cons, List.length_nil, Nat.reduceAdd, Nat.reduceSub, List.replicate_succ, List.replicate_zero, List.cons_append, List.nil_append]
    repeat' first | (refine zh rfl (fun h => absurd (of_decide_eq_true h) (by simp only; decide)) (fun _ => ?_)) | (refine zh rfl (fun _ => ?_) (fun h => absurd (of_decide_eq_false h) (by simp only; decide))) | (refine isA ?_; refine za rfl (yh rfl rfl rfl rfl rfl) rfl ?_) | (refine zQ (id := 27) [6, 8] ?_) | (refine zQ (id := 28) [8] ?_) | (refine tq rfl ?_; refine zT rfl (by kernel_rfl) rfl (yh rfl rfl rfl rfl rfl) rfl ?_) | (refine xH rfl ?_; refine tp rfl (by kernel_rfl) rfl (yX (t := rwT) (xs := out) (ys := [r]) rfl rfl rfl rfl (.lst _ _) (by simp; omega) rfl) rfl ?_) | refine zL ?_ | refine zA ?_ | refine zQ [] ?_ | (refine isA ?_; refine zf rfl ?_) | (refine isL ?_; refine zV rfl (by kernel_rfl) rfl rfl ?_) | (refine zc rfl ?_; refine zU rfl (by kernel_rfl) rfl rfl ?_) | (refine zr 65 ?_; refine za rfl (yO (r' := .agg (soP 2 ⟨inp, pos, heap, dfr, out, a :: b :: rest, i, k, 2, wr⟩)) (H' := bxS (soE ⟨inp, pos, heap, dfr, out, a :: b :: rest, i, k, 2, wr⟩) :: bxS zS :: soW ⟨inp, pos, heap, dfr, out, a :: b :: rest, i, k, 2, wr⟩) rfl ac (.cons (.same rfl) .nil) rfl (by simp only [List.map_cons, List.map_nil, shR, yT _ (yi (zE _ _))]; rfl)) rfl ?_) | (refine zq 65 rfl ?_; refine zT rfl (by kernel_rfl) rfl (yO (r' := .agg (soP 2 ⟨inp, pos, heap, dfr, out, a :: b :: rest, i, k, 2, wr⟩)) (H' := bxS (soE ⟨inp, pos, heap, dfr, out, a :: b :: rest, i, k, 2, wr⟩) :: bxS zS :: soW ⟨inp, pos, heap, dfr, out, a :: b :: rest, i, k, 2, wr⟩) rfl ac (.cons (.same rfl) .nil) rfl (by simp only [List.map_cons, List.map_nil, shR, yT _ (yi (zE _ _))]; rfl)) rfl ?_) | (refine zr 18 ?_; refine za rfl (zK rfl a1 (.cons (.same rfl) .nil) rfl) rfl ?_) | (refine zq 18 rfl ?_; refine zT rfl (by kernel_rfl) rfl (zK rfl a1 (.cons (.same rfl) .nil) rfl) rfl ?_) | (refine zr 66 ?_; refine za rfl (zK rfl a2 (.cons (.same rfl) (.cons (.same rfl) (.cons (.same rfl) .nil))) rfl) rfl ?_) | (refine zq 66 rfl ?_; refine zT rfl (by kernel_rfl) rfl (zK rfl a2 (.cons (.same rfl) (.cons (.same rfl) (.cons (.same rfl) .nil))) rfl) rfl ?_) | (refine zr 71 (x := #[.tmp 124, .tmp 126]) ?_; refine za rfl (zK rfl b1 (.cons (.same rfl) (.cons (.same rfl) (.cons (.same rfl) .nil))) rfl) rfl ?_) | (refine zq 71 (x := #[.tmp 124, .tmp 126]) rfl ?_; refine zT rfl (by kernel_rfl) rfl (zK rfl b1 (.cons (.same rfl) (.cons (.same rfl) (.cons (.same rfl) .nil))) rfl) rfl ?_) | (refine zr 71 ?_; refine za rfl (zK rfl b1 (.cons (.same rfl) (.cons (.same rfl) (.cons (.same rfl) .nil))) rfl) rfl ?_) | (refine zq 71 rfl ?_; refine zT rfl (by kernel_rfl) rfl (zK rfl b1 (.cons (.same rfl) (.cons (.same rfl) (.cons (.same rfl) .nil))) rfl) rfl ?_) | (refine zr 71 ?_; refine za rfl (zK rfl b2 (.cons (.same rfl) (.cons (.same rfl) (.cons (.same rfl) .nil))) rfl) rfl ?_) | (refine zq 71 rfl ?_; refine zT rfl (by kernel_rfl) rfl (zK rfl b2 (.cons (.same rfl) (.cons (.same rfl) (.cons (.same rfl) .nil))) rfl) rfl ?_) | (refine yB (x := .tmp 173) ?_; refine za rfl (zz (t := rwT) (xs := [r]) (z := r) rfl rfl rfl rfl (Int.le_refl 0) hz1) rfl ?_) | (refine yA (x := .tmp 173) rfl ?_; refine zT rfl (by kernel_rfl) rfl (zz (t := rwT) (xs := [r]) (z := r) rfl rfl rfl rfl (Int.le_refl 0) hz1) rfl ?_) | (refine yB (x := .tmp 181) ?_; refine za rfl (zz (t := rwT) (xs := [r]) (z := r) rfl rfl rfl rfl (Int.le_refl 0) hz1) rfl ?_) | (refine yA (x := .tmp 181) rfl ?_; refine zT rfl (by kernel_rfl) rfl (zz (t := rwT) (xs := [r]) (z := r) rfl rfl rfl rfl (Int.le_refl 0) hz1) rfl ?_) | (refine zr 67 ?_; refine za rfl (zK rfl (wE r) (.cons (.same rfl) .nil) rfl) rfl ?_) | (refine zq 67 rfl ?_; refine zT rfl (by kernel_rfl) rfl (zK rfl (wE r) (.cons (.same rfl) .nil) rfl) rfl ?_) | (refine isL ?_; refine wx rfl (by kernel_rfl) rfl rfl ?_) | refine zD ?_ | refine zB _ rfl (by kernel_rfl) ?_ | refine zW rfl ?_ | refine zX rfl ?_ | refine zC ?_ | with_reducible refine zO ?_ | refine zI ?_ | refine zJ ?_ | (with_reducible first | refine zM ?_ | refine zN ?_ | refine zF ?_ | refine zH ?_ | refine zG ?_) | refine zP ?_
    exact wS (yU rfl rfl rfl rfl rfl) rfl rfl (zE _ _) (by repeat' first | exact Purs.nil | refine Purs.cons ?_ ?_ | exact zk rfl | exact yY rfl rfl | exact zk (T := rwT) (x := []) rfl | exact Pur.nil | exact Pur.same rfl | exact xF (by assumption)) (by repeat' first | exact Purs.nil | refine Purs.cons ?_ ?_ | exact zk rfl | exact yY rfl rfl | exact zk (T := rwT) (x := []) rfl | exact Pur.nil | exact Pur.same rfl | exact xF (by assumption)) (.cons (.same rfl) (.cons (.same rfl) .nil))
  · rw [hq] at b2
    have hle : decide (yu r q ≤ 0) = true := decide_eq_true (h2 q hq)
    refine yS 4 27 [5, 6] Go.Proofs.Try.func14 rfl rfl rfl ?_
    simp only [Go.Proofs.Try.ntmps14, List.length_cons, List.length_nil, Nat.reduceAdd, Nat.reduceSub, List.replicate_succ, List.replicate_zero, List.cons_append, List.nil_append]
    repeat' first | (refine zh rfl (fun h => absurd (of_decide_eq_true h) (by simp only; decide)) (fun _ => ?_)) | (refine zh rfl (fun _ => ?_) (fun h => absurd (of_decide_eq_false h) (by simp only; decide))) | (refine isA ?_; refine za rfl (yh rfl rfl rfl rfl rfl) rfl ?_) | (refine zQ (id := 27) [6, 8] ?_) | (refine zQ (id := 28) [8] ?_) | (refine tq rfl ?_; refine zT rfl (by kernel_rfl) rfl (yh rfl rfl rfl rfl rfl) rfl ?_) | (refine xH rfl ?_; refine tp rfl (by kernel_rfl) rfl (yX (t := rwT) (xs := out) (ys := [r]) rfl rfl rfl rfl (.lst _ _) (by simp; omega) rfl) rfl ?_) | refine zL ?_ | refine zA ?_ | refine zQ [] ?_ | (refine isA ?_; refine zf rfl ?_) | (refine isL ?_; refine zV rfl (by kernel_rfl) rfl rfl ?_) | (refine zc rfl ?_; refine zU rfl (by kernel_rfl) rfl rfl ?_) | (refine zr 65 ?_; refine za rfl (yO (r' := .agg (soP 2 ⟨inp, pos, heap, dfr, out, a :: b :: rest, i, k, 2, wr⟩)) (H' := bxS (soE ⟨inp, pos, heap, dfr, out, a :: b :: rest, i, k, 2, wr⟩) :: bxS zS :: soW ⟨inp, pos, heap, dfr, out, a :: b :: rest, i, k, 2, wr⟩) rfl ac (.cons (.same rfl) .nil) rfl (by simp only [List.map_cons, List.map_nil, shR, yT _ (yi (zE _ _))]; rfl)) rfl ?_) | (refine zq 65 rfl ?_; refine zT rfl (by kernel_rfl) rfl (yO (r' := .agg (soP 2 ⟨inp, pos, heap, dfr, out, a :: b :: rest, i, k, 2, wr⟩)) (H' := bxS (soE ⟨inp, pos, heap, dfr, out, a :: b :: rest, i, k, 2, wr⟩) :: bxS zS :: soW ⟨inp, pos, heap, dfr, out, a :: b :: rest, i, k, 2, wr⟩) rfl ac (.cons (.same rfl) .nil) rfl (by simp only [List.map_cons, List.map_nil, shR, yT _ (yi (zE _ _))]; rfl)) rfl ?_) | (refine zr 18 ?_; refine za rfl (zK rfl a1 (.cons (.same rfl) .nil) rfl) rfl ?_) | (refine zq 18 rfl ?_; refine zT rfl (by kernel_rfl) rfl (zK rfl a1 (.cons (.same rfl) .nil) rfl) rfl ?_) | (refine zr 66 ?_; refine za rfl (zK rfl a2 (.cons (.same rfl) (.cons (.same rfl) (.cons (.same rfl) .nil))) rfl) rfl ?_) | (refine zq 66 rfl ?_; refine zT rfl (by kernel_rfl) rfl (zK rfl a2 (.cons (.same rfl) (.cons (.same rfl) (.cons (.same rfl) .nil))) rfl) rfl ?_) | (refine zr 71 (x := #[.tmp 124, .tmp 126]) ?_; refine za rfl (zK rfl b1 (.cons (.same rfl) (.cons (.same rfl) (.cons (.same rfl) .nil))) rfl) rfl ?_) | (refine zq 71 (x := #[.tmp 124, .tmp 126]) rfl ?_; refine zT rfl (by kernel_rfl) rfl (zK rfl b1 (.cons (.same rfl) (.cons (.same rfl) (.cons (.same rfl) .nil))) rfl) rfl ?_) | (refine zr 71 ?_; refine za rfl (zK rfl b1 (.cons (.same rfl) (.cons (.same rfl) (.cons (.same rfl) .nil))) rfl) rfl ?_) | (refine zq 71 rfl ?_; refine zT rfl (by kernel_rfl) rfl (zK rfl b1 (.cons (.same rfl) (.cons (.same rfl) (.cons (.same rfl) .nil))) rfl) rfl ?_) | (refine zr 71 ?_; refine za rfl (zK rfl b2 (.cons (.same rfl) (.cons (.same rfl) (.cons (.same rfl) .nil))) rfl) rfl ?_) | (refine zq 71 rfl ?_; refine zT rfl (by kernel_rfl) rfl (zK rfl b2 (.cons (.same rfl) (.cons (.same rfl) (.cons (.same rfl) .nil))) rfl) rfl ?_) | (refine yB (x := .tmp 161) ?_; refine za rfl (zz (t := rwT) (xs := [r]) (z := r) rfl rfl rfl rfl (Int.le_refl 0) rfl) rfl ?_) | (refine yA (x := .tmp 161) rfl ?_; refine zT rfl (by kernel_rfl) rfl (zz (t := rwT) (xs := [r]) (z := r) rfl rfl rfl rfl (Int.le_refl 0) rfl) rfl ?_) | (refine yB (x := .tmp 164) ?_; refine za rfl (zz (t := rwT) (xs := [q]) (z := q) rfl rfl rfl rfl (Int.le_refl 0) rfl) rfl ?_) | (refine yA (x := .tmp 164) rfl ?_; refine zT rfl (by kernel_rfl) rfl (zz (t := rwT) (xs := [q]) (z := q) rfl rfl rfl rfl (Int.le_refl 0) rfl) rfl ?_) | (refine zr 68 ?_; refine za rfl (zK rfl (xz r q) (.cons (.same rfl) (.cons (.same rfl) .nil)) rfl) rfl ?_) | (refine zq 68 rfl ?_; refine zT rfl (by kernel_rfl) rfl (zK rfl (xz r q) (.cons (.same rfl) (.cons (.same rfl) .nil)) rfl) rfl ?_) | (refine yB (x := .tmp 173) ?_; refine za rfl (zz (t := rwT) (xs := [r]) (z := r) rfl rfl rfl rfl (Int.le_refl 0) hz1) rfl ?_) | (refine yA (x := .tmp 173) rfl ?_; refine zT rfl (by kernel_rfl) rfl (zz (t := rwT) (xs := [r]) (z := r) rfl rfl rfl rfl (Int.le_refl 0) hz1) rfl ?_) | (refine yB (x := .tmp 181) ?_; refine za rfl (zz (t := rwT) (xs := [r]) (z := r) rfl rfl rfl rfl (Int.le_refl 0) hz1) rfl ?_) | (refine yA (x := .tmp 181) rfl ?_; refine zT rfl (by kernel_rfl) rfl (zz (t := rwT) (xs := [r]) (z := r) rfl rfl rfl rfl (Int.le_refl 0) hz1) rfl ?_) | (refine zr 67 ?_; refine za rfl (zK rfl (wE r) (.cons (.same rfl) .nil) rfl) rfl ?_) | (refine zq 67 rfl ?_; refine zT rfl (by kernel_rfl) rfl (zK rfl (wE r) (.cons (.same rfl) .nil) rfl) rfl ?_) | (refine isL ?_; refine wx rfl (by kernel_rfl) rfl rfl ?_) | refine zD ?_ | refine zB _ rfl (by kernel_rfl) ?_ | refine zW rfl ?_ | refine zX rfl ?_ | refine zC ?_ | with_reducible refine zO ?_ | refine zI ?_ | refine zJ ?_ | (with_reducible first | refine zM ?_ | refine zN ?_ | refine zF ?_ | refine zH ?_ | refine zG ?_) | refine zP ?_
    refine zh rfl (fun _ => ?_) (fun h => absurd (hle.symm.trans h) (by decide))
    repeat' first | (refine isA ?_; refine za rfl (yh rfl rfl rfl rfl rfl) rfl ?_) | (refine zQ (id := 27) [6, 8] ?_) | (refine zQ (id := 28) [8] ?_) | (refine tq rfl ?_; refine zT rfl (by kernel_rfl) rfl (yh rfl rfl rfl rfl rfl) rfl ?_) | (refine xH rfl ?_; refine tp rfl (by kernel_rfl) rfl (yX (t := rwT) (xs := out) (ys := [r]) rfl rfl rfl rfl (.lst _ _) (by simp; omega) rfl) rfl ?_) | refine zL ?_ | refine zA ?_ | refine zQ [] ?_ | (refine isA ?_; refine zf rfl ?_) | (refine isL ?_; refine zV rfl (by kernel_rfl) rfl rfl ?_) | (refine zc rfl ?_; refine zU rfl (by kernel_rfl) rfl rfl ?_) | (refine yB (x := .tmp 173) ?_; refine za rfl (zz (t := rwT) (xs := [r]) (z := r) rfl rfl rfl rfl (Int.le_refl 0) hz1) rfl ?_) | (refine yA (x := .tmp 173) rfl ?_; refine zT rfl (by kernel_rfl) rfl (zz (t := rwT) (xs := [r]) (z := r) rfl rfl rfl rfl (Int.le_refl 0) hz1) rfl ?_) | (refine yB (x := .tmp 181) ?_; refine za rfl (zz (t := rwT) (xs := [r]) (z := r) rfl rfl rfl rfl (Int.le_refl 0) hz1) rfl ?_) | (refine yA (x := .tmp 181) rfl ?_; refine zT rfl (by kernel_rfl) rfl (zz (t := rwT) (xs := [r]) (z := r) rfl rfl rfl rfl (Int.le_refl 0) hz1) rfl ?_) | (refine zr 67 ?_; refine za rfl (zK rfl (wE r) (.cons (.same rfl) .nil) rfl) rfl ?_) | (refine zq 67 rfl ?_; refine zT rfl (by kernel_rfl) rfl (zK rfl (wE r) (.cons (.same rfl) .nil) rfl) rfl ?_) | (refine isL ?_; refine wx rfl (by kernel_rfl) rfl rfl ?_) | refine zD ?_ | refine zB _ rfl (by kernel_rfl) ?_ | refine zW rfl ?_ | refine zX rfl ?_ | refine zC ?_ | with_reducible refine zO ?_ | refine zI ?_ | refine zJ ?_ | (with_reducible first | refine zM ?_ | refine zN ?_ | refine zF ?_ | refine zH ?_ | refine zG ?_) | refine zP ?_
    exact wS (yU rfl rfl rfl rfl rfl) rfl rfl (zE _ _) (by repeat' first | exact Purs.nil | refine Purs.cons ?_ ?_ | exact zk rfl | exact yY rfl rfl | exact zk (T := rwT) (x := []) rfl | exact Pur.nil | exact Pur.same rfl | exact xF (by assumption)) (by repeat' first | exact Purs.nil | refine Purs.cons ?_ ?_ | exact zk rfl | exact yY rfl rfl | exact zk (T := rwT) (x := []) rfl | exact Pur.nil | exact Pur.same rfl | exact xF (by assumption)) (.cons (.same rfl) (.cons (.same rfl) .nil))
theorem fh (inp heap dfr out : List Rw) (pos wr g : Int) (a b : Rn) (rest : List Rn) (i k : Nat) (r : Rw) (hok : okSo ⟨inp, pos, heap, dfr, out, a :: b :: rest, i, k, 2, wr⟩) (hv : vS ⟨inp, pos, heap, dfr, out, a :: b :: rest, i, k, 2, wr⟩ = true) (hg : inV g 8 60 = true) (h1 : b[k]? = some r) (hi : i ≤ a.length) (h2 : ∀ q, a[i]? = some q → ¬ leW q r) :
    zy Go.Proofs.Try.prog 14 [.agg (soE ⟨inp, pos, heap, dfr, out, a :: b :: rest, i, k, 2, wr⟩), I g] [] (.tup [.agg (soH (xx ⟨inp, pos, heap, dfr, out, a :: b :: rest, i, k, 2, wr⟩ r)), rwL [], B true]) [rwR (xx ⟨inp, pos, heap, dfr, out, a :: b :: rest, i, k, 2, wr⟩ r).heap] true := by
  have g4 := hok.out
  have g6 := hok.tot
  simp only [tot, List.map_cons, List.sum_cons] at g4 g6
  have hlt := (List.getElem?_eq_some_iff.1 h1).1
  have ew : IntKind.i64.wrap ((k : Int) + 1) = (k : Int) + 1 := by rw [IntKind.wrap_i64]; omega
  have ac := wF _ hok
  have a1 := tt _ hok
  rw [hv] at a1
  have a2 := uI g 8 60
  rw [hg] at a2
  have b1 := wT (a :: b :: rest) 0 i hok.rn (by decide)
  have b2 := wT (a :: b :: rest) 1 k hok.rn (by decide)
  have e0 : wX (a :: b :: rest) 0 i = (a[i]?).toList := rfl
  have e1 : wX (a :: b :: rest) 1 k = (b[k]?).toList := rfl
  rw [e0] at b1
  rw [e1] at b2
  rw [h1] at b2
  have hz1 : ([r] : List Rw)[0]? = some r := rfl
  rcases hq : a[i]? with _ | q
  · rw [hq] at b1
    refine yS 4 27 [5, 6] Go.Proofs.Try.func14 rfl rfl rfl ?_
    simp only [Go.Proofs.Try.ntmps14, List.length_cons, List.length_nil, Nat.reduceAdd, Nat.reduceSub, List.replicate_succ, List.replicate_zero, List.cons_append, List.nil_append]
    repeat' first | (refine zh rfl (fun h => absurd (of_decide_eq_true h) (by simp only; decide)) (fun _ => ?_)) | (refine zh rfl (fun _ => ?_) (fun h => absurd (of_decide_eq_false h) (by simp only; decide))) | (refine isA ?_; refine za rfl (yh rfl rfl rfl rfl rfl) rfl ?_) | (refine zQ (id := 30) [6, 8] ?_) | (refine zQ (id := 31) [8] ?_) | (refine tq rfl ?_; refine zT rfl (by kernel_rfl) rfl (yh rfl rfl rfl rfl rfl) rfl ?_) | (refine xH rfl ?_; refine tp rfl (by kernel_rfl) rfl (yX (t := rwT) (xs := out) (ys := [r]) rfl rfl rfl rfl (.lst _ _) (by simp; omega) rfl) rfl ?_) | refine zL ?_ | refine zA ?_ | refine zQ [] ?_ | (refine isA ?_; refine zf rfl ?_) | (refine isL ?_; refine zV rfl (by kernel_rfl) rfl rfl ?_) | (refine zc rfl ?_; refine zU rfl (by kernel_rfl) rfl rfl ?_) | (refine zr 65 ?_; refine za rfl (yO (r' := .agg (soP 2 ⟨inp, pos, heap, dfr, out, a :: b :: rest, i, k, 2, wr⟩)) (H' := bxS (soE ⟨inp, pos, heap, dfr, out, a :: b :: rest, i, k, 2, wr⟩) :: bxS zS :: soW ⟨inp, pos, heap, dfr, out, a :: b :: rest, i, k, 2, wr⟩) rfl ac (.cons (.same rfl) .nil) rfl (by simp only [List.map_cons, List.map_nil, shR, yT _ (yi (zE _ _))]; rfl)) rfl ?_) | (refine zq 65 rfl ?_; refine zT rfl (by kernel_rfl) rfl (yO (r' := .agg (soP 2 ⟨inp, pos, heap, dfr, out, a :: b :: rest, i, k, 2, wr⟩)) (H' := bxS (soE ⟨inp, pos, heap, dfr, out, a :: b :: rest, i, k, 2, wr⟩) :: bxS zS :: soW ⟨inp, pos, heap, dfr, out, a :: b :: rest, i, k, 2, wr⟩) rfl ac (.cons (.same rfl) .nil) rfl (by simp only [List.map_cons, List.map_nil, shR, yT _ (yi (zE _ _))]; rfl)) rfl ?_) | (refine zr 18 ?_; refine za rfl (zK rfl a1 (.cons (.same rfl) .nil) rfl) rfl ?_) | (refine zq 18 rfl ?_; refine zT rfl (by kernel_rfl) rfl (zK rfl a1 (.cons (.same rfl) .nil) rfl) rfl ?_) | (refine zr 66 ?_; refine za rfl (zK rfl a2 (.cons (.same rfl) (.cons (.same rfl) (.cons (.same rfl) .nil))) rfl) rfl ?_) | (refine zq 66 rfl ?_; refine zT rfl (by kernel_rfl) rfl (zK rfl a2 (.cons (.same rfl) (.cons (.same rfl) (.cons (.same rfl) .nil))) rfl) rfl ?_) | (refine zr 71 (x := #[.tmp 124, .tmp 126]) ?_; refine za rfl (zK rfl b1 (.cons (.same rfl) (.cons (.same rfl) (.cons (.same rfl) .nil))) rfl) rfl ?_) | (refine zq 71 (x := #[.tmp 124, .tmp 126]) rfl ?_; refine zT rfl (by kernel_rfl) rfl (zK rfl b1 (.cons (.same rfl) (.cons (.same rfl) (.cons (.same rfl) .nil))) rfl) rfl ?_) | (refine zr 71 ?_; refine za rfl (zK rfl b1 (.cons (.same rfl) (.cons (.same rfl) (.cons (.same rfl) .nil))) rfl) rfl ?_) | (refine zq 71 rfl ?_; refine zT rfl (by kernel_rfl) rfl (zK rfl b1 (.cons (.same rfl) (.cons (.same rfl) (.cons (.same rfl) .nil))) rfl) rfl ?_) | (refine zr 71 ?_; refine za rfl (zK rfl b2 (.cons (.same rfl) (.cons (.same rfl) (.cons (.same rfl) .nil))) rfl) rfl ?_) | (refine zq 71 rfl ?_; refine zT rfl (by kernel_rfl) rfl (zK rfl b2 (.cons (.same rfl) (.cons (.same rfl) (.cons (.same rfl) .nil))) rfl) rfl ?_) | (refine yB (x := .tmp 193) ?_; refine za rfl (zz (t := rwT) (xs := [r]) (z := r) rfl rfl rfl rfl (Int.le_refl 0) hz1) rfl ?_) | (refine yA (x := .tmp 193) rfl ?_; refine zT rfl (by kernel_rfl) rfl (zz (t := rwT) (xs := [r]) (z := r) rfl rfl rfl rfl (Int.le_refl 0) hz1) rfl ?_) | (refine yB (x := .tmp 201) ?_; refine za rfl (zz (t := rwT) (xs := [r]) (z := r) rfl rfl rfl rfl (Int.le_refl 0) hz1) rfl ?_) | (refine yA (x := .tmp 201) rfl ?_; refine zT rfl (by kernel_rfl) rfl (zz (t := rwT) (xs := [r]) (z := r) rfl rfl rfl rfl (Int.le_refl 0) hz1) rfl ?_) | (refine zr 67 ?_; refine za rfl (zK rfl (wE r) (.cons (.same rfl) .nil) rfl) rfl ?_) | (refine zq 67 rfl ?_; refine zT rfl (by kernel_rfl) rfl (zK rfl (wE r) (.cons (.same rfl) .nil) rfl) rfl ?_) | (refine isL ?_; refine wx rfl (by kernel_rfl) rfl rfl ?_) | refine zD ?_ | refine zB _ rfl (by kernel_rfl) ?_ | refine zW rfl ?_ | refine zX rfl ?_ | refine zC ?_ | with_reducible refine zO ?_ | refine zI ?_ | refine zJ ?_ | (with_reducible first | refine zM ?_ | refine zN ?_ | refine zF ?_ | refine zH ?_ | refine zG ?_) | refine zP ?_
    exact wS (yU rfl rfl rfl rfl rfl) rfl rfl (zE _ _) (by repeat' first | exact Purs.nil | refine Purs.cons ?_ ?_ | exact zk rfl | exact yY rfl rfl | exact zk (T := rwT) (x := []) rfl | exact Pur.nil | exact Pur.same rfl | exact xF (by assumption)) (by repeat' first | exact Purs.nil | refine Purs.cons ?_ ?_ | exact zk rfl | exact yY rfl rfl | exact zk (T := rwT) (x := []) rfl | exact Pur.nil | exact Pur.same rfl | exact xF (by assumption)) (.cons (.same rfl) (.cons (.same rfl) .nil))
  · rw [hq] at b1
    have hle : decide (yu q r ≤ 0) = false := decide_eq_false (h2 q hq)
    refine yS 4 27 [5, 6] Go.Proofs.Try.func14 rfl rfl rfl ?_
    simp only [Go.Proofs.Try.ntmps14, List.length_cons, List.length_nil, Nat.reduceAdd, Nat.reduceSub, List.replicate_succ, List.replicate_zero, List.cons_append, List.nil_append]
    repeat' first | (refine zh rfl (fun h => absurd (of_decide_eq_true h) (by simp only; decide)) (fun _ => ?_)) | (refine zh rfl (fun _ => ?_) (fun h => absurd (of_decide_eq_false h) (by simp only; decide))) | (refine isA ?_; refine za rfl (yh rfl rfl rfl rfl rfl) rfl ?_) | (refine zQ (id := 30) [6, 8] ?_) | (refine zQ (id := 31) [8] ?_) | (refine tq rfl ?_; refine zT rfl (by kernel_rfl) rfl (yh rfl rfl rfl rfl rfl) rfl ?_) | (refine xH rfl ?_; refine tp rfl (by kernel_rfl) rfl (yX (t := rwT) (xs := out) (ys := [r]) rfl rfl rfl rfl (.lst _ _) (by simp; omega) rfl) rfl ?_) | refine zL ?_ | refine zA ?_ | refine zQ [] ?_ | (refine isA ?_; refine zf rfl ?_) | (refine isL ?_; refine zV rfl (by kernel_rfl) rfl rfl ?_) | (refine zc rfl ?_; refine zU rfl (by kernel_rfl) rfl rfl ?_) | (refine zr 65 ?_; refine za rfl (yO (r' := .agg (soP 2 ⟨inp, pos, heap, dfr, out, a :: b :: rest, i, k, 2, wr⟩)) (H' := bxS (soE ⟨inp, pos, heap, dfr, out, a :: b :: rest, i, k, 2, wr⟩) :: bxS zS :: soW ⟨inp, pos, heap, dfr, out, a :: b :: rest, i, k, 2, wr⟩) rfl ac (.cons (.same rfl) .nil) rfl (by simp only [List.map_cons, List.map_nil, shR, yT _ (yi (zE _ _))]; rfl)) rfl ?_) | (refine zq 65 rfl ?_; refine zT rfl (by kernel_rfl) rfl (yO (r' := .agg (soP 2 ⟨inp, pos, heap, dfr, out, a :: b :: rest, i, k, 2, wr⟩)) (H' := bxS (soE ⟨inp, pos, heap, dfr, out, a :: b :: rest, i, k, 2, wr⟩) :: bxS zS :: soW ⟨inp, pos, heap, dfr, out, a :: b :: rest, i, k, 2, wr⟩) rfl ac (.cons (.same rfl) .nil) rfl (by simp only [List.map_cons, List.map_nil, shR, yT _ (yi (zE _ _))]; rfl)) rfl ?_) | (refine zr 18 ?_; refine za rfl (zK rfl a1 (.cons (.same rfl) .nil) rfl) rfl ?_) | (refine zq 18 rfl ?_; refine zT rfl (by kernel_rfl) rfl (zK rfl a1 (.cons (.same rfl) .nil) rfl) rfl ?_) | (refine zr 66 ?_; refine za rfl (zK rfl a2 (.cons (.same rfl) (.cons (.same rfl) (.cons (.same rfl) .nil))) rfl) rfl ?_) | (refine zq 66 rfl ?_; refine zT rfl (by kernel_rfl) rfl (zK rfl a2 (.cons (.same rfl) (.cons (.same rfl) (.cons (.same rfl) .nil))) rfl) rfl ?_) | (refine zr 71 (x := #[.tmp 124, .tmp 126]) ?_; refine za rfl (zK rfl b1 (.cons (.same rfl) (.cons (.same rfl) (.cons (.same rfl) .nil))) rfl) rfl ?_) | (refine zq 71 (x := #[.tmp 124, .tmp 126]) rfl ?_; refine zT rfl (by kernel_rfl) rfl (zK rfl b1 (.cons (.same rfl) (.cons (.same rfl) (.cons (.same rfl) .nil))) rfl) rfl ?_) | (refine zr 71 ?_; refine za rfl (zK rfl b1 (.cons (.same rfl) (.cons (.same rfl) (.cons (.same rfl) .nil))) rfl) rfl ?_) | (refine zq 71 rfl ?_; refine zT rfl (by kernel_rfl) rfl (zK rfl b1 (.cons (.same rfl) (.cons (.same rfl) (.cons (.same rfl) .nil))) rfl) rfl ?_) | (refine zr 71 ?_; refine za rfl (zK rfl b2 (.cons (.same rfl) (.cons (.same rfl) (.cons (.same rfl) .nil))) rfl) rfl ?_) | (refine zq 71 rfl ?_; refine zT rfl (by kernel_rfl) rfl (zK rfl b2 (.cons (.same rfl) (.cons (.same rfl) (.cons (.same rfl) .nil))) rfl) rfl ?_) | (refine yB (x := .tmp 161) ?_; refine za rfl (zz (t := rwT) (xs := [q]) (z := q) rfl rfl rfl rfl (Int.le_refl 0) rfl) rfl ?_) | (refine yA (x := .tmp 161) rfl ?_; refine zT rfl (by kernel_rfl) rfl (zz (t := rwT) (xs := [q]) (z := q) rfl rfl rfl rfl (Int.le_refl 0) rfl) rfl ?_) | (refine yB (x := .tmp 164) ?_; refine za rfl (zz (t := rwT) (xs := [r]) (z := r) rfl rfl rfl rfl (Int.le_refl 0) rfl) rfl ?_) | (refine yA (x := .tmp 164) rfl ?_; refine zT rfl (by kernel_rfl) rfl (zz (t := rwT) (xs := [r]) (z := r) rfl rfl rfl rfl (Int.le_refl 0) rfl) rfl ?_) | (refine zr 68 ?_; refine za rfl (zK rfl (xz q r) (.cons (.same rfl) (.cons (.same rfl) .nil)) rfl) rfl ?_) | (refine zq 68 rfl ?_; refine zT rfl (by kernel_rfl) rfl (zK rfl (xz q r) (.cons (.same rfl) (.cons (.same rfl) .nil)) rfl) rfl ?_) | (refine yB (x := .tmp 193) ?_; refine za rfl (zz (t := rwT) (xs := [r]) (z := r) rfl rfl rfl rfl (Int.le_refl 0) hz1) rfl ?_) | (refine yA (x := .tmp 193) rfl ?_; refine zT rfl (by kernel_rfl) rfl (zz (t := rwT) (xs := [r]) (z := r) rfl rfl rfl rfl (Int.le_refl 0) hz1) rfl ?_) | (refine yB (x := .tmp 201) ?_; refine za rfl (zz (t := rwT) (xs := [r]) (z := r) rfl rfl rfl rfl (Int.le_refl 0) hz1) rfl ?_) | (refine yA (x := .tmp 201) rfl ?_; refine zT rfl (by kernel_rfl) rfl (zz (t := rwT) (xs := [r]) (z := r) rfl rfl rfl rfl (Int.le_refl 0) hz1) rfl ?_) | (refine zr 67 ?_; refine za rfl (zK rfl (wE r) (.cons (.same rfl) .nil) rfl) rfl ?_) | (refine zq 67 rfl ?_; refine zT rfl (by kernel_rfl) rfl (zK rfl (wE r) (.cons (.same rfl) .nil) rfl) rfl ?_) | (refine isL ?_; refine wx rfl (by kernel_rfl) rfl rfl ?_) | refine zD ?_ | refine zB _ rfl (by kernel_rfl) ?_ | refine zW rfl ?_ | refine zX rfl ?_ | refine zC ?_ | with_reducible refine zO ?_ | refine zI ?_ | refine zJ ?_ | (with_reducible first | refine zM ?_ | refine zN ?_ | refine zF ?_ | refine zH ?_ | refine zG ?_) | refine zP ?_
    refine zh rfl (fun h => absurd (hle.symm.trans h) (by decide)) (fun _ => ?_)
    repeat' first | (refine isA ?_; refine za rfl (yh rfl rfl rfl rfl rfl) rfl ?_) | (refine zQ (id := 30) [6, 8] ?_) | (refine zQ (id := 31) [8] ?_) | (refine tq rfl ?_; refine zT rfl (by kernel_rfl) rfl (yh rfl rfl rfl rfl rfl) rfl ?_) | (refine xH rfl ?_; refine tp rfl (by kernel_rfl) rfl (yX (t := rwT) (xs := out) (ys := [r]) rfl rfl rfl rfl (.lst _ _) (by simp; omega) rfl) rfl ?_) | refine zL ?_ | refine zA ?_ | refine zQ [] ?_ | (refine isA ?_; refine zf rfl ?_) | (refine isL ?_; refine zV rfl (by kernel_rfl) rfl rfl ?_) | (refine zc rfl ?_; refine zU rfl (by kernel_rfl) rfl rfl ?_) | (refine yB (x := .tmp 193) ?_; refine za rfl (zz (t := rwT) (xs := [r]) (z := r) rfl rfl rfl rfl (Int.le_refl 0) hz1) rfl ?_) | (refine yA (x := .tmp 193) rfl ?_; refine zT rfl (by kernel_rfl) rfl (zz (t := rwT) (xs := [r]) (z := r) rfl rfl rfl rfl (Int.le_refl 0) hz1) rfl ?_) | (refine yB (x := .tmp 201) ?_; refine za rfl (zz (t := rwT) (xs := [r]) (z := r) rfl rfl rfl rfl (Int.le_refl 0) hz1) rfl ?_) | (refine yA (x := .tmp 201) rfl ?_; refine zT rfl (by kernel_rfl) rfl (zz (t := rwT) (xs := [r]) (z := r) rfl rfl rfl rfl (Int.le_refl 0) hz1) rfl ?_) | (refine zr 67 ?_; refine za rfl (zK rfl (wE r) (.cons (.same rfl) .nil) rfl) rfl ?_) | (refine zq 67 rfl ?_; refine zT rfl (by kernel_rfl) rfl (zK rfl (wE r) (.cons (.same rfl) .nil) rfl) rfl ?_) | (refine isL ?_; refine wx rfl (by kernel_rfl) rfl rfl ?_) | refine zD ?_ | refine zB _ rfl (by kernel_rfl) ?_ | refine zW rfl ?_ | refine zX rfl ?_ | refine zC ?_ | with_reducible refine zO ?_ | refine zI ?_ | refine zJ ?_ | (with_reducible first | refine zM ?_ | refine zN ?_ | refine zF ?_ | refine zH ?_ | refine zG ?_) | refine zP ?_
    exact wS (yU rfl rfl rfl rfl rfl) rfl rfl (zE _ _) (by repeat' first | exact Purs.nil | refine Purs.cons ?_ ?_ | exact zk rfl | exact yY rfl rfl | exact zk (T := rwT) (x := []) rfl | exact Pur.nil | exact Pur.same rfl | exact xF (by assumption)) (by repeat' first | exact Purs.nil | refine Purs.cons ?_ ?_ | exact zk rfl | exact yY rfl rfl | exact zk (T := rwT) (x := []) rfl | exact Pur.nil | exact Pur.same rfl | exact xF (by assumption)) (.cons (.same rfl) (.cons (.same rfl) .nil))
end Go.Proofs.Ytojcojanokhnaaa.Ab
namespace Go.Proofs.Ytojcojanokhnaaa.Ab
open Go.RowKit
theorem dq (inp heap dfr out : List Rw) (pos wr rp g : Int) (a : Rn) (i : Nat) (r : Rw) (hok : okSo ⟨inp, pos, heap, dfr, out, [a], i, rp, 3, wr⟩) (hv : vS ⟨inp, pos, heap, dfr, out, [a], i, rp, 3, wr⟩ = true) (hg : inV g 8 60 = true) (h1 : a[i]? = some r) :
    zy Go.Proofs.Try.prog 14 [.agg (soE ⟨inp, pos, heap, dfr, out, [a], i, rp, 3, wr⟩), I g] [] (.tup [.agg (soH (xr ⟨inp, pos, heap, dfr, out, [a], i, rp, 3, wr⟩)), rwL [r], B true]) [rwR (xr ⟨inp, pos, heap, dfr, out, [a], i, rp, 3, wr⟩).heap] true := by
  have g4 := hok.out
  have g6 := hok.tot
  simp only [tot, List.map_cons, List.sum_cons] at g4 g6
  have hlt := (List.getElem?_eq_some_iff.1 h1).1
  have ew : IntKind.i64.wrap ((i : Int) + 1) = (i : Int) + 1 := by rw [IntKind.wrap_i64]; omega
  have ac := wF _ hok
  have a1 := tt _ hok
  rw [hv] at a1
  have a2 := uI g 8 60
  rw [hg] at a2
  have hz0 : ([a] : List Rn)[0]? = some a := rfl
  refine yS 4 27 [5, 6] Go.Proofs.Try.func14 rfl rfl rfl ?_
  simp only [Go.Proofs.Try.ntmps14, List.length_cons, List.length_nil, Nat.reduceAdd, Nat.reduceSub, List.replicate_succ, List.replicate_zero, List.cons_append, List.nil_append]
  repeat' first | (refine zh rfl (fun h => absurd (of_decide_eq_true h) (by simp only; decide)) (fun _ => ?_)) | refine zL ?_ | refine zA ?_ | refine zQ [] ?_ | (refine isA ?_; refine zf rfl ?_) | (refine isL ?_; refine zV rfl (by kernel_rfl) rfl rfl ?_) | (refine zc rfl ?_; refine zU rfl (by kernel_rfl) rfl rfl ?_) | (refine zr 65 ?_; refine za rfl (yO (r' := .agg (soP 2 ⟨inp, pos, heap, dfr, out, [a], i, rp, 3, wr⟩)) (H' := bxS (soE ⟨inp, pos, heap, dfr, out, [a], i, rp, 3, wr⟩) :: bxS zS :: soW ⟨inp, pos, heap, dfr, out, [a], i, rp, 3, wr⟩) rfl ac (.cons (.same rfl) .nil) rfl (by simp only [List.map_cons, List.map_nil, shR, yT _ (yi (zE _ _))]; rfl)) rfl ?_) | (refine zq 65 rfl ?_; refine zT rfl (by kernel_rfl) rfl (yO (r' := .agg (soP 2 ⟨inp, pos, heap, dfr, out, [a], i, rp, 3, wr⟩)) (H' := bxS (soE ⟨inp, pos, heap, dfr, out, [a], i, rp, 3, wr⟩) :: bxS zS :: soW ⟨inp, pos, heap, dfr, out, [a], i, rp, 3, wr⟩) rfl ac (.cons (.same rfl) .nil) rfl (by simp only [List.map_cons, List.map_nil, shR, yT _ (yi (zE _ _))]; rfl)) rfl ?_) | (refine zr 18 ?_; refine za rfl (zK rfl a1 (.cons (.same rfl) .nil) rfl) rfl ?_) | (refine zq 18 rfl ?_; refine zT rfl (by kernel_rfl) rfl (zK rfl a1 (.cons (.same rfl) .nil) rfl) rfl ?_) | (refine zr 66 ?_; refine za rfl (zK rfl a2 (.cons (.same rfl) (.cons (.same rfl) (.cons (.same rfl) .nil))) rfl) rfl ?_) | (refine zq 66 rfl ?_; refine zT rfl (by kernel_rfl) rfl (zK rfl a2 (.cons (.same rfl) (.cons (.same rfl) (.cons (.same rfl) .nil))) rfl) rfl ?_) | refine zD ?_ | refine zB _ rfl (by kernel_rfl) ?_ | refine zW rfl ?_ | refine zX rfl ?_ | refine zC ?_ | with_reducible refine zO ?_ | refine zI ?_ | refine zJ ?_ | (with_reducible first | refine zM ?_ | refine zN ?_ | refine zF ?_ | refine zH ?_ | refine zG ?_) | refine zP ?_
  refine zh rfl (fun h => ?_) (fun h => ?_)
  · have e : xr ⟨inp, pos, heap, dfr, out, [a], (i : Int), rp, 3, wr⟩ = ⟨inp, pos, heap, dfr, out, [a], (i : Int) + 1, rp, 4, wr⟩ := by
      have h' : decide ((i : Int) + 1 = (inp.length : Int)) = true := by rw [← ew]; exact h
      simp only [xr, h', cond_true]
    rw [e]
    repeat' first | refine zL ?_ | refine zA ?_ | (refine isA ?_; refine zf rfl ?_) | (refine isL ?_; refine zV rfl (by kernel_rfl) rfl rfl ?_) | (refine zc rfl ?_; refine zU rfl (by kernel_rfl) rfl rfl ?_) | refine zD ?_ | refine zB _ rfl (by kernel_rfl) ?_ | refine zW rfl ?_ | refine zX rfl ?_ | refine zC ?_ | with_reducible refine zO ?_ | refine zI ?_ | refine zJ ?_ | (with_reducible first | refine zM ?_ | refine zN ?_ | refine zF ?_ | refine zH ?_ | refine zG ?_) | refine zP ?_
    refine nl 0 7 14 rfl ?_
    refine xC 0 ⟨rfl, rfl⟩ rfl (by kernel_rfl) rfl (fun H hG => mp rfl rfl (hG.2.trans rfl) rfl rfl rfl) rfl ?_
    refine yZ 1 ⟨rfl, rfl⟩ rfl (by kernel_rfl) rfl (fun _ => rfl) rfl ?_
    refine xC 2 ⟨rfl, rfl⟩ rfl (by kernel_rfl) rfl (fun H hG => xv rfl rfl (hG.1.trans rfl) rfl rfl) rfl ?_
    refine xC 3 ⟨rfl, rfl⟩ rfl (by kernel_rfl) rfl (fun H hG => zz (t := rnT) (xs := [a]) (z := a) rfl rfl rfl rfl (Int.le_refl 0) hz0) rfl ?_
    refine yZ 4 ⟨rfl, rfl⟩ rfl (by kernel_rfl) rfl (fun _ => rfl) rfl ?_
    refine yZ 5 ⟨rfl, rfl⟩ rfl (by kernel_rfl) rfl (fun _ => rfl) rfl ?_
    refine yZ 6 ⟨rfl, rfl⟩ rfl (by kernel_rfl) rfl (fun _ => rfl) rfl ?_
    refine xC 7 ⟨rfl, rfl⟩ rfl (by kernel_rfl) rfl (fun H hG => xv rfl rfl (hG.1.trans rfl) rfl rfl) rfl ?_
    refine xC 8 ⟨rfl, rfl⟩ rfl (by kernel_rfl) rfl (fun H hG => zz (t := rwT) (xs := a) (z := r) rfl rfl rfl rfl (Int.natCast_nonneg i) h1) rfl ?_
    refine yZ 9 ⟨rfl, rfl⟩ rfl (by kernel_rfl) rfl (fun _ => rfl) rfl ?_
    refine xC 10 ⟨rfl, rfl⟩ rfl (by kernel_rfl) rfl (fun H hG => yh (cs := rwE r) rfl rfl rfl rfl rfl) rfl ?_
    refine wY 11 (by kernel_rfl) ?_
    refine qA rfl rfl (sQ (m := 0) (T := tab) TabC.ok rfl rfl rfl rfl rfl rfl rfl rfl rfl rfl) ⟨rfl, rfl⟩ rfl ?_
    refine yZ 12 ⟨rfl, rfl⟩ rfl (by kernel_rfl) rfl (fun _ => rfl) rfl ?_
    refine yZ 13 ⟨rfl, rfl⟩ rfl (by kernel_rfl) rfl (fun _ => rfl) rfl ?_
    refine vG (by kernel_rfl) ?_
    repeat' first | refine zL ?_ | refine zA ?_ | refine zQ [] ?_ | (refine isA ?_; refine zf rfl ?_) | (refine isL ?_; refine zV rfl (by kernel_rfl) rfl rfl ?_) | (refine zc rfl ?_; refine zU rfl (by kernel_rfl) rfl rfl ?_) | refine zD ?_ | refine zB _ rfl (by kernel_rfl) ?_ | refine zW rfl ?_ | refine zX rfl ?_ | refine zC ?_ | with_reducible refine zO ?_ | refine zI ?_ | refine zJ ?_ | (with_reducible first | refine zM ?_ | refine zN ?_ | refine zF ?_ | refine zH ?_ | refine zG ?_) | refine zP ?_
    exact wS (yU rfl rfl rfl rfl rfl) rfl rfl (zE _ _) (by repeat' first | exact Purs.nil | refine Purs.cons ?_ ?_ | exact zk rfl | exact yY rfl rfl | exact zk (T := rwT) (x := []) rfl | exact Pur.nil | exact Pur.same rfl | exact xF (by assumption)) (by repeat' first | exact Purs.nil | refine Purs.cons ?_ ?_ | exact zk rfl | exact yY rfl rfl | exact zk (T := rwT) (x := []) rfl | exact Pur.nil | exact Pur.same rfl | exact xF (by assumption)) (.cons (.same rfl) (.cons (.same rfl) .nil))
  · have e : xr ⟨inp, pos, heap, dfr, out, [a], (i : Int), rp, 3, wr⟩ = ⟨inp, pos, heap, dfr, out, [a], (i : Int) + 1, rp, 3, wr⟩ := by
      have h' : decide ((i : Int) + 1 = (inp.length : Int)) = false := by rw [← ew]; exact h
      simp only [xr, h', cond_false]
    rw [e]
    repeat' first | refine zL ?_ | refine zA ?_ | (refine isA ?_; refine zf rfl ?_) | (refine isL ?_; refine zV rfl (by kernel_rfl) rfl rfl ?_) | (refine zc rfl ?_; refine zU rfl (by kernel_rfl) rfl rfl ?_) | refine zD ?_ | refine zB _ rfl (by kernel_rfl) ?_ | refine zW rfl ?_ | refine zX rfl ?_ | refine zC ?_ | with_reducible refine zO ?_ | refine zI ?_ | refine zJ ?_ | (with_reducible first | refine zM ?_ | refine zN ?_ | refine zF ?_ | refine zH ?_ | refine zG ?_) | refine zP ?_
    refine nl 0 7 14 rfl ?_
    refine xC 0 ⟨rfl, rfl⟩ rfl (by kernel_rfl) rfl (fun H hG => mp rfl rfl (hG.2.trans rfl) rfl rfl rfl) rfl ?_
    refine yZ 1 ⟨rfl, rfl⟩ rfl (by kernel_rfl) rfl (fun _ => rfl) rfl ?_
    refine xC 2 ⟨rfl, rfl⟩ rfl (by kernel_rfl) rfl (fun H hG => xv rfl rfl (hG.1.trans rfl) rfl rfl) rfl ?_
    refine xC 3 ⟨rfl, rfl⟩ rfl (by kernel_rfl) rfl (fun H hG => zz (t := rnT) (xs := [a]) (z := a) rfl rfl rfl rfl (Int.le_refl 0) hz0) rfl ?_
    refine yZ 4 ⟨rfl, rfl⟩ rfl (by kernel_rfl) rfl (fun _ => rfl) rfl ?_
    refine yZ 5 ⟨rfl, rfl⟩ rfl (by kernel_rfl) rfl (fun _ => rfl) rfl ?_
    refine yZ 6 ⟨rfl, rfl⟩ rfl (by kernel_rfl) rfl (fun _ => rfl) rfl ?_
    refine xC 7 ⟨rfl, rfl⟩ rfl (by kernel_rfl) rfl (fun H hG => xv rfl rfl (hG.1.trans rfl) rfl rfl) rfl ?_
    refine xC 8 ⟨rfl, rfl⟩ rfl (by kernel_rfl) rfl (fun H hG => zz (t := rwT) (xs := a) (z := r) rfl rfl rfl rfl (Int.natCast_nonneg i) h1) rfl ?_
    refine yZ 9 ⟨rfl, rfl⟩ rfl (by kernel_rfl) rfl (fun _ => rfl) rfl ?_
    refine xC 10 ⟨rfl, rfl⟩ rfl (by kernel_rfl) rfl (fun H hG => yh (cs := rwE r) rfl rfl rfl rfl rfl) rfl ?_
    refine wY 11 (by kernel_rfl) ?_
    refine qA rfl rfl (sQ (m := 0) (T := tab) TabC.ok rfl rfl rfl rfl rfl rfl rfl rfl rfl rfl) ⟨rfl, rfl⟩ rfl ?_
    refine yZ 12 ⟨rfl, rfl⟩ rfl (by kernel_rfl) rfl (fun _ => rfl) rfl ?_
    refine yZ 13 ⟨rfl, rfl⟩ rfl (by kernel_rfl) rfl (fun _ => rfl) rfl ?_
    refine vG (by kernel_rfl) ?_
    repeat' first | refine zL ?_ | refine zA ?_ | refine zQ [] ?_ | (refine isA ?_; refine zf rfl ?_) | (refine isL ?_; refine zV rfl (by kernel_rfl) rfl rfl ?_) | (refine zc rfl ?_; refine zU rfl (by kernel_rfl) rfl rfl ?_) | refine zD ?_ | refine zB _ rfl (by kernel_rfl) ?_ | refine zW rfl ?_ | refine zX rfl ?_ | refine zC ?_ | with_reducible refine zO ?_ | refine zI ?_ | refine zJ ?_ | (with_reducible first | refine zM ?_ | refine zN ?_ | refine zF ?_ | refine zH ?_ | refine zG ?_) | refine zP ?_
    exact wS (yU rfl rfl rfl rfl rfl) rfl rfl (zE _ _) (by repeat' first | exact Purs.nil | refine Purs.cons ?_ ?_ | exact zk rfl | exact yY rfl rfl | exact zk (T := rwT) (x := []) rfl | exact Pur.nil | exact Pur.same rfl | exact xF (by assumption)) (by repeat' first | exact Purs.nil | refine Purs.cons ?_ ?_ | exact zk rfl | exact yY rfl rfl | exact zk (T := rwT) (x := []) rfl | exact Pur.nil | exact Pur.same rfl | exact xF (by assumption)) (.cons (.same rfl) (.cons (.same rfl) .nil))
end Go.Proofs.Ytojcojanokhnaaa.Ab
namespace Go.Proofs.Ytojcojanokhnaaa.Ab
open Go.RowKit
theorem jK {H : List Reg} {h zi ty o : Nat} {pre : List V} {outs : List Rn} {run : Rn} (hp : pre.length = o) (hH : H[h]? = some ⟨ty, 1, pre ++ rnT.flat outs ++ [.sl zi 0 run.length], 0⟩) (hz : H[zi]? = some (rwR run)) : Pur true H (.sl h o (outs.length + 1)) (rnL (outs ++ [run])) := by
  subst hp
  have fl : (rnT.flat outs).length = outs.length := by rw [yL]; show outs.length * 1 = _; omega
  have e : (outs ++ [run]).length = outs.length + 1 := by simp
  rw [← e]
  refine .slN hH (Or.inr ⟨rfl, rfl⟩) (Nat.lt_succ_self 0) (by simp only [List.length_append, fl, List.length_singleton]; omega) ?_
  have q : (List.take ((outs ++ [run]).length * 1) (List.drop (pre.length * 1) (pre ++ rnT.flat outs ++ [.sl zi 0 run.length]))) = rnT.flat outs ++ [.sl zi 0 run.length] := by
    rw [Nat.mul_one, Nat.mul_one, List.append_assoc, List.drop_append_of_le_length (Nat.le_refl _), List.drop_length, List.nil_append, List.take_of_length_le (by simp only [List.length_append, fl, List.length_singleton]; omega)]
  show Purs true H (List.take ((outs ++ [run]).length * 1) (List.drop (pre.length * 1) (pre ++ rnT.flat outs ++ [.sl zi 0 run.length]))) (rnT.flat (outs ++ [run]))
  rw [q, tc]
  exact sh (tU (zE _ _)) (.cons (zk hz) .nil)
theorem jE (inp heap dfr out : List Rw) (pos wr g : Int) (a b : Rn) (rest : List Rn) (hok : okSo ⟨inp, pos, heap, dfr, out, a :: b :: rest, a.length, b.length, 2, wr⟩) (hv : vS ⟨inp, pos, heap, dfr, out, a :: b :: rest, a.length, b.length, 2, wr⟩ = true) (hg : inV g 8 60 = true) :
    zy Go.Proofs.Try.prog 14 [.agg (soE ⟨inp, pos, heap, dfr, out, a :: b :: rest, a.length, b.length, 2, wr⟩), I g] [] (.tup [.agg (soH ⟨inp, pos, heap, dfr, [], rest ++ [out], 0, 0, cond (decide (rest.length + 1 = 0)) 4 (cond (decide (rest.length + 1 = 1)) 3 2), wr⟩), rwL [], B true]) [rwR (⟨inp, pos, heap, dfr, [], rest ++ [out], 0, 0, cond (decide (rest.length + 1 = 0)) 4 (cond (decide (rest.length + 1 = 1)) 3 2), wr⟩ : So).heap] true := by
  have g5 := hok.runs
  simp only [List.length_cons] at g5
  have ac := wF _ hok
  have a1 := tt _ hok
  rw [hv] at a1
  have a2 := uI g 8 60
  rw [hg] at a2
  have b1 := wT (a :: b :: rest) 0 a.length hok.rn (by decide)
  have b2 := wT (a :: b :: rest) 1 b.length hok.rn (by decide)
  have e0 : wX (a :: b :: rest) 0 a.length = [] := by simp [wX]
  have e1 : wX (a :: b :: rest) 1 b.length = [] := by simp [wX]
  rw [e0] at b1
  rw [e1] at b2
  have fl : (rnT.flat (a :: b :: rest)).length = 2 + rest.length := by rw [yL]; show (a :: b :: rest).length * 1 = _; simp; omega
  refine yS 4 27 [5, 6] Go.Proofs.Try.func14 rfl rfl rfl ?_
  simp only [Go.Proofs.Try.ntmps14, List.length_cons, List.length_nil, Nat.reduceAdd, Nat.reduceSub, List.replicate_succ, List.replicate_zero, List.cons_append, List.nil_append]
  repeat' first | (refine zh rfl (fun h => absurd (of_decide_eq_true h) (by simp only; decide)) (fun _ => ?_)) | (refine zh rfl (fun _ => ?_) (fun h => absurd (of_decide_eq_false h) (by simp only; decide))) | (refine uU 7 (fun H => H[7]? = some (bxS (soP 2 ⟨inp, pos, heap, dfr, out, a :: b :: rest, a.length, b.length, 2, wr⟩)) ∧ H[6]? = some (rnR (a :: b :: rest))) 10 rfl (xb ?_)) | refine zL ?_ | refine zA ?_ | refine zQ [] ?_ | (refine isA ?_; refine zf rfl ?_) | (refine isL ?_; refine zV rfl (by kernel_rfl) rfl rfl ?_) | (refine zc rfl ?_; refine zU rfl (by kernel_rfl) rfl rfl ?_) | (refine zr 65 ?_; refine za rfl (yO (r' := .agg (soP 2 ⟨inp, pos, heap, dfr, out, a :: b :: rest, a.length, b.length, 2, wr⟩)) (H' := bxS (soE ⟨inp, pos, heap, dfr, out, a :: b :: rest, a.length, b.length, 2, wr⟩) :: bxS zS :: soW ⟨inp, pos, heap, dfr, out, a :: b :: rest, a.length, b.length, 2, wr⟩) rfl ac (.cons (.same rfl) .nil) rfl (by simp only [List.map_cons, List.map_nil, shR, yT _ (yi (zE _ _))]; rfl)) rfl ?_) | (refine zq 65 rfl ?_; refine zT rfl (by kernel_rfl) rfl (yO (r' := .agg (soP 2 ⟨inp, pos, heap, dfr, out, a :: b :: rest, a.length, b.length, 2, wr⟩)) (H' := bxS (soE ⟨inp, pos, heap, dfr, out, a :: b :: rest, a.length, b.length, 2, wr⟩) :: bxS zS :: soW ⟨inp, pos, heap, dfr, out, a :: b :: rest, a.length, b.length, 2, wr⟩) rfl ac (.cons (.same rfl) .nil) rfl (by simp only [List.map_cons, List.map_nil, shR, yT _ (yi (zE _ _))]; rfl)) rfl ?_) | (refine zr 18 ?_; refine za rfl (zK rfl a1 (.cons (.same rfl) .nil) rfl) rfl ?_) | (refine zq 18 rfl ?_; refine zT rfl (by kernel_rfl) rfl (zK rfl a1 (.cons (.same rfl) .nil) rfl) rfl ?_) | (refine zr 66 ?_; refine za rfl (zK rfl a2 (.cons (.same rfl) (.cons (.same rfl) (.cons (.same rfl) .nil))) rfl) rfl ?_) | (refine zq 66 rfl ?_; refine zT rfl (by kernel_rfl) rfl (zK rfl a2 (.cons (.same rfl) (.cons (.same rfl) (.cons (.same rfl) .nil))) rfl) rfl ?_) | (refine zr 71 ?_; refine za rfl (zK rfl b1 (.cons (.same rfl) (.cons (.same rfl) (.cons (.same rfl) .nil))) rfl) rfl ?_) | (refine zq 71 rfl ?_; refine zT rfl (by kernel_rfl) rfl (zK rfl b1 (.cons (.same rfl) (.cons (.same rfl) (.cons (.same rfl) .nil))) rfl) rfl ?_) | (refine zr 71 ?_; refine za rfl (zK rfl b2 (.cons (.same rfl) (.cons (.same rfl) (.cons (.same rfl) .nil))) rfl) rfl ?_) | (refine zq 71 rfl ?_; refine zT rfl (by kernel_rfl) rfl (zK rfl b2 (.cons (.same rfl) (.cons (.same rfl) (.cons (.same rfl) .nil))) rfl) rfl ?_) | refine zD ?_ | refine zB _ rfl (by kernel_rfl) ?_ | refine zW rfl ?_ | refine zX rfl ?_ | refine zC ?_ | with_reducible refine zO ?_ | refine zI ?_ | refine zJ ?_ | (with_reducible first | refine zM ?_ | refine zN ?_ | refine zF ?_ | refine zH ?_ | refine zG ?_) | refine zP ?_
  refine wI ?_
  refine yD 0 (Or.inr ⟨rfl, rfl⟩) rfl rfl (by kernel_rfl) rfl (fun _ => rfl) rfl ?_
  refine tV 1 ⟨rfl, rfl⟩ (by kernel_rfl) rfl (by kernel_rfl) rfl (fun _ hG => xv rfl rfl hG.1 rfl rfl) rfl ?_
  refine tV 2 ⟨rfl, rfl⟩ (by kernel_rfl) rfl (by kernel_rfl) rfl (fun _ hG => yq (l := (2 : Int)) (h := ((a :: b :: rest).length : Int)) rfl rfl hG.2 (Nat.zero_le _) rfl (.yes _ rfl) (.no _) (by decide) (by simp; omega) (by simp)) rfl ?_
  refine yD 3 (Or.inr ⟨rfl, rfl⟩) rfl rfl (by kernel_rfl) rfl (fun _ => rfl) rfl ?_
  refine tV 4 ⟨rfl, rfl⟩ (by kernel_rfl) rfl (by kernel_rfl) rfl (fun _ hG => xv rfl rfl hG.1 rfl rfl) rfl ?_
  refine yD 5 (Or.inr ⟨rfl, rfl⟩) rfl rfl (by kernel_rfl) rfl (fun _ => rfl) rfl ?_
  refine xR 6 (by kernel_rfl) rfl rfl rfl (Or.inr ⟨rfl, rfl⟩) rfl ?_
  refine jM 7 (by kernel_rfl) rfl rfl (dc (hz := 8) (v := .sl 5 0 out.length) (n := rest.length) (off := 2) (cells := rnT.flat (a :: b :: rest)) rfl rfl rfl rfl rfl rfl fl (by omega)) (fun v H' hq => Or.inl (by kernel_rfl)) (fun v H' hq => ?_)
  obtain ⟨o', pre, p1, p2, rfl, rfl⟩ := hq
  refine ⟨_, _, rfl, ?_⟩
  refine yD 8 (Or.inl (by kernel_rfl)) rfl rfl (by kernel_rfl) rfl (fun _ => rfl) rfl ?_
  refine xR 9 (by kernel_rfl) rfl rfl rfl (Or.inl (by kernel_rfl)) rfl ?_
  refine vF (by kernel_rfl) ?_
  repeat' first | refine zL ?_ | refine zA ?_ | refine zQ [] ?_ | (refine isA ?_; refine zf rfl ?_) | (refine isL ?_; refine zV rfl (by kernel_rfl) rfl rfl ?_) | (refine zc rfl ?_; refine zU rfl (by kernel_rfl) rfl rfl ?_) | (refine zr 70 ?_; refine za rfl (yN rfl (tO _ _ _ _ _ _ _ _ _ _ _ _ _ _ _ _ _ _ _ _ _ _ _ _ _ _ _ _ _ _ _) rfl) rfl ?_) | (refine zq 70 rfl ?_; refine zT rfl (by kernel_rfl) rfl (yN rfl (tO _ _ _ _ _ _ _ _ _ _ _ _ _ _ _ _ _ _ _ _ _ _ _ _ _ _ _ _ _ _ _) rfl) rfl ?_) | refine zD ?_ | refine zB _ rfl (by kernel_rfl) ?_ | refine zW rfl ?_ | refine zX rfl ?_ | refine zC ?_ | with_reducible refine zO ?_ | refine zI ?_ | refine zJ ?_ | (with_reducible first | refine zM ?_ | refine zN ?_ | refine zF ?_ | refine zH ?_ | refine zG ?_) | refine zP ?_
  exact wS (yU rfl rfl rfl rfl rfl) rfl rfl (zE _ _) (by repeat' first | exact Purs.nil | refine Purs.cons ?_ ?_ | exact zk rfl | exact yY rfl rfl | exact zk (T := rwT) (x := []) rfl | exact Pur.nil | exact Pur.same rfl | exact xF (by assumption)) (.cons (zk rfl) (.cons (zk (T := rwT) (x := []) rfl) (.cons (jK p1 rfl rfl) (.cons (.same rfl) (.cons (.same rfl) (.cons (.same rfl) (.cons (.same rfl) .nil))))))) (.cons (zk (T := rwT) (x := []) rfl) (.cons (.same rfl) .nil))
theorem gu (s x : So) (g : Int) (r : List Rw) (hok : okSo s) (hv : vS s = true) (h1 : inV g 8 60 = true) (h : StepV s g x r) : zy Go.Proofs.Try.prog 14 [.agg (soE s), I g] [] (.tup [.agg (soH x), rwL r, B true]) [rwR x.heap] true := by
  have hV := tS.1 hv
  cases hV with
  | read b q => exact kJ s x g r hok hv h1 q.ph h
  | @merge b t ph c d rest i j hr hi hj m =>
    obtain ⟨inp, pos, heap, dfr, out, runs, lp, rp, ph', wr⟩ := s
    simp only at ph hr hi hj m
    subst ph hr hi hj
    have m1 := m.ha
    have m2 := m.hb
    cases h with
    | put h1 => simp at h1
    | pop h1 => simp at h1
    | swap h1 => simp at h1
    | close h1 => simp at h1
    | emit h1 => simp at h1
    | @merged a' b' rest' h3 h2 h4 h5 =>
      simp only [List.cons.injEq] at h2
      obtain ⟨rfl, rfl, rfl⟩ := h2
      simp only at h4 h5
      obtain rfl : i = c.length := by omega
      obtain rfl : j = d.length := by omega
      have e : yG (w6 ⟨inp, pos, heap, dfr, out, c :: d :: rest, c.length, d.length, 2, wr⟩) = ⟨inp, pos, heap, dfr, [], rest ++ [out], 0, 0, cond (decide (rest.length + 1 = 0)) 4 (cond (decide (rest.length + 1 = 1)) 3 2), wr⟩ := by
        simp [yG, w6]
      rw [e]
      exact jE inp heap dfr out pos wr g c d rest hok hv h1
    | @left a' b' rest' q h5 h2 h3 h4 =>
      simp only [List.cons.injEq] at h2
      obtain ⟨rfl, rfl, rfl⟩ := h2
      simp only [Int.toNat_natCast] at h3 h4
      exact dp inp heap dfr out pos wr g c d rest i j q hok hv h1 h3 m2 h4
    | @right a' b' rest' q h5 h2 h3 h4 =>
      simp only [List.cons.injEq] at h2
      obtain ⟨rfl, rfl, rfl⟩ := h2
      simp only [Int.toNat_natCast] at h3 h4
      exact fh inp heap dfr out pos wr g c d rest i j q hok hv h1 h3 m1 h4
  | @emit b t ph c i hr hi hl hrp ho =>
    obtain ⟨inp, pos, heap, dfr, out, runs, lp, rp, ph', wr⟩ := s
    simp only at ph hr hi
    subst ph hr hi
    cases h with
    | put h1 => simp at h1
    | pop h1 => simp at h1
    | swap h1 => simp at h1
    | close h1 => simp at h1
    | merged h1 => simp at h1
    | left h1 => simp at h1
    | right h1 => simp at h1
    | @emit a' q h5 h2 h3 =>
      simp only [List.cons.injEq, and_true] at h2
      subst h2
      simp only [Int.toNat_natCast] at h3
      exact dq inp heap dfr out pos wr rp g c i q hok hv h1 h3
  | done b t ph =>
    cases h with
    | put h1 => omega
    | pop h1 => omega
    | swap h1 => omega
    | close h1 => omega
    | merged h1 => omega
    | left h1 => omega
    | right h1 => omega
    | emit h1 => omega
theorem eJ (s x : So) (g : Int) (r : List Rw) (hok : okSo s) (hv : vS s = true) (h1 : inV g 8 60 = true) (h : StepV s g x r) : zy Go.Proofs.Try.prog 14 [.agg (soE s), I g] [] (.tup [.agg (soE x), rwL r, B true]) [] true :=
  (gu s x g r hok hv h1 h).frozen (fp x r true)
end Go.Proofs.Ytojcojanokhnaaa.Ab
namespace Go.Proofs.Ytojcojanokhnaaa.Ab
open Go.RowKit
abbrev roL (rs : List Rw) (k pk w : Int) : List V := [rwL rs, I k, I pk, I w]
theorem eL (xs : List Rw) (gs : List Int) (h1 : xs.length ≤ 1000000000) (h2 : gs.length ≤ 1000000000) (h : avR xs = false ∨ v3 gs = false) : zy Go.Proofs.Try.prog 24 [rwL xs, gsL gs] [] (.tup [.agg (roL [] 0 0 0), B false]) [] true := by
  have c1 := gz gs h2
  have c0 := dX xs h1
  rcases Bool.eq_false_or_eq_true (avR xs) with hv | hv
  · have hg : v3 gs = false := by rw [hv] at h; simpa using h
    rw [hg] at c1
    rw [hv] at c0
    refine yS 4 40 [5] Go.Proofs.Try.func24 rfl rfl rfl ?_
    simp only [Go.Proofs.Try.ntmps24, List.length_cons, List.length_nil, Nat.reduceAdd, Nat.reduceSub, List.replicate_succ, List.replicate_zero, List.cons_append, List.nil_append]
    repeat' first | refine zL ?_ | refine zA ?_ | refine zQ [] ?_ | (refine isA ?_; refine zf rfl ?_) | (refine isL ?_; refine zV rfl (by kernel_rfl) rfl rfl ?_) | (refine zc rfl ?_; refine zU rfl (by kernel_rfl) rfl rfl ?_) | (refine zr 97 ?_; refine za rfl (zK rfl c0 (.cons (.same rfl) .nil) rfl) rfl ?_) | (refine zq 97 rfl ?_; refine zT rfl (by kernel_rfl) rfl (zK rfl c0 (.cons (.same rfl) .nil) rfl) rfl ?_) | (refine zr 98 ?_; refine za rfl (zK rfl c1 (.cons (.same rfl) .nil) rfl) rfl ?_) | (refine zq 98 rfl ?_; refine zT rfl (by kernel_rfl) rfl (zK rfl c1 (.cons (.same rfl) .nil) rfl) rfl ?_) | refine zD ?_ | refine zB _ rfl (by kernel_rfl) ?_ | refine zW rfl ?_ | refine zX rfl ?_ | refine zC ?_ | with_reducible refine zO ?_ | refine zI ?_ | refine zJ ?_ | (with_reducible first | refine zM ?_ | refine zN ?_ | refine zF ?_ | refine zH ?_ | refine zG ?_) | refine zP ?_
    exact nY (yU rfl rfl rfl rfl rfl) (.tup (.cons (.agg (by repeat' first | exact Purs.nil | refine Purs.cons ?_ ?_ | exact zk rfl | exact yY rfl rfl | exact zk (T := rwT) (x := []) rfl | exact Pur.nil | exact Pur.same rfl | exact xF (by assumption))) (.cons (.same rfl) .nil)))
  · rw [hv] at c0
    refine yS 4 40 [5] Go.Proofs.Try.func24 rfl rfl rfl ?_
    simp only [Go.Proofs.Try.ntmps24, List.length_cons, List.length_nil, Nat.reduceAdd, Nat.reduceSub, List.replicate_succ, List.replicate_zero, List.cons_append, List.nil_append]
    repeat' first | refine zL ?_ | refine zA ?_ | refine zQ [] ?_ | (refine isA ?_; refine zf rfl ?_) | (refine isL ?_; refine zV rfl (by kernel_rfl) rfl rfl ?_) | (refine zc rfl ?_; refine zU rfl (by kernel_rfl) rfl rfl ?_) | (refine zr 97 ?_; refine za rfl (zK rfl c0 (.cons (.same rfl) .nil) rfl) rfl ?_) | (refine zq 97 rfl ?_; refine zT rfl (by kernel_rfl) rfl (zK rfl c0 (.cons (.same rfl) .nil) rfl) rfl ?_) | refine zD ?_ | refine zB _ rfl (by kernel_rfl) ?_ | refine zW rfl ?_ | refine zX rfl ?_ | refine zC ?_ | with_reducible refine zO ?_ | refine zI ?_ | refine zJ ?_ | (with_reducible first | refine zM ?_ | refine zN ?_ | refine zF ?_ | refine zH ?_ | refine zG ?_) | refine zP ?_
    exact nY (yU rfl rfl rfl rfl rfl) (.tup (.cons (.agg (by repeat' first | exact Purs.nil | refine Purs.cons ?_ ?_ | exact zk rfl | exact yY rfl rfl | exact zk (T := rwT) (x := []) rfl | exact Pur.nil | exact Pur.same rfl | exact xF (by assumption))) (.cons (.same rfl) .nil)))
theorem eK (xs : List Rw) (gs : List Int) (y : So) (m : Nat) (rs : List Rw) (p : Int) (h1 : xs.length ≤ 1000000000) (h2 : gs.length ≤ 1000000000) (hv : avR xs = true) (hg : v3 gs = true) (hr : Runs gs (soN xs) 0 [] 0 y m rs p) (hm : m ≤ 100000) :
    zy Go.Proofs.Try.prog 24 [rwL xs, gsL gs] [] (.tup [.agg (roL rs m p y.wr), B true]) [] true := by
  have c0 := dX xs h1
  rw [nsS, hv, cond_true] at c0
  have c1 := gz gs h2
  rw [hg] at c1
  obtain ⟨gall, gne⟩ := pJ hg
  have hvs := nz hv
  have hw0 : (soN xs).wr ≤ 0 := Int.le_refl 0
  generalize soN xs = s0 at c0 hr hvs hw0
  refine yS 4 40 [5] Go.Proofs.Try.func24 rfl rfl rfl ?_
  simp only [Go.Proofs.Try.ntmps24, List.length_cons, List.length_nil, Nat.reduceAdd, Nat.reduceSub, List.replicate_succ, List.replicate_zero, List.cons_append, List.nil_append]
  repeat' first | refine zL ?_ | refine zA ?_ | refine zQ [] ?_ | (refine isA ?_; refine zf rfl ?_) | (refine isL ?_; refine zV rfl (by kernel_rfl) rfl rfl ?_) | (refine zc rfl ?_; refine zU rfl (by kernel_rfl) rfl rfl ?_) | (refine zr 97 ?_; refine za rfl (zK rfl c0 (.cons (.same rfl) .nil) rfl) rfl ?_) | (refine zq 97 rfl ?_; refine zT rfl (by kernel_rfl) rfl (zK rfl c0 (.cons (.same rfl) .nil) rfl) rfl ?_) | (refine zr 98 ?_; refine za rfl (zK rfl c1 (.cons (.same rfl) .nil) rfl) rfl ?_) | (refine zq 98 rfl ?_; refine zT rfl (by kernel_rfl) rfl (zK rfl c1 (.cons (.same rfl) .nil) rfl) rfl ?_) | refine zD ?_ | refine zB _ rfl (by kernel_rfl) ?_ | refine zW rfl ?_ | refine zX rfl ?_ | refine zC ?_ | with_reducible refine zO ?_ | refine zI ?_ | refine zJ ?_ | (with_reducible first | refine zM ?_ | refine zN ?_ | refine zF ?_ | refine zH ?_ | refine zG ?_) | refine zP ?_
  refine z9 (α := { q : So × Nat × List Rw × Int // Runs gs q.1 q.2.1 q.2.2.1 q.2.2.2 y m rs p ∧ VS q.1 ∧ q.1.wr ≤ 4 * q.2.1 ∧ q.2.2.1.length ≤ q.2.1 }) (fun q => ⟨(.any :: (gsL gs) :: .any :: .any :: (.ptr 0 0) :: .any :: (.ptr 1 0) :: .any :: (.ptr 2 0) :: .any :: .any :: .any :: .any :: .any :: .any :: .any :: .any :: .any :: .any :: .any :: .any :: .any :: .any :: .any :: .any :: .any :: .any :: .any :: .any :: .any :: .any :: .any :: .any :: .any :: .any :: .any :: .any :: .any :: .any :: .any :: .any :: .any :: .any :: .any :: .any :: .any :: .any :: .any :: .any :: .any :: .any :: .any :: .any :: .any :: .any :: .any :: .any :: .any :: .any :: .any :: .any :: .any :: .any :: []), [bxO zRs, bxS (soE q.1.1), bxO (roC 3 q.1.2.2.1.length q.1.2.1 q.1.2.2.2 0), rwR q.1.2.2.1], 0⟩) (fun q => m - q.1.2.1) ⟨(s0, 0, [], 0), hr, hvs, hw0, Nat.le_refl _⟩ ?_ ?_
  · refine Sub.trans (T := ⟨(.any :: (gsL gs) :: .any :: .any :: (.ptr 0 0) :: .any :: (.ptr 1 0) :: .any :: (.ptr 2 0) :: .any :: .any :: .any :: .any :: .any :: .any :: .any :: .any :: .any :: .any :: .any :: .any :: .any :: .any :: .any :: .any :: .any :: .any :: .any :: .any :: .any :: .any :: .any :: .any :: .any :: .any :: .any :: .any :: .any :: .any :: .any :: .any :: .any :: .any :: .any :: .any :: .any :: .any :: .any :: .any :: .any :: .any :: .any :: .any :: .any :: .any :: .any :: .any :: .any :: .any :: .any :: .any :: .any :: .any :: []), [bxO zRs, bxS (soE s0), bxO zRs], 0⟩) (vi 78 3 (.rest _) (.cons (.rest _) (.cons (.rest _) (.cons (.cons .nil (.rest _)) (.rest _))))) ?_
    exact yW [0, 1, 2] rfl rfl (by decide) (.cons rfl rfl rfl rfl (z5 rfl) (.cons rfl rfl rfl rfl (z5 rfl) (.cons rfl rfl rfl rfl (z5 rfl) .nil))) (by repeat' first | exact zj | refine zZ ?_ ?_ | exact zp | exact le_refl rfl | exact zm rfl rfl | exact zu rfl)
  · rintro ⟨⟨s, k, rows, pk⟩, jr, jv, jw, jl⟩
    simp only at jr jv jw jl
    have jk := jr.le
    have jok := jv.ok
    repeat' first | refine zL ?_ | refine zA ?_ | refine zQ [] ?_ | (refine isA ?_; refine zf rfl ?_) | (refine isL ?_; refine zV rfl (by kernel_rfl) rfl rfl ?_) | (refine zc rfl ?_; refine zU rfl (by kernel_rfl) rfl rfl ?_) | refine zD ?_ | refine zB _ rfl (by kernel_rfl) ?_ | refine zW rfl ?_ | refine zX rfl ?_ | refine zC ?_ | with_reducible refine zO ?_ | refine zI ?_ | refine zJ ?_ | (with_reducible first | refine zM ?_ | refine zN ?_ | refine zF ?_ | refine zH ?_ | refine zG ?_) | refine zP ?_
    refine zh rfl (fun h => ?_) (fun h => ?_)
    · have hp : s.ph ≠ 4 := by simpa using h
      cases jr with
      | done h4 => exact absurd h4 hp
      | @step _ x _ _ _ _ r _ _ _ _ st t =>
        obtain ⟨g8, g60⟩ := gall _ (pK gne k)
        have hin : inV (grV gs k) 8 60 = true := xS.2 ⟨g8, g60⟩
        have hx := ui jv g8 g60 (by omega) st
        have hwx := qn st (VS.base jv).wr (by omega)
        have hrl := pm st
        have c2 := eJ s x (grV gs k) r jok (tS.2 jv) hin st
        have m1 := pS x hx.ok
        have hgl : 0 < gs.length := List.length_pos_iff.2 gne
        have hz : gs[(((k : Int).tmod (gs.length : Int)).toNat)]? = some (grV gs k) := by
          rw [← Int.ofNat_tmod, Int.toNat_natCast, grV, List.getD_eq_getElem?_getD, List.getElem?_eq_getElem (Nat.mod_lt _ hgl)]; rfl
        have hz0 : 0 ≤ (k : Int).tmod (gs.length : Int) := by rw [← Int.ofNat_tmod]; exact Int.natCast_nonneg _
        generalize grV gs k = g at c2 hz
        repeat' first | (refine uU 15 (fun H => H[1]? = some (bxS (soE s)) ∧ H[2]? = some (bxO (roC 3 rows.length k pk 0))) 18 rfl (xb ?_)) | refine zL ?_ | refine zA ?_ | refine zQ [] ?_ | (refine isA ?_; refine zf rfl ?_) | (refine isL ?_; refine zV rfl (by kernel_rfl) rfl rfl ?_) | (refine zc rfl ?_; refine zU rfl (by kernel_rfl) rfl rfl ?_) | refine zD ?_ | refine zB _ rfl (by kernel_rfl) ?_ | refine zW rfl ?_ | refine zX rfl ?_ | refine zC ?_ | with_reducible refine zO ?_ | refine zI ?_ | refine zJ ?_ | (with_reducible first | refine zM ?_ | refine zN ?_ | refine zF ?_ | refine zH ?_ | refine zG ?_) | refine zP ?_
        refine wI ?_
        refine tV 0 ⟨rfl, rfl⟩ (by kernel_rfl) rfl (by kernel_rfl) rfl (fun _ hG => mp rfl rfl hG.1 rfl rfl rfl) rfl ?_
        refine yD 1 (Or.inr ⟨rfl, rfl⟩) rfl rfl (by kernel_rfl) rfl (fun _ => rfl) rfl ?_
        refine yD 2 (Or.inr ⟨rfl, rfl⟩) rfl rfl (by kernel_rfl) rfl (fun _ => rfl) rfl ?_
        refine tV 3 ⟨rfl, rfl⟩ (by kernel_rfl) rfl (by kernel_rfl) rfl (fun _ hG => xv rfl rfl hG.2 rfl rfl) rfl ?_
        refine yD 4 (Or.inr ⟨rfl, rfl⟩) rfl rfl (by kernel_rfl) rfl (fun _ => rfl) rfl ?_
        refine yD 5 (Or.inr ⟨rfl, rfl⟩) rfl rfl (by kernel_rfl) rfl (fun _ => rfl) rfl ?_
        refine ul 6 (Or.inr ⟨rfl, rfl⟩) rfl rfl (by kernel_rfl) rfl (fun _ => sS rfl rfl rfl (by omega)) rfl ?_
        refine ul 7 (Or.inr ⟨rfl, rfl⟩) rfl rfl (by kernel_rfl) rfl (fun _ => zz (t := yP) (z := g) rfl rfl rfl rfl hz0 hz) rfl ?_
        refine yD 8 (Or.inr ⟨rfl, rfl⟩) rfl rfl (by kernel_rfl) rfl (fun _ => rfl) rfl ?_
        refine ul 9 (Or.inr ⟨rfl, rfl⟩) rfl rfl (by kernel_rfl) rfl (fun _ => zK rfl c2 (.cons (.same rfl) (.cons (.same rfl) .nil)) rfl) rfl ?_
        refine yD 10 (Or.inr ⟨rfl, rfl⟩) rfl rfl (by kernel_rfl) rfl (fun _ => rfl) rfl ?_
        refine yD 11 (Or.inr ⟨rfl, rfl⟩) rfl rfl (by kernel_rfl) rfl (fun _ => rfl) rfl ?_
        refine yD 12 (Or.inr ⟨rfl, rfl⟩) rfl rfl (by kernel_rfl) rfl (fun _ => rfl) rfl ?_
        refine yD 13 (Or.inr ⟨rfl, rfl⟩) rfl rfl (by kernel_rfl) rfl (fun _ => rfl) rfl ?_
        refine xR 14 (by kernel_rfl) rfl rfl rfl (Or.inr ⟨rfl, rfl⟩) rfl ?_
        refine xR 15 (by kernel_rfl) rfl rfl rfl (Or.inl (by kernel_rfl)) rfl ?_
        refine yD 16 (Or.inl (by kernel_rfl)) rfl rfl (by kernel_rfl) rfl (fun _ => rfl) rfl ?_
        refine yD 17 (Or.inl (by kernel_rfl)) rfl rfl (by kernel_rfl) rfl (fun _ => rfl) rfl ?_
        refine vF (by kernel_rfl) ?_
        repeat' first | refine zL ?_ | refine zA ?_ | refine zQ [6] ?_ | (refine isA ?_; refine zf rfl ?_) | (refine isL ?_; refine zV rfl (by kernel_rfl) rfl rfl ?_) | (refine zc rfl ?_; refine zU rfl (by kernel_rfl) rfl rfl ?_) | (refine xd ?_; refine za rfl (yX (t := rwT) (xs := rows) (ys := r) rfl rfl rfl rfl (.lst _ _) (by omega) rfl) rfl ?_) | (refine xH rfl ?_; refine zT rfl (by kernel_rfl) rfl (yX (t := rwT) (xs := rows) (ys := r) rfl rfl rfl rfl (.lst _ _) (by omega) rfl) rfl ?_) | (refine zr 20 ?_; refine za rfl (zK rfl m1 (.cons (.same rfl) .nil) rfl) rfl ?_) | (refine zq 20 rfl ?_; refine zT rfl (by kernel_rfl) rfl (zK rfl m1 (.cons (.same rfl) .nil) rfl) rfl ?_) | (refine isL ?_; refine wx rfl (by kernel_rfl) rfl rfl ?_) | refine zD ?_ | refine zB _ rfl (by kernel_rfl) ?_ | refine zW rfl ?_ | refine zX rfl ?_ | refine zC ?_ | with_reducible refine zO ?_ | refine zI ?_ | refine zJ ?_ | (with_reducible first | refine zM ?_ | refine zN ?_ | refine zF ?_ | refine zH ?_ | refine zG ?_) | refine zP ?_
        have e9 : ((k + 1 : Nat) : Int) = IntKind.i64.wrap ((k : Int) + 1) := by rw [IntKind.wrap_i64]; have := t.le; omega
        refine ⟨⟨(x, k + 1, rows ++ r, mxV pk (yj x)), t, hx, by simp only; omega, by simp only [List.length_append]; omega⟩, by have := t.le; simp only; omega, ?_⟩
        exact yW [0, 1, 2, 5] rfl rfl (by decide) (.cons rfl rfl rfl rfl (z5 rfl) (.cons rfl rfl rfl rfl (z5 rfl) (.cons rfl rfl rfl rfl (by repeat' first | exact zj | refine zZ ?_ ?_ | exact le_refl rfl | exact zm rfl rfl | exact yC (congrArg _ e9)) (.cons rfl rfl rfl rfl (zY (zE _ _)) .nil)))) (by repeat' first | exact zj | refine zZ ?_ ?_ | exact zp | exact le_refl rfl | exact zm rfl rfl | exact zu rfl)
    · have hp : s.ph = 4 := by simpa using h
      cases jr with
      | step h4 => exact absurd hp h4
      | done h4 =>
        repeat' first | refine zL ?_ | refine zA ?_ | refine zQ [] ?_ | (refine isA ?_; refine zf rfl ?_) | (refine isL ?_; refine zV rfl (by kernel_rfl) rfl rfl ?_) | (refine zc rfl ?_; refine zU rfl (by kernel_rfl) rfl rfl ?_) | refine zD ?_ | refine zB _ rfl (by kernel_rfl) ?_ | refine zW rfl ?_ | refine zX rfl ?_ | refine zC ?_ | with_reducible refine zO ?_ | refine zI ?_ | refine zJ ?_ | (with_reducible first | refine zM ?_ | refine zN ?_ | refine zF ?_ | refine zH ?_ | refine zG ?_) | refine zP ?_
        exact nY (yU rfl rfl rfl rfl rfl) (.tup (.cons (.agg (by repeat' first | exact Purs.nil | refine Purs.cons ?_ ?_ | exact zk rfl | exact yY rfl rfl | exact zk (T := rwT) (x := []) rfl | exact Pur.nil | exact Pur.same rfl | exact xF (by assumption))) (.cons (.same rfl) .nil)))
end Go.Proofs.Ytojcojanokhnaaa.Ab
namespace Go.Proofs.Ytojcojanokhnaaa.Ab
open Go.RowKit
structure Passes (x : Int) (n : Nat) : Prop where
  top : x ≤ ((2 ^ n : Nat) : Int)
  low : n = 0 ∨ ((2 ^ (n - 1) : Nat) : Int) < x
  most : n ≤ 40
theorem qT : ∀ (N : Nat) (x : Int), N ≤ 40 → x ≤ ((2 ^ N : Nat) : Int) → ∃ n, n ≤ N ∧ Passes x n
  | 0, x, _, h => ⟨0, Nat.le_refl _, h, Or.inl rfl, by omega⟩
  | N + 1, x, hN, h => by
    rcases Int.lt_or_le ((2 ^ N : Nat) : Int) x with hlt | hle
    · exact ⟨N + 1, Nat.le_refl _, h, Or.inr (by rw [Nat.add_sub_cancel]; exact hlt), hN⟩
    · obtain ⟨n, h1, h2⟩ := qT N x (by omega) hle
      exact ⟨n, by omega, h2⟩
def mu (gs : List Int) : Int := gs.foldl mxV 0
theorem pM : ∀ (gs : List Int) (a : Int), a ≤ gs.foldl mxV a ∧ ∀ g ∈ gs, g ≤ gs.foldl mxV a
  | [], a => ⟨Int.le_refl _, fun g hg => absurd hg List.not_mem_nil⟩
  | x :: gs, a => by
    obtain ⟨h1, h2⟩ := pM gs (mxV a x)
    have h3 : a ≤ mxV a x ∧ x ≤ mxV a x := by unfold mxV; split <;> omega
    refine ⟨Int.le_trans h3.1 h1, fun g hg => ?_⟩
    rcases List.mem_cons.1 hg with rfl | hg
    · exact Int.le_trans h3.2 h1
    · exact h2 g hg
theorem fz {gs : List Int} {g : Int} (h : g ∈ gs) : g ≤ mu gs := (pM gs 0).2 g h
theorem fy (gs : List Int) : 0 ≤ mu gs := (pM gs 0).1
def sbV (n L : Int) : Int := cond (decide (n ≤ 0)) 1 (IntKind.i64.wrap (IntKind.i64.wrap (IntKind.i64.wrap (4 * n) + 2) + IntKind.i64.wrap (IntKind.i64.wrap (n + 1) * IntKind.i64.wrap (L + 1))))
def swV (T L : Int) : Int := IntKind.i64.wrap (T * IntKind.i64.wrap (L + 2))
end Go.Proofs.Ytojcojanokhnaaa.Ab
