/- What the row FnRevocation leans on, part 5: a walk over abstract values, and contracts proved with it. -/
import Derived.WalkKit
import Derived.Laws.Rows
import Derived.RowKit
import Derived.OrdersHeld
import Derived.Deep.RegionHeld3
import Derived.Deep.Draws
import Derived.BigCall
import Derived.KernelRfl
import Derived.Deep.Slices
import Derived.ChangeArms
import Derived.ChangeShapes
import Derived.WideShapes
import Derived.Test.YtojcojanokhnaaaProg
import Derived.Laws.StructEq
import Derived.Lib.Overlaps
import Derived.Test.YtojcojanokhnaaaZw3
set_option linter.unusedVariables false
set_option linter.unusedSimpArgs false
set_option maxRecDepth 20000
set_option maxHeartbeats 8000000
namespace Go.Proofs.Ytojcojanokhnaaa.Ab
open Go.RowKit
theorem qc {l : List V} {H K : List Reg} {m : Nat} {t : Tmp} {n : Nat} {v r : V} (hv : CellIs l H t n v) (hr : v = r) (hK : H = K) : (Exit.ret = .ret ∨ Exit.ret = .normal) ∧ ∃ v, CellIs l H t n v ∧ Out true r K v ⟨l, H, m⟩ := by
  subst hr
  subst hK
  exact ⟨Or.inl rfl, _, hv, kA (S := ⟨l, H, m⟩)⟩
theorem mH (a0 a1 a2 a3 a4 a5 a6 a7 : Reg) (x1 x6 x7 x8 x9 : Int) (h0 o0 n0 h2 o2 n2 h3 o3 n3 h4 o4 n4 h5 o5 n5 : Nat) :
    zy Go.Proofs.Try.prog 70 [.agg [.sl h0 o0 n0, I x1, .sl h2 o2 n2, .sl h3 o3 n3, .sl h4 o4 n4, .sl h5 o5 n5, I x6, I x7, I x8, I x9]] [a0, a1, a2, a3, a4, a5, a6, a7] (.agg [.sl h0 o0 n0, I x1, .sl h2 o2 n2, .sl h3 o3 n3, .sl h4 o4 n4, .sl h5 o5 n5, I 0, I 0, I (cond (decide (n5 = 0)) 4 (cond (decide (n5 = 1)) 3 2)), I x9])
      [a0, a1, a2, a3, a4, a5, a6, a7, bxS [.sl h0 o0 n0, I x1, .sl h2 o2 n2, .sl h3 o3 n3, .sl h4 o4 n4, .sl h5 o5 n5, I 0, I 0, I (cond (decide (n5 = 0)) 4 (cond (decide (n5 = 1)) 3 2)), I x9], bxS [.sl h0 o0 n0, I x1, .sl h2 o2 n2, .sl h3 o3 n3, .sl h4 o4 n4, .sl h5 o5 n5, I 0, I 0, I (cond (decide (n5 = 0)) 4 (cond (decide (n5 = 1)) 3 2)), I x9]] true := by
  have e0 : decide (n5 = 0) = decide ((n5 : Int) = 0) := decide_eq_decide.2 (by omega)
  have e1 : decide (n5 = 1) = decide ((n5 : Int) = 1) := decide_eq_decide.2 (by omega)
  rw [e0, e1]
  refine xo 2 27 Go.Proofs.Try.func70 rfl rfl ?_
  simp only [Go.Proofs.Try.ntmps70, List.length_cons, List.length_nil, Nat.reduceAdd, Nat.reduceSub, List.replicate_succ, List.replicate_zero, List.cons_append, List.nil_append]
  repeat' first | refine zK ?_ | refine zA ?_ | refine zL [] ?_ | (refine isA ?_; refine zf rfl ?_) | (refine isL ?_; refine zU rfl (by kernel_rfl) rfl rfl ?_) | (refine zb rfl ?_; refine zT rfl (by kernel_rfl) rfl rfl ?_) | refine zD ?_ | refine zB _ rfl (by kernel_rfl) ?_ | refine zV rfl ?_ | refine zW rfl ?_ | refine zC ?_ | with_reducible refine zO ?_ | refine zH ?_ | refine zI ?_ | (with_reducible first | refine zM ?_ | refine zN ?_ | refine zE ?_ | refine zG ?_ | refine zF ?_) | refine zP ?_ | refine zd rfl (fun hbr => ?_) (fun hbr => ?_)
  all_goals first
    | (exfalso; have p1 := of_decide_eq_true (by assumption : decide ((n5 : Int) = 1) = true); have p2 := of_decide_eq_true (by assumption : decide ((n5 : Int) = 0) = true); omega)
    | (refine qc (yS rfl rfl rfl rfl rfl) ?_ ?_ <;> simp only [*, cond_true, cond_false] <;> rfl)
theorem uq (a0 a1 a2 a3 a4 a5 a6 a7 a8 a9 a10 : Reg) (x1 x6 x7 x8 x9 : Int) (h0 o0 n0 h2 o2 n2 h3 o3 n3 h4 o4 n4 h5 o5 n5 : Nat) :
    zy Go.Proofs.Try.prog 70 [.agg [.sl h0 o0 n0, I x1, .sl h2 o2 n2, .sl h3 o3 n3, .sl h4 o4 n4, .sl h5 o5 n5, I x6, I x7, I x8, I x9]] [a0, a1, a2, a3, a4, a5, a6, a7, a8, a9, a10] (.agg [.sl h0 o0 n0, I x1, .sl h2 o2 n2, .sl h3 o3 n3, .sl h4 o4 n4, .sl h5 o5 n5, I 0, I 0, I (cond (decide (n5 = 0)) 4 (cond (decide (n5 = 1)) 3 2)), I x9])
      [a0, a1, a2, a3, a4, a5, a6, a7, a8, a9, a10, bxS [.sl h0 o0 n0, I x1, .sl h2 o2 n2, .sl h3 o3 n3, .sl h4 o4 n4, .sl h5 o5 n5, I 0, I 0, I (cond (decide (n5 = 0)) 4 (cond (decide (n5 = 1)) 3 2)), I x9], bxS [.sl h0 o0 n0, I x1, .sl h2 o2 n2, .sl h3 o3 n3, .sl h4 o4 n4, .sl h5 o5 n5, I 0, I 0, I (cond (decide (n5 = 0)) 4 (cond (decide (n5 = 1)) 3 2)), I x9]] true := by
  have e0 : decide (n5 = 0) = decide ((n5 : Int) = 0) := decide_eq_decide.2 (by omega)
  have e1 : decide (n5 = 1) = decide ((n5 : Int) = 1) := decide_eq_decide.2 (by omega)
  rw [e0, e1]
  refine xo 2 27 Go.Proofs.Try.func70 rfl rfl ?_
  simp only [Go.Proofs.Try.ntmps70, List.length_cons, List.length_nil, Nat.reduceAdd, Nat.reduceSub, List.replicate_succ, List.replicate_zero, List.cons_append, List.nil_append]
  repeat' first | refine zK ?_ | refine zA ?_ | refine zL [] ?_ | (refine isA ?_; refine zf rfl ?_) | (refine isL ?_; refine zU rfl (by kernel_rfl) rfl rfl ?_) | (refine zb rfl ?_; refine zT rfl (by kernel_rfl) rfl rfl ?_) | refine zD ?_ | refine zB _ rfl (by kernel_rfl) ?_ | refine zV rfl ?_ | refine zW rfl ?_ | refine zC ?_ | with_reducible refine zO ?_ | refine zH ?_ | refine zI ?_ | (with_reducible first | refine zM ?_ | refine zN ?_ | refine zE ?_ | refine zG ?_ | refine zF ?_) | refine zP ?_ | refine zd rfl (fun hbr => ?_) (fun hbr => ?_)
  all_goals first
    | (exfalso; have p1 := of_decide_eq_true (by assumption : decide ((n5 : Int) = 1) = true); have p2 := of_decide_eq_true (by assumption : decide ((n5 : Int) = 0) = true); omega)
    | (refine qc (yS rfl rfl rfl rfl rfl) ?_ ?_ <;> simp only [*, cond_true, cond_false] <;> rfl)
theorem eu (a0 a1 a7 : Reg) (s : So) (k : Nat) (r : Rw) (hok : okSo s) (hk : nA s.heap = (k : Nat)) (hr : s.heap[k]? = some r) :
    zy Go.Proofs.Try.prog 69 [.agg (soP 2 s)] [a0, a1, rwR s.input, rwR s.heap, rwR s.dfr, rwR s.out, rnR s.runs, a7]
      (.agg [.sl 2 0 s.input.length, I s.pos, .sl 11 0 (s.heap.take k ++ s.heap.drop (k + 1)).length, .sl 4 0 s.dfr.length, .sl 10 0 (s.out ++ [r]).length, .sl 6 0 s.runs.length, I s.lp, I s.rp, I s.ph, I (IntKind.i64.wrap (s.wr + yx r))])
      [a0, a1, rwR s.input, rwR s.heap, rwR s.dfr, { rwR s.out with mode := 2 }, rnR s.runs, a7, bxS [.sl 2 0 s.input.length, I s.pos, .sl 11 0 (s.heap.take k ++ s.heap.drop (k + 1)).length, .sl 4 0 s.dfr.length, .sl 10 0 (s.out ++ [r]).length, .sl 6 0 s.runs.length, I s.lp, I s.rp, I s.ph, I (IntKind.i64.wrap (s.wr + yx r))], bxS [.sl 2 0 s.input.length, I s.pos, .sl 11 0 (s.heap.take k ++ s.heap.drop (k + 1)).length, .sl 4 0 s.dfr.length, .sl 10 0 (s.out ++ [r]).length, .sl 6 0 s.runs.length, I s.lp, I s.rp, I s.ph, I (IntKind.i64.wrap (s.wr + yx r))], rwR (s.out ++ [r]), rwR (s.heap.take k ++ s.heap.drop (k + 1))] true := by
  have g1 := hok.heap
  have g4 := hok.out
  have hlt := (List.getElem?_eq_some_iff.1 hr).1
  have ai := eg s.heap (by omega)
  rw [hk] at ai
  refine xo 2 27 Go.Proofs.Try.func69 rfl rfl ?_
  simp only [Go.Proofs.Try.ntmps69, List.length_cons, List.length_nil, Nat.reduceAdd, Nat.reduceSub, List.replicate_succ, List.replicate_zero, List.cons_append, List.nil_append]
  repeat' first | (refine zL (id := 9) [8, 10] ?_) | (refine sO rfl ?_; refine zX rfl (by kernel_rfl) rfl (yN rfl rfl rfl rfl rfl) rfl ?_) | (refine y9 rfl ?_; refine sL rfl (by kernel_rfl) rfl (yX (t := rwT) (xs := s.out) (ys := [r]) rfl rfl rfl rfl (.lst _ _) (by simp; omega) rfl) rfl ?_) | (refine zd rfl (fun h => absurd (of_decide_eq_true h) (by omega)) (fun _ => ?_)) | (refine isA ?_; refine zc rfl (yN rfl rfl rfl rfl rfl) rfl ?_) | refine zK ?_ | refine zA ?_ | refine zL [10] ?_ | (refine isA ?_; refine zf rfl ?_) | (refine isL ?_; refine zU rfl (by kernel_rfl) rfl rfl ?_) | (refine zb rfl ?_; refine zT rfl (by kernel_rfl) rfl rfl ?_) | (refine zu 119 ?_; refine zc rfl (zQ rfl ai (.cons (zq rfl) .nil) rfl) rfl ?_) | (refine zv 119 rfl ?_; refine zX rfl (by kernel_rfl) rfl (zQ rfl ai (.cons (zq rfl) .nil) rfl) rfl ?_) | (refine yG (x := .tmp 30) ?_; refine zc rfl (z4 (j := (k : Int)) rfl rfl rfl (Nat.zero_le _) rfl rfl (Int.natCast_nonneg _) (by omega)) rfl ?_) | (refine yF (x := .tmp 30) rfl ?_; refine zX rfl (by kernel_rfl) rfl (z4 (j := (k : Int)) rfl rfl rfl (Nat.zero_le _) rfl rfl (Int.natCast_nonneg _) (by omega)) rfl ?_) | (refine wT (x := .tmp 32) ?_; refine zc rfl (xF (T := rwT) (i := 0 + k) (z := r) rfl rfl rfl (by rw [Nat.zero_add]; exact hr)) rfl ?_) | (refine wW (x := .tmp 32) rfl ?_; refine zX rfl (by kernel_rfl) rfl (xF (T := rwT) (i := 0 + k) (z := r) rfl rfl rfl (by rw [Nat.zero_add]; exact hr)) rfl ?_) | (refine zu 67 ?_; refine zc rfl (zQ rfl (xq r) (.cons (.same rfl) .nil) rfl) rfl ?_) | (refine zv 67 rfl ?_; refine zX rfl (by kernel_rfl) rfl (zQ rfl (xq r) (.cons (.same rfl) .nil) rfl) rfl ?_) | (refine yG (x := .tmp 40) ?_; refine zc rfl (z4 (j := (k : Int)) rfl rfl rfl (Nat.zero_le _) rfl rfl (Int.natCast_nonneg _) (by omega)) rfl ?_) | (refine yF (x := .tmp 40) rfl ?_; refine zX rfl (by kernel_rfl) rfl (z4 (j := (k : Int)) rfl rfl rfl (Nat.zero_le _) rfl rfl (Int.natCast_nonneg _) (by omega)) rfl ?_) | (refine wT (x := .tmp 42) ?_; refine zc rfl (xF (T := rwT) (i := 0 + k) (z := r) rfl rfl rfl (by rw [Nat.zero_add]; exact hr)) rfl ?_) | (refine wW (x := .tmp 42) rfl ?_; refine zX rfl (by kernel_rfl) rfl (xF (T := rwT) (i := 0 + k) (z := r) rfl rfl rfl (by rw [Nat.zero_add]; exact hr)) rfl ?_) | (refine zu 120 ?_; refine zc rfl (yd rfl (hF s.heap k hlt (by omega)) (.cons (zq rfl) (.cons (.same rfl) .nil)) (fun q hq => by simp at hq; subst hq; exact zJ _ _) rfl rfl) rfl ?_) | (refine zv 120 rfl ?_; refine zX rfl (by kernel_rfl) rfl (yd rfl (hF s.heap k hlt (by omega)) (.cons (zq rfl) (.cons (.same rfl) .nil)) (fun q hq => by simp at hq; subst hq; exact zJ _ _) rfl rfl) rfl ?_) | (refine isL ?_; refine vo rfl (by kernel_rfl) rfl rfl ?_) | refine zD ?_ | refine zB _ rfl (by kernel_rfl) ?_ | refine zV rfl ?_ | refine zW rfl ?_ | refine zC ?_ | with_reducible refine zO ?_ | refine zH ?_ | refine zI ?_ | (with_reducible first | refine zM ?_ | refine zN ?_ | refine zE ?_ | refine zG ?_ | refine zF ?_) | refine zP ?_
  exact qc (yS rfl rfl rfl rfl rfl) rfl rfl
theorem et (a0 a1 a7 : Reg) (s : So) (hok : okSo s) (hh : s.heap = []) :
    zy Go.Proofs.Try.prog 69 [.agg (soP 2 s)] [a0, a1, rwR s.input, rwR s.heap, rwR s.dfr, rwR s.out, rnR s.runs, a7]
      (.agg [.sl 2 0 s.input.length, I s.pos, .sl 4 0 s.dfr.length, .lst 0 [], .lst 0 [], .sl 11 0 (s.runs.length + 1), I s.lp, I s.rp, I s.ph, I s.wr])
      [a0, a1, rwR s.input, rwR s.heap, rwR s.dfr, rwR s.out, { rnR s.runs with mode := 2 }, a7, bxS [.sl 2 0 s.input.length, I s.pos, .sl 4 0 s.dfr.length, .lst 0 [], .lst 0 [], .sl 11 0 (s.runs.length + 1), I s.lp, I s.rp, I s.ph, I s.wr], bxS [.sl 2 0 s.input.length, I s.pos, .sl 4 0 s.dfr.length, .lst 0 [], .lst 0 [], .sl 11 0 (s.runs.length + 1), I s.lp, I s.rp, I s.ph, I s.wr], ⟨84, 1, [.sl 5 0 s.out.length], 0⟩, ⟨84, 1, rnT.flat s.runs ++ [.sl 5 0 s.out.length], 0⟩] true := by
  have g5 := hok.runs
  have hh0 : s.heap.length = 0 := by rw [hh]; rfl
  refine xo 2 27 Go.Proofs.Try.func69 rfl rfl ?_
  simp only [Go.Proofs.Try.ntmps69, List.length_cons, List.length_nil, Nat.reduceAdd, Nat.reduceSub, List.replicate_succ, List.replicate_zero, List.cons_append, List.nil_append]
  repeat' first | (refine zd rfl (fun _ => ?_) (fun h => absurd (of_decide_eq_false h) (by omega))) | (refine isA ?_; refine zc rfl (yN (ps := []) rfl rfl rfl rfl rfl) rfl ?_) | refine zK ?_ | refine zA ?_ | refine zL [] ?_ | (refine isA ?_; refine zf rfl ?_) | (refine isL ?_; refine zU rfl (by kernel_rfl) rfl rfl ?_) | (refine zb rfl ?_; refine zT rfl (by kernel_rfl) rfl rfl ?_) | (refine xU ?_; refine zc rfl (tM (outs := s.runs) (hz := 10) (zi := 5) (n := s.out.length) rfl rfl rfl rfl rfl (by omega)) rfl ?_) | (refine y9 rfl ?_; refine zX rfl (by kernel_rfl) rfl (tM (outs := s.runs) (hz := 10) (zi := 5) (n := s.out.length) rfl rfl rfl rfl rfl (by omega)) rfl ?_) | refine zD ?_ | refine zB _ rfl (by kernel_rfl) ?_ | refine zV rfl ?_ | refine zW rfl ?_ | refine zC ?_ | with_reducible refine zO ?_ | refine zH ?_ | refine zI ?_ | (with_reducible first | refine zM ?_ | refine zN ?_ | refine zE ?_ | refine zG ?_ | refine zF ?_) | refine zP ?_
  exact qc (yS rfl rfl rfl rfl rfl) rfl rfl
end Go.Proofs.Ytojcojanokhnaaa.Ab
namespace Go.Proofs.Ytojcojanokhnaaa.Ab
open Go.RowKit
abbrev R8 (s : So) : List Reg := [bxS (soE s), bxS zS, rwR s.input, rwR s.heap, rwR s.dfr, rwR s.out, rnR s.runs, bxS (soP 2 s)]
abbrev T6 (s : So) (g : Int) : St := ⟨(.any :: (I g) :: (.ptr 0 0) :: .any :: (.ptr 1 0) :: .any :: .any :: (.ptr 7 0) :: .any :: .any :: .any :: .any :: .any :: .any :: .any :: .any :: .any :: .any :: .any :: .any :: .any :: .any :: .any :: .any :: .any :: .any :: .any :: .any :: .any :: (I s.ph) :: .any :: .any :: .any :: .any :: .any :: .any :: .any :: .any :: .any :: .any :: .any :: .any :: .any :: .any :: .any :: .any :: .any :: .any :: .any :: .any :: .any :: .any :: .any :: .any :: .any :: .any :: .any :: .any :: .any :: .any :: .any :: .any :: .any :: .any :: .any :: .any :: .any :: .any :: .any :: .any :: .any :: .any :: .any :: .any :: .any :: .any :: .any :: .any :: .any :: .any :: .any :: .any :: .any :: .any :: .any :: .any :: .any :: .any :: .any :: .any :: .any :: .any :: .any :: .any :: .any :: .any :: .any :: .any :: .any :: .any :: .any :: .any :: .any :: .any :: .any :: .any :: .any :: .any :: .any :: .any :: .any :: .any :: .any :: .any :: .any :: .any :: .any :: .any :: .any :: .any :: .any :: .any :: .any :: .any :: .any :: .any :: .any :: .any :: .any :: .any :: .any :: .any :: .any :: .any :: .any :: .any :: .any :: .any :: .any :: .any :: .any :: .any :: .any :: .any :: .any :: .any :: .any :: .any :: .any :: .any :: .any :: .any :: .any :: .any :: .any :: .any :: .any :: .any :: .any :: .any :: .any :: .any :: .any :: .any :: .any :: .any :: .any :: .any :: .any :: .any :: .any :: .any :: .any :: .any :: .any :: .any :: .any :: .any :: .any :: .any :: .any :: .any :: .any :: .any :: .any :: .any :: .any :: .any :: .any :: .any :: .any :: .any :: .any :: .any :: .any :: .any :: .any :: .any :: .any :: .any :: .any :: .any :: .any :: .any :: .any :: .any :: .any :: .any :: .any :: .any :: .any :: .any :: .any :: .any :: .any :: .any :: .any :: .any :: .any :: .any :: .any :: .any :: .any :: .any :: .any :: .any :: .any :: .any :: .any :: .any :: .any :: .any :: .any :: .any :: .any :: []), R8 s, 0⟩
noncomputable def seq6 : Code := match (Go.Proofs.Try.f14).body with
  | some (.seq _ (.seq _ (.seq _ (.seq (.seq _ (.block _ (.seq _ (.cond _ (.seq m _) _)))) _)))) => m
  | _ => .skip
theorem hl8 {ψ : List Nat} {s : So} (h : ∀ i, i < 8 → ψ[i]? = some i) : HLes ψ (R8 s) [0, 1, 2, 3, 4, 5, 6, 7] (R8 s) :=
  .cons rfl rfl rfl rfl (z6 rfl) (.cons rfl rfl rfl rfl (z6 rfl) (.cons rfl rfl rfl rfl (zY (zJ _ _)) (.cons rfl rfl rfl rfl (zY (zJ _ _)) (.cons rfl rfl rfl rfl (zY (zJ _ _)) (.cons rfl rfl rfl rfl (zY (zJ _ _)) (.cons rfl rfl rfl rfl (zY (zJ _ _)) (.cons rfl rfl rfl rfl (zZ (zj (h 2 (by decide)) rfl) (zZ (le_refl rfl) (zZ (zj (h 3 (by decide)) rfl) (zZ (zj (h 4 (by decide)) rfl) (zZ (zj (h 5 (by decide)) rfl) (zZ (zj (h 6 (by decide)) rfl) (zZ (le_refl rfl) (zZ (le_refl rfl) (zZ (le_refl rfl) (zZ (le_refl rfl) zg)))))))))) .nil)))))))
theorem id8 : ∀ i, i < 8 → [0, 1, 2, 3, 4, 5, 6, 7][i]? = some i := by decide
theorem td (s : So) (g : Int) (hok : okSo s) (hb : VBa s) (hm : yv s ≤ 60) (hf : uL s g) : AW Go.Proofs.Try.prog seq6 (fun e S' => e = .normal ∧ Sub (T6 s g) S') (T6 s g) := by
  obtain ⟨p, hpp, hple⟩ := hb.pos
  have e1 : s.pos.toNat = p := by omega
  have g3 := hok.input
  have am := qg s hok
  repeat' first | refine zK ?_ | refine zA ?_ | refine zL [] ?_ | (refine isA ?_; refine zf rfl ?_) | (refine isL ?_; refine zU rfl (by kernel_rfl) rfl rfl ?_) | (refine zb rfl ?_; refine zT rfl (by kernel_rfl) rfl rfl ?_) | refine zD ?_ | refine zB _ rfl (by kernel_rfl) ?_ | refine zV rfl ?_ | refine zW rfl ?_ | refine zC ?_ | with_reducible refine zO ?_ | refine zH ?_ | refine zI ?_ | (with_reducible first | refine zM ?_ | refine zN ?_ | refine zE ?_ | refine zG ?_ | refine zF ?_) | refine zP ?_
  refine yI rfl rfl rfl rfl (fun h => ?_) (fun h => ?_)
  · have hlt : p < s.input.length := by have := of_decide_eq_true h; omega
    obtain ⟨z, hz⟩ : ∃ z, s.input[p]? = some z := ⟨_, List.getElem?_eq_getElem hlt⟩
    have hfz := hf z (by rw [e1]; exact hz)
    repeat' first | (refine zd rfl (fun h => absurd (of_decide_eq_true h) (by rw [qW hm]; omega)) (fun _ => ?_)) | refine zK ?_ | refine zA ?_ | refine zL [] ?_ | (refine isA ?_; refine zf rfl ?_) | (refine isL ?_; refine zU rfl (by kernel_rfl) rfl rfl ?_) | (refine zb rfl ?_; refine zT rfl (by kernel_rfl) rfl rfl ?_) | (refine zu 20 ?_; refine zc rfl (zQ rfl am (.cons (.same rfl) .nil) rfl) rfl ?_) | (refine zv 20 rfl ?_; refine zX rfl (by kernel_rfl) rfl (zQ rfl am (.cons (.same rfl) .nil) rfl) rfl ?_) | (refine yG (x := .tmp 42) ?_; refine zc rfl (z5 (t := rwT) (z := z) rfl rfl rfl rfl (by omega) (by rw [e1]; exact hz)) rfl ?_) | (refine yF (x := .tmp 42) rfl ?_; refine zX rfl (by kernel_rfl) rfl (z5 (t := rwT) (z := z) rfl rfl rfl rfl (by omega) (by rw [e1]; exact hz)) rfl ?_) | (refine zu 67 ?_; refine zc rfl (zQ rfl (xq z) (.cons (.same rfl) .nil) rfl) rfl ?_) | (refine zv 67 rfl ?_; refine zX rfl (by kernel_rfl) rfl (zQ rfl (xq z) (.cons (.same rfl) .nil) rfl) rfl ?_) | refine zD ?_ | refine zB _ rfl (by kernel_rfl) ?_ | refine zV rfl ?_ | refine zW rfl ?_ | refine zC ?_ | with_reducible refine zO ?_ | refine zH ?_ | refine zI ?_ | (with_reducible first | refine zM ?_ | refine zN ?_ | refine zE ?_ | refine zG ?_ | refine zF ?_) | refine zP ?_
    exact ⟨rfl, yb [0, 1, 2, 3, 4, 5, 6, 7] rfl rfl (by decide) (hl8 id8) (by repeat' first | exact zg | refine zZ ?_ ?_ | exact zo | exact le_refl rfl | exact zj rfl rfl | exact zt rfl)⟩
  · repeat' first | refine zK ?_ | refine zA ?_ | refine zL [] ?_ | (refine isA ?_; refine zf rfl ?_) | (refine isL ?_; refine zU rfl (by kernel_rfl) rfl rfl ?_) | (refine zb rfl ?_; refine zT rfl (by kernel_rfl) rfl rfl ?_) | refine zD ?_ | refine zB _ rfl (by kernel_rfl) ?_ | refine zV rfl ?_ | refine zW rfl ?_ | refine zC ?_ | with_reducible refine zO ?_ | refine zH ?_ | refine zI ?_ | (with_reducible first | refine zM ?_ | refine zN ?_ | refine zE ?_ | refine zG ?_ | refine zF ?_) | refine zP ?_
    exact ⟨rfl, yb [0, 1, 2, 3, 4, 5, 6, 7] rfl rfl (by decide) (hl8 id8) (by repeat' first | exact zg | refine zZ ?_ ?_ | exact zo | exact le_refl rfl | exact zj rfl rfl | exact zt rfl)⟩
theorem s_pop (s : So) (g : Int) (k : Nat) (r : Rw) (hok : okSo s) (hv : vS s = true) (h1 : inV g 8 60 = true) (hb : VBa s) (hm : yv s ≤ 60) (hp : s.ph = 1) (hf : uL s g) (hh : 0 < s.heap.length) (hk : nA s.heap = (k : Nat)) (hr : s.heap[k]? = some r) : zy Go.Proofs.Try.prog 14 [.agg (soE s), I g] [] (.tup [.agg (soH (uO s k r)), rwL [], B true]) [rwR (uO s k r).heap] true := by
  have g1 := hok.heap
  have g2 := hok.dfr
  have ac := xV s hok
  have a1 := vt s hok
  rw [hv] at a1
  have a2 := vT g 8 60
  rw [h1] at a2
  have ao := eu (bxS (soE s)) (bxS zS) (bxS (soP 2 s)) s k r hok hk hr
  refine yV 4 27 [5, 6] Go.Proofs.Try.func14 rfl rfl rfl ?_
  simp only [Go.Proofs.Try.ntmps14, List.length_cons, List.length_nil, Nat.reduceAdd, Nat.reduceSub, List.replicate_succ, List.replicate_zero, List.cons_append, List.nil_append]
  repeat' first | (refine xW 6 (T6 s g) (xt ?_) ?_) | (refine zd rfl (fun h => absurd (of_decide_eq_true h) (by omega)) (fun _ => ?_)) | (refine zd rfl (fun _ => ?_) (fun h => absurd hp (of_decide_eq_false h))) | (refine zd rfl (fun _ => ?_) (fun h => absurd (of_decide_eq_false h) (by rw [IntKind.wrap_i64]; omega))) | (refine isA ?_; refine zc rfl (yN rfl rfl rfl rfl rfl) rfl ?_) | refine zK ?_ | refine zA ?_ | refine zL [] ?_ | (refine isA ?_; refine zf rfl ?_) | (refine isL ?_; refine zU rfl (by kernel_rfl) rfl rfl ?_) | (refine zb rfl ?_; refine zT rfl (by kernel_rfl) rfl rfl ?_) | (refine zu 65 ?_; refine zc rfl (yA (r' := .agg (soP 2 s)) (H' := bxS (soE s) :: bxS zS :: soW s) rfl ac (.cons (.same rfl) .nil) rfl (by simp only [List.map_cons, List.map_nil, shR, yC _ (yP (zJ _ _))]; rfl)) rfl ?_) | (refine zv 65 rfl ?_; refine zX rfl (by kernel_rfl) rfl (yA (r' := .agg (soP 2 s)) (H' := bxS (soE s) :: bxS zS :: soW s) rfl ac (.cons (.same rfl) .nil) rfl (by simp only [List.map_cons, List.map_nil, shR, yC _ (yP (zJ _ _))]; rfl)) rfl ?_) | (refine zu 18 ?_; refine zc rfl (zQ rfl a1 (.cons (.same rfl) .nil) rfl) rfl ?_) | (refine zv 18 rfl ?_; refine zX rfl (by kernel_rfl) rfl (zQ rfl a1 (.cons (.same rfl) .nil) rfl) rfl ?_) | (refine zu 66 ?_; refine zc rfl (zQ rfl a2 (.cons (.same rfl) (.cons (.same rfl) (.cons (.same rfl) .nil))) rfl) rfl ?_) | (refine zv 66 rfl ?_; refine zX rfl (by kernel_rfl) rfl (zQ rfl a2 (.cons (.same rfl) (.cons (.same rfl) (.cons (.same rfl) .nil))) rfl) rfl ?_) | (refine zu 69 ?_; refine zc rfl (yT rfl ao rfl) rfl ?_) | (refine zv 69 rfl ?_; refine zX rfl (by kernel_rfl) rfl (yT rfl ao rfl) rfl ?_) | refine zD ?_ | refine zB _ rfl (by kernel_rfl) ?_ | refine zV rfl ?_ | refine zW rfl ?_ | refine zC ?_ | with_reducible refine zO ?_ | refine zH ?_ | refine zI ?_ | (with_reducible first | refine zM ?_ | refine zN ?_ | refine zE ?_ | refine zG ?_ | refine zF ?_) | refine zP ?_
  · exact we (vu (yb [0, 1, 2, 3, 4, 5, 6, 7] rfl rfl (by decide) (hl8 id8) (by repeat' first | exact zg | refine zZ ?_ ?_ | exact zo | exact le_refl rfl | exact zj rfl rfl | exact zt rfl)) (td s g hok hb hm hf))
  · exact xS (yS rfl rfl rfl rfl rfl) rfl rfl (zJ _ _) (by repeat' first | exact Purs.nil | refine Purs.cons ?_ ?_ | exact zq rfl | exact yL rfl rfl | exact zq (T := rwT) (x := []) rfl | exact Pur.nil | exact Pur.same rfl | exact yk (by assumption)) (by repeat' first | exact Purs.nil | refine Purs.cons ?_ ?_ | exact zq rfl | exact yL rfl rfl | exact zq (T := rwT) (x := []) rfl | exact Pur.nil | exact Pur.same rfl | exact yk (by assumption)) (.cons (.same rfl) (.cons (.same rfl) .nil))
theorem eC (s : So) (g : Int) (hok : okSo s) (hv : vS s = true) (h1 : inV g 8 60 = true) (hb : VBa s) (hm : yv s ≤ 60) (hp : s.ph = 1) (hf : uL s g) (hh : s.heap = []) (hd : 0 < s.dfr.length) : zy Go.Proofs.Try.prog 14 [.agg (soE s), I g] [] (.tup [.agg (soH (yf s)), rwL [], B true]) [rwR (yf s).heap] true := by
  have g1 := hok.heap
  have g2 := hok.dfr
  have g4 := hok.out
  have g5 := hok.runs
  have hh0 : s.heap.length = 0 := by rw [hh]; rfl
  have ac := xV s hok
  have a1 := vt s hok
  rw [hv] at a1
  have a2 := vT g 8 60
  rw [h1] at a2
  have ao := et (bxS (soE s)) (bxS zS) (bxS (soP 2 s)) s hok hh
  refine yV 4 27 [5, 6] Go.Proofs.Try.func14 rfl rfl rfl ?_
  simp only [Go.Proofs.Try.ntmps14, List.length_cons, List.length_nil, Nat.reduceAdd, Nat.reduceSub, List.replicate_succ, List.replicate_zero, List.cons_append, List.nil_append]
  repeat' first | (refine xW 6 (T6 s g) (xt ?_) ?_) | (refine zd rfl (fun h => absurd (of_decide_eq_true h) (by omega)) (fun _ => ?_)) | (refine zd rfl (fun _ => ?_) (fun h => absurd hp (of_decide_eq_false h))) | (refine zd rfl (fun _ => ?_) (fun h => absurd (of_decide_eq_false h) (by rw [IntKind.wrap_i64]; omega))) | (refine isA ?_; refine zc rfl (yN rfl rfl rfl rfl rfl) rfl ?_) | refine zK ?_ | refine zA ?_ | refine zL [] ?_ | (refine isA ?_; refine zf rfl ?_) | (refine isL ?_; refine zU rfl (by kernel_rfl) rfl rfl ?_) | (refine zb rfl ?_; refine zT rfl (by kernel_rfl) rfl rfl ?_) | (refine zu 65 ?_; refine zc rfl (yA (r' := .agg (soP 2 s)) (H' := bxS (soE s) :: bxS zS :: soW s) rfl ac (.cons (.same rfl) .nil) rfl (by simp only [List.map_cons, List.map_nil, shR, yC _ (yP (zJ _ _))]; rfl)) rfl ?_) | (refine zv 65 rfl ?_; refine zX rfl (by kernel_rfl) rfl (yA (r' := .agg (soP 2 s)) (H' := bxS (soE s) :: bxS zS :: soW s) rfl ac (.cons (.same rfl) .nil) rfl (by simp only [List.map_cons, List.map_nil, shR, yC _ (yP (zJ _ _))]; rfl)) rfl ?_) | (refine zu 18 ?_; refine zc rfl (zQ rfl a1 (.cons (.same rfl) .nil) rfl) rfl ?_) | (refine zv 18 rfl ?_; refine zX rfl (by kernel_rfl) rfl (zQ rfl a1 (.cons (.same rfl) .nil) rfl) rfl ?_) | (refine zu 66 ?_; refine zc rfl (zQ rfl a2 (.cons (.same rfl) (.cons (.same rfl) (.cons (.same rfl) .nil))) rfl) rfl ?_) | (refine zv 66 rfl ?_; refine zX rfl (by kernel_rfl) rfl (zQ rfl a2 (.cons (.same rfl) (.cons (.same rfl) (.cons (.same rfl) .nil))) rfl) rfl ?_) | (refine zu 69 ?_; refine zc rfl (yT rfl ao rfl) rfl ?_) | (refine zv 69 rfl ?_; refine zX rfl (by kernel_rfl) rfl (yT rfl ao rfl) rfl ?_) | refine zD ?_ | refine zB _ rfl (by kernel_rfl) ?_ | refine zV rfl ?_ | refine zW rfl ?_ | refine zC ?_ | with_reducible refine zO ?_ | refine zH ?_ | refine zI ?_ | (with_reducible first | refine zM ?_ | refine zN ?_ | refine zE ?_ | refine zG ?_ | refine zF ?_) | refine zP ?_
  · exact we (vu (yb [0, 1, 2, 3, 4, 5, 6, 7] rfl rfl (by decide) (hl8 id8) (by repeat' first | exact zg | refine zZ ?_ ?_ | exact zo | exact le_refl rfl | exact zj rfl rfl | exact zt rfl)) (td s g hok hb hm hf))
  · exact xS (yS rfl rfl rfl rfl rfl) rfl rfl (zJ _ _) (by repeat' first | exact Purs.nil | refine Purs.cons ?_ ?_ | exact zq rfl | exact yL rfl rfl | exact zq (T := rwT) (x := []) rfl | exact Pur.nil | exact Pur.same rfl | exact yk (by assumption)) (by repeat' first | exact Purs.nil | refine Purs.cons ?_ ?_ | exact zq rfl | exact yL rfl rfl | exact zq (T := rwT) (x := []) rfl | exact Pur.nil | exact Pur.same rfl | exact yk (by assumption)) (.cons (.same rfl) (.cons (.same rfl) .nil))
theorem gZ (s : So) (g : Int) (hok : okSo s) (hv : vS s = true) (h1 : inV g 8 60 = true) (hb : VBa s) (hm : yv s ≤ 60) (hp : s.ph = 1) (hf : uL s g) (hh : s.heap = []) (hd : s.dfr = []) : zy Go.Proofs.Try.prog 14 [.agg (soE s), I g] [] (.tup [.agg (soH (yQ (x5 s))), rwL [], B true]) [rwR (yQ (x5 s)).heap] true := by
  have g1 := hok.heap
  have g2 := hok.dfr
  have g4 := hok.out
  have g5 := hok.runs
  have hh0 : s.heap.length = 0 := by rw [hh]; rfl
  have ac := xV s hok
  have a1 := vt s hok
  rw [hv] at a1
  have a2 := vT g 8 60
  rw [h1] at a2
  have hd0 : s.dfr.length = 0 := by rw [hd]; rfl
  rcases Nat.eq_zero_or_pos s.out.length with h0 | h0
  · have e : yQ (x5 s) = { s with lp := 0, rp := 0, ph := cond (decide (s.runs.length = 0)) 4 (cond (decide (s.runs.length = 1)) 3 2) } := by
      rw [x5, decide_eq_false (by omega), cond_false, yQ]
    rw [e]
    refine yV 4 27 [5, 6] Go.Proofs.Try.func14 rfl rfl rfl ?_
    simp only [Go.Proofs.Try.ntmps14, List.length_cons, List.length_nil, Nat.reduceAdd, Nat.reduceSub, List.replicate_succ, List.replicate_zero, List.cons_append, List.nil_append]
    repeat' first | (refine xW 6 (T6 s g) (xt ?_) ?_) | (refine zd rfl (fun h => absurd (of_decide_eq_true h) (by omega)) (fun _ => ?_)) | (refine zd rfl (fun _ => ?_) (fun h => absurd hp (of_decide_eq_false h))) | (refine zd rfl (fun h => absurd (of_decide_eq_true h) (by rw [IntKind.wrap_i64]; omega)) (fun _ => ?_)) | (refine isA ?_; refine zc rfl (yN rfl rfl rfl rfl rfl) rfl ?_) | refine zK ?_ | refine zA ?_ | refine zL [] ?_ | (refine isA ?_; refine zf rfl ?_) | (refine isL ?_; refine zU rfl (by kernel_rfl) rfl rfl ?_) | (refine zb rfl ?_; refine zT rfl (by kernel_rfl) rfl rfl ?_) | (refine zu 65 ?_; refine zc rfl (yA (r' := .agg (soP 2 s)) (H' := bxS (soE s) :: bxS zS :: soW s) rfl ac (.cons (.same rfl) .nil) rfl (by simp only [List.map_cons, List.map_nil, shR, yC _ (yP (zJ _ _))]; rfl)) rfl ?_) | (refine zv 65 rfl ?_; refine zX rfl (by kernel_rfl) rfl (yA (r' := .agg (soP 2 s)) (H' := bxS (soE s) :: bxS zS :: soW s) rfl ac (.cons (.same rfl) .nil) rfl (by simp only [List.map_cons, List.map_nil, shR, yC _ (yP (zJ _ _))]; rfl)) rfl ?_) | (refine zu 18 ?_; refine zc rfl (zQ rfl a1 (.cons (.same rfl) .nil) rfl) rfl ?_) | (refine zv 18 rfl ?_; refine zX rfl (by kernel_rfl) rfl (zQ rfl a1 (.cons (.same rfl) .nil) rfl) rfl ?_) | (refine zu 66 ?_; refine zc rfl (zQ rfl a2 (.cons (.same rfl) (.cons (.same rfl) (.cons (.same rfl) .nil))) rfl) rfl ?_) | (refine zv 66 rfl ?_; refine zX rfl (by kernel_rfl) rfl (zQ rfl a2 (.cons (.same rfl) (.cons (.same rfl) (.cons (.same rfl) .nil))) rfl) rfl ?_) | (refine zu 70 ?_; refine zc rfl (yT rfl (mH _ _ _ _ _ _ _ _ _ _ _ _ _ _ _ _ _ _ _ _ _ _ _ _ _ _ _ _) rfl) rfl ?_) | (refine zv 70 rfl ?_; refine zX rfl (by kernel_rfl) rfl (yT rfl (mH _ _ _ _ _ _ _ _ _ _ _ _ _ _ _ _ _ _ _ _ _ _ _ _ _ _ _ _) rfl) rfl ?_) | refine zD ?_ | refine zB _ rfl (by kernel_rfl) ?_ | refine zV rfl ?_ | refine zW rfl ?_ | refine zC ?_ | with_reducible refine zO ?_ | refine zH ?_ | refine zI ?_ | (with_reducible first | refine zM ?_ | refine zN ?_ | refine zE ?_ | refine zG ?_ | refine zF ?_) | refine zP ?_
    · exact we (vu (yb [0, 1, 2, 3, 4, 5, 6, 7] rfl rfl (by decide) (hl8 id8) (by repeat' first | exact zg | refine zZ ?_ ?_ | exact zo | exact le_refl rfl | exact zj rfl rfl | exact zt rfl)) (td s g hok hb hm hf))
    · exact xS (yS rfl rfl rfl rfl rfl) rfl rfl (zJ _ _) (by repeat' first | exact Purs.nil | refine Purs.cons ?_ ?_ | exact zq rfl | exact yL rfl rfl | exact zq (T := rwT) (x := []) rfl | exact Pur.nil | exact Pur.same rfl | exact yk (by assumption)) (by repeat' first | exact Purs.nil | refine Purs.cons ?_ ?_ | exact zq rfl | exact yL rfl rfl | exact zq (T := rwT) (x := []) rfl | exact Pur.nil | exact Pur.same rfl | exact yk (by assumption)) (.cons (.same rfl) (.cons (.same rfl) .nil))
  · have e : yQ (x5 s) = { s with runs := s.runs ++ [s.out], out := [], lp := 0, rp := 0, ph := cond (decide (s.runs.length + 1 = 0)) 4 (cond (decide (s.runs.length + 1 = 1)) 3 2) } := by
      rw [x5, decide_eq_true h0, cond_true, yQ, endV]
      simp
    rw [e]
    refine yV 4 27 [5, 6] Go.Proofs.Try.func14 rfl rfl rfl ?_
    simp only [Go.Proofs.Try.ntmps14, List.length_cons, List.length_nil, Nat.reduceAdd, Nat.reduceSub, List.replicate_succ, List.replicate_zero, List.cons_append, List.nil_append]
    repeat' first | (refine xW 6 (T6 s g) (xt ?_) ?_) | (refine zd rfl (fun h => absurd (of_decide_eq_true h) (by omega)) (fun _ => ?_)) | (refine zd rfl (fun _ => ?_) (fun h => absurd hp (of_decide_eq_false h))) | (refine zd rfl (fun h => absurd (of_decide_eq_true h) (by rw [IntKind.wrap_i64]; omega)) (fun _ => ?_)) | (refine zd rfl (fun _ => ?_) (fun h => absurd (of_decide_eq_false h) (by omega))) | refine zK ?_ | refine zA ?_ | refine zL [] ?_ | (refine isA ?_; refine zf rfl ?_) | (refine isL ?_; refine zU rfl (by kernel_rfl) rfl rfl ?_) | (refine zb rfl ?_; refine zT rfl (by kernel_rfl) rfl rfl ?_) | (refine zu 65 ?_; refine zc rfl (yA (r' := .agg (soP 2 s)) (H' := bxS (soE s) :: bxS zS :: soW s) rfl ac (.cons (.same rfl) .nil) rfl (by simp only [List.map_cons, List.map_nil, shR, yC _ (yP (zJ _ _))]; rfl)) rfl ?_) | (refine zv 65 rfl ?_; refine zX rfl (by kernel_rfl) rfl (yA (r' := .agg (soP 2 s)) (H' := bxS (soE s) :: bxS zS :: soW s) rfl ac (.cons (.same rfl) .nil) rfl (by simp only [List.map_cons, List.map_nil, shR, yC _ (yP (zJ _ _))]; rfl)) rfl ?_) | (refine zu 18 ?_; refine zc rfl (zQ rfl a1 (.cons (.same rfl) .nil) rfl) rfl ?_) | (refine zv 18 rfl ?_; refine zX rfl (by kernel_rfl) rfl (zQ rfl a1 (.cons (.same rfl) .nil) rfl) rfl ?_) | (refine zu 66 ?_; refine zc rfl (zQ rfl a2 (.cons (.same rfl) (.cons (.same rfl) (.cons (.same rfl) .nil))) rfl) rfl ?_) | (refine zv 66 rfl ?_; refine zX rfl (by kernel_rfl) rfl (zQ rfl a2 (.cons (.same rfl) (.cons (.same rfl) (.cons (.same rfl) .nil))) rfl) rfl ?_) | (refine xU ?_; refine zc rfl (tM (outs := s.runs) (hz := 8) (zi := 5) (n := s.out.length) rfl rfl rfl rfl rfl (by omega)) rfl ?_) | (refine y9 rfl ?_; refine zX rfl (by kernel_rfl) rfl (tM (outs := s.runs) (hz := 8) (zi := 5) (n := s.out.length) rfl rfl rfl rfl rfl (by omega)) rfl ?_) | (refine zu 70 ?_; refine zc rfl (yT rfl (uq _ _ _ _ _ _ _ _ _ _ _ _ _ _ _ _ _ _ _ _ _ _ _ _ _ _ _ _ _ _ _) rfl) rfl ?_) | (refine zv 70 rfl ?_; refine zX rfl (by kernel_rfl) rfl (yT rfl (uq _ _ _ _ _ _ _ _ _ _ _ _ _ _ _ _ _ _ _ _ _ _ _ _ _ _ _ _ _ _ _) rfl) rfl ?_) | refine zD ?_ | refine zB _ rfl (by kernel_rfl) ?_ | refine zV rfl ?_ | refine zW rfl ?_ | refine zC ?_ | with_reducible refine zO ?_ | refine zH ?_ | refine zI ?_ | (with_reducible first | refine zM ?_ | refine zN ?_ | refine zE ?_ | refine zG ?_ | refine zF ?_) | refine zP ?_
    · exact we (vu (yb [0, 1, 2, 3, 4, 5, 6, 7] rfl rfl (by decide) (hl8 id8) (by repeat' first | exact zg | refine zZ ?_ ?_ | exact zo | exact le_refl rfl | exact zj rfl rfl | exact zt rfl)) (td s g hok hb hm hf))
    · exact xS (yS rfl rfl rfl rfl rfl) rfl rfl (zJ _ _) (by repeat' first | exact Purs.nil | refine Purs.cons ?_ ?_ | exact zq rfl | exact yL rfl rfl | exact zq (T := rwT) (x := []) rfl | exact Pur.nil | exact Pur.same rfl | exact yk (by assumption)) (by repeat' first | exact Purs.nil | refine Purs.cons ?_ ?_ | exact zq rfl | exact yL rfl rfl | exact zq (T := rwT) (x := []) rfl | exact Pur.nil | exact Pur.same rfl | exact yk (by assumption)) (.cons (zq (T := rwT) (x := []) rfl) (.cons (.same rfl) .nil))
theorem s9 (s x : So) (g : Int) (r : List Rw) (hok : okSo s) (hv : vS s = true) (h1 : inV g 8 60 = true) (hp : s.ph = 1) (h : StepV s g x r) : zy Go.Proofs.Try.prog 14 [.agg (soE s), I g] [] (.tup [.agg (soH x), rwL r, B true]) [rwR x.heap] true := by
  have hV := wE.1 hv
  cases hV with
  | read b q =>
    have hm : yv s ≤ 60 := by rw [tS q.ph]; exact q.mem
    cases h with
    | put _ hr hf => exact s_put s g _ hok hv h1 b hm hp hr hf
    | pop _ hf hh hk hr => exact s_pop s g _ _ hok hv h1 b hm hp hf hh hk hr
    | swap _ hf hh hd => exact eC s g hok hv h1 b hm hp hf hh hd
    | close _ hf hh hd => exact gZ s g hok hv h1 b hm hp hf hh hd
    | merged h2 => omega
    | left h2 => omega
    | right h2 => omega
    | emit h2 => omega
  | merge b t ph => omega
  | emit b t ph => omega
  | done b t ph => omega
theorem pc (s x : So) (g : Int) (r : List Rw) (hok : okSo s) (hv : vS s = true) (h1 : inV g 8 60 = true) (hp : s.ph = 1) (h : StepV s g x r) : zy Go.Proofs.Try.prog 14 [.agg (soE s), I g] [] (.tup [.agg (soE x), rwL r, B true]) [] true :=
  (s9 s x g r hok hv h1 hp h).frozen (gd x r true)
end Go.Proofs.Ytojcojanokhnaaa.Ab
namespace Go.Proofs.Ytojcojanokhnaaa.Ab
open Go.RowKit
theorem VS.base {s : So} (h : VS s) : VBa s := by
  cases h with
  | read b => exact b
  | merge b => exact b
  | emit b => exact b
  | done b => exact b
theorem nh : ∀ {rs : List Rn}, (∀ r ∈ rs, gM r) → rs.length ≤ tot rs
  | [], _ => Nat.zero_le _
  | r :: rs, h => by
    have h1 := nh (rs := rs) fun x hx => h x (List.mem_cons_of_mem _ hx)
    have h2 := List.length_pos_iff.2 (h r (List.mem_cons_self ..)).1
    have e : tot (r :: rs) = r.length + tot rs := by simp [tot]
    rw [e, List.length_cons]
    omega
theorem VS.small {s : So} (h : VS s) : s.input.length ≤ 24 ∧ s.heap.length ≤ 24 ∧ s.dfr.length ≤ 24 ∧ s.out.length ≤ 24 ∧ s.runs.length ≤ tot s.runs ∧ tot s.runs ≤ 24 := by
  have hb := h.base
  have h1 := (vV.1 hb.input).2
  have h2 := nh hb.runs
  have h3 := vJ s.runs
  cases h with
  | read b q =>
    have hl := q.bag.length_eq
    simp only [List.length_append, List.length_take] at hl
    omega
  | @merge b t ph x y rest i j runs lp rp m =>
    have hl := t.bag.length_eq
    have ml := m.len
    have m1 := m.ha
    have m2 := m.hb
    have e : tot s.runs = x.length + (y.length + tot rest) := by rw [runs]; simp [tot]
    rw [t.heap, t.dfr]
    simp only [List.length_nil]
    omega
  | @emit b t ph x i runs lp hi rp out =>
    have hl := t.bag.length_eq
    rw [t.heap, t.dfr, out]
    simp only [List.length_nil]
    omega
  | done b t ph runs lp rp out =>
    have hl := t.bag.length_eq
    rw [t.heap, t.dfr, out]
    simp only [List.length_nil]
    omega
theorem VS.ok {s : So} (h : VS s) : okSo s := by
  obtain ⟨h1, h2, h3, h4, h5, h6⟩ := h.small
  exact ⟨by omega, by omega, by omega, by omega, by omega, by omega⟩
theorem ek (s y : So) (g : Int) (n : Nat) (hv : VS s) (h1 : inV g 8 60 = true) (hw : s.wr ≤ 1000000000) (hn : n ≤ 100) (hf : Fits g s n y) : zy Go.Proofs.Try.prog 39 [.agg (soE s), I g] [] (.tup [I n, B true]) [] true := by
  have hok := hv.ok
  have hgb : 8 ≤ g ∧ g ≤ 60 := xC.1 h1
  have a1 := vt s hok
  rw [wE.2 hv] at a1
  have a2 := vT g 8 60
  rw [h1] at a2
  refine zw [4, 5] Go.Proofs.Try.func39 rfl rfl ?_
  simp only [Go.Proofs.Try.ntmps39, List.length_cons, List.length_nil, Nat.reduceAdd, Nat.reduceSub, List.replicate_succ, List.replicate_zero, List.cons_append, List.nil_append]
  repeat' first | (refine yW rfl rfl (fun h => absurd (of_decide_eq_true h) (by omega)) (fun _ => ?_)) | refine zK ?_ | refine zA ?_ | refine zL [] ?_ | (refine isA ?_; refine zf rfl ?_) | (refine isL ?_; refine zU rfl (by kernel_rfl) rfl rfl ?_) | (refine zb rfl ?_; refine zT rfl (by kernel_rfl) rfl rfl ?_) | (refine zu 18 ?_; refine zc rfl (zQ rfl a1 (.cons (.same rfl) .nil) rfl) rfl ?_) | (refine zv 18 rfl ?_; refine zX rfl (by kernel_rfl) rfl (zQ rfl a1 (.cons (.same rfl) .nil) rfl) rfl ?_) | (refine zu 66 ?_; refine zc rfl (zQ rfl a2 (.cons (.same rfl) (.cons (.same rfl) (.cons (.same rfl) .nil))) rfl) rfl ?_) | (refine zv 66 rfl ?_; refine zX rfl (by kernel_rfl) rfl (zQ rfl a2 (.cons (.same rfl) (.cons (.same rfl) (.cons (.same rfl) .nil))) rfl) rfl ?_) | refine zD ?_ | refine zB _ rfl (by kernel_rfl) ?_ | refine zV rfl ?_ | refine zW rfl ?_ | refine zC ?_ | with_reducible refine zO ?_ | refine zH ?_ | refine zI ?_ | (with_reducible first | refine zM ?_ | refine zN ?_ | refine zE ?_ | refine zG ?_ | refine zF ?_) | refine zP ?_
  refine z9 (α := { t : So × Nat × Nat // VS t.1 ∧ Fits g t.1 t.2.1 y ∧ t.2.1 + t.2.2 = n ∧ 0 ≤ t.1.wr ∧ t.1.wr + 4 * t.2.1 ≤ 2000000000 }) (fun t => ⟨[.any, I g, .ptr 0 0, .any, .any, .any, I t.1.2.2, .any, .any, .any, .any, .any, .any, .any, .any, .any, .any, .any, .any, .any, .any, .any, .any, .any, .any, .any, .any, .any, .any, .any, .any, .any, .any, .any], [bxS (soE t.1.1)], 0⟩) (fun t => t.1.2.1) ⟨(s, n, 0), hv, hf, rfl, hv.base.wr, by simp only; omega⟩ ?_ ?_
  · exact yb [0] rfl rfl (by decide) (.cons rfl rfl rfl rfl (z6 rfl) .nil) (by repeat' first | exact zg | refine zZ ?_ ?_ | exact zo | exact le_refl rfl | exact zj rfl rfl | exact zt rfl)
  · rintro ⟨⟨t, m, k⟩, jv, jf, jn, jw0, jw⟩
    simp only at jv jf jn jw0 jw ⊢
    have am := qg t jv.ok
    repeat' first | refine zK ?_ | refine zA ?_ | refine zL [] ?_ | (refine isA ?_; refine zf rfl ?_) | (refine isL ?_; refine zU rfl (by kernel_rfl) rfl rfl ?_) | (refine zb rfl ?_; refine zT rfl (by kernel_rfl) rfl rfl ?_) | (refine zu 20 ?_; refine zc rfl (zQ rfl am (.cons (.same rfl) .nil) rfl) rfl ?_) | (refine zv 20 rfl ?_; refine zX rfl (by kernel_rfl) rfl (zQ rfl am (.cons (.same rfl) .nil) rfl) rfl ?_) | refine zD ?_ | refine zB _ rfl (by kernel_rfl) ?_ | refine zV rfl ?_ | refine zW rfl ?_ | refine zC ?_ | with_reducible refine zO ?_ | refine zH ?_ | refine zI ?_ | (with_reducible first | refine zM ?_ | refine zN ?_ | refine zE ?_ | refine zG ?_ | refine zF ?_) | refine zP ?_
    cases jf with
    | stop hs =>
      refine zd rfl (fun h => absurd (of_decide_eq_true h) (by omega)) (fun _ => ?_)
      repeat' first | refine zK ?_ | refine zA ?_ | refine zL [] ?_ | (refine isA ?_; refine zf rfl ?_) | (refine isL ?_; refine zU rfl (by kernel_rfl) rfl rfl ?_) | (refine zb rfl ?_; refine zT rfl (by kernel_rfl) rfl rfl ?_) | exact nx rfl (.tup (.cons (yk (by omega)) (.cons (.same rfl) .nil))) | refine zD ?_ | refine zB _ rfl (by kernel_rfl) ?_ | refine zV rfl ?_ | refine zW rfl ?_ | refine zC ?_ | with_reducible refine zO ?_ | refine zH ?_ | refine zI ?_ | (with_reducible first | refine zM ?_ | refine zN ?_ | refine zE ?_ | refine zG ?_ | refine zF ?_) | refine zP ?_
    | @step _ x _ r m hs st f =>
      have hp : t.ph = 1 := Classical.byContradiction fun h => by have := (sJ h).2; omega
      have hx := vO jv hgb.1 hgb.2 (by omega) st
      have hwx := uZ st jw0 (by omega)
      refine zd rfl (fun _ => ?_) (fun h => absurd (of_decide_eq_false h) (by omega))
      repeat' first | refine zK ?_ | refine zA ?_ | refine zL [] ?_ | (refine isA ?_; refine zf rfl ?_) | (refine isL ?_; refine zU rfl (by kernel_rfl) rfl rfl ?_) | (refine zb rfl ?_; refine zT rfl (by kernel_rfl) rfl rfl ?_) | (refine zu 14 ?_; refine zc rfl (zQ rfl (pc t x g r jv.ok (wE.2 jv) h1 hp st) (.cons (.same rfl) (.cons (.same rfl) .nil)) rfl) rfl ?_) | (refine zv 14 rfl ?_; refine zX rfl (by kernel_rfl) rfl (zQ rfl (pc t x g r jv.ok (wE.2 jv) h1 hp st) (.cons (.same rfl) (.cons (.same rfl) .nil)) rfl) rfl ?_) | refine zD ?_ | refine zB _ rfl (by kernel_rfl) ?_ | refine zV rfl ?_ | refine zW rfl ?_ | refine zC ?_ | with_reducible refine zO ?_ | refine zH ?_ | refine zI ?_ | (with_reducible first | refine zM ?_ | refine zN ?_ | refine zE ?_ | refine zG ?_ | refine zF ?_) | refine zP ?_
      refine ⟨⟨(x, m, k + 1), hx, f, by simp only; omega, by simp only; omega, by simp only; omega⟩, by simp only; omega, ?_⟩
      exact yb [0] rfl rfl (by decide) (.cons rfl rfl rfl rfl (z6 rfl) .nil) (by
        repeat' first | exact zg | refine zZ ?_ ?_ | exact zo | exact le_refl rfl | exact zt rfl | exact z8 (congrArg _ (show ((k + 1 : Nat) : Int) = IntKind.i64.wrap ((k : Int) + 1) by rw [IntKind.wrap_i64]; omega)))
theorem gu (s : So) (g : Int) (hok : okSo s) (h : (vS s && (decide (s.wr ≤ 1000000000) && inV g 8 60)) = false) : zy Go.Proofs.Try.prog 39 [.agg (soE s), I g] [] (.tup [I 0, B false]) [] true := by
  have a1 := vt s hok
  have a2 := vT g 8 60
  refine zw [4, 5] Go.Proofs.Try.func39 rfl rfl ?_
  simp only [Go.Proofs.Try.ntmps39, List.length_cons, List.length_nil, Nat.reduceAdd, Nat.reduceSub, List.replicate_succ, List.replicate_zero, List.cons_append, List.nil_append]
  repeat' first | refine zK ?_ | refine zA ?_ | refine zL [] ?_ | (refine isA ?_; refine zf rfl ?_) | (refine isL ?_; refine zU rfl (by kernel_rfl) rfl rfl ?_) | (refine zb rfl ?_; refine zT rfl (by kernel_rfl) rfl rfl ?_) | (refine zu 18 ?_; refine zc rfl (zQ rfl a1 (.cons (.same rfl) .nil) rfl) rfl ?_) | (refine zv 18 rfl ?_; refine zX rfl (by kernel_rfl) rfl (zQ rfl a1 (.cons (.same rfl) .nil) rfl) rfl ?_) | (refine zu 66 ?_; refine zc rfl (zQ rfl a2 (.cons (.same rfl) (.cons (.same rfl) (.cons (.same rfl) .nil))) rfl) rfl ?_) | (refine zv 66 rfl ?_; refine zX rfl (by kernel_rfl) rfl (zQ rfl a2 (.cons (.same rfl) (.cons (.same rfl) (.cons (.same rfl) .nil))) rfl) rfl ?_) | refine zD ?_ | refine zB _ rfl (by kernel_rfl) ?_ | refine zV rfl ?_ | refine zW rfl ?_ | refine zC ?_ | with_reducible refine zO ?_ | refine zH ?_ | refine zI ?_ | (with_reducible first | refine zM ?_ | refine zN ?_ | refine zE ?_ | refine zG ?_ | refine zF ?_) | refine zP ?_ | refine zd rfl (fun hbr => ?_) (fun hbr => ?_) | (refine wB ?_; refine yW rfl rfl (fun hbr => ?_) (fun hbr => ?_) <;> (fail_if_success (with_reducible (have hx : true = true := hbr))) <;> (fail_if_success (with_reducible (have hx : false = false := hbr)))) | (refine zb rfl ?_; refine yI rfl rfl rfl rfl (fun hbr => ?_) (fun hbr => ?_) <;> (fail_if_success (with_reducible (have hx : true = true := hbr))) <;> (fail_if_success (with_reducible (have hx : false = false := hbr))))
  all_goals first
    | exact nx rfl (.tup (.cons (.same rfl) (.cons (.same rfl) .nil)))
    | (exfalso
       have q1 : vS s = true := by have := (by assumption : (!vS s) = false); simpa using this
       have q2 : ¬ 1000000000 < s.wr := of_decide_eq_false (by assumption)
       have q3 : inV g 8 60 = true := by have := (by assumption : (!inV g 8 60) = false); simpa using this
       rw [q1, decide_eq_true (by omega), q3] at h
       cases h)
theorem g9 (s : So) (g : Int) (hok : okSo s) (h : (vS s && (decide (s.wr ≤ 1000000000) && inV g 8 60)) = false) : zy Go.Proofs.Try.prog 38 [.agg (soE s), I g] [] (.tup [I 0, B false]) [] true := by
  have a1 := js s hok
  have a2 := tJ g
  refine zw [4, 5] Go.Proofs.Try.func38 rfl rfl ?_
  simp only [Go.Proofs.Try.ntmps38, List.length_cons, List.length_nil, Nat.reduceAdd, Nat.reduceSub, List.replicate_succ, List.replicate_zero, List.cons_append, List.nil_append]
  repeat' first | refine zK ?_ | refine zA ?_ | refine zL [] ?_ | (refine isA ?_; refine zf rfl ?_) | (refine isL ?_; refine zU rfl (by kernel_rfl) rfl rfl ?_) | (refine zb rfl ?_; refine zT rfl (by kernel_rfl) rfl rfl ?_) | (refine zu 17 ?_; refine zc rfl (zQ rfl a1 (.cons (.same rfl) .nil) rfl) rfl ?_) | (refine zv 17 rfl ?_; refine zX rfl (by kernel_rfl) rfl (zQ rfl a1 (.cons (.same rfl) .nil) rfl) rfl ?_) | (refine zu 57 ?_; refine zc rfl (zQ rfl a2 (.cons (.same rfl) .nil) rfl) rfl ?_) | (refine zv 57 rfl ?_; refine zX rfl (by kernel_rfl) rfl (zQ rfl a2 (.cons (.same rfl) .nil) rfl) rfl ?_) | refine zD ?_ | refine zB _ rfl (by kernel_rfl) ?_ | refine zV rfl ?_ | refine zW rfl ?_ | refine zC ?_ | with_reducible refine zO ?_ | refine zH ?_ | refine zI ?_ | (with_reducible first | refine zM ?_ | refine zN ?_ | refine zE ?_ | refine zG ?_ | refine zF ?_) | refine zP ?_ | refine zd rfl (fun hbr => ?_) (fun hbr => ?_) | (refine wB ?_; refine yW rfl rfl (fun hbr => ?_) (fun hbr => ?_) <;> (fail_if_success (with_reducible (have hx : true = true := hbr))) <;> (fail_if_success (with_reducible (have hx : false = false := hbr)))) | (refine zb rfl ?_; refine yI rfl rfl rfl rfl (fun hbr => ?_) (fun hbr => ?_) <;> (fail_if_success (with_reducible (have hx : true = true := hbr))) <;> (fail_if_success (with_reducible (have hx : false = false := hbr))))
  all_goals first
    | exact nx rfl (.tup (.cons (.same rfl) (.cons (.same rfl) .nil)))
    | (exfalso
       have q1 : vS s = true := by have := (by assumption : (!vS s) = false); simpa using this
       have q2 : ¬ 1000000000 < s.wr := of_decide_eq_false (by assumption)
       have q3 : inV g 8 60 = true := by have := (by assumption : (!inV g 8 60) = false); simpa using this
       rw [q1, decide_eq_true (by omega), q3] at h
       cases h)
theorem e9 (s y : So) (g : Int) (n : Nat) (hv : VS s) (h1 : inV g 8 60 = true) (hw : s.wr ≤ 1000000000) (hn : n ≤ 100) (hf : Fits g s n y) : zy Go.Proofs.Try.prog 38 [.agg (soE s), I g] [] (.tup [I n, B true]) [] true := by
  have hok := hv.ok
  have hgb : 8 ≤ g ∧ g ≤ 60 := xC.1 h1
  have a1 := js s hok
  rw [wE.2 hv] at a1
  have a2 := tJ g
  rw [h1] at a2
  have ac := (sW s hok).frozen (.agg (.cons (zq rfl) (.cons (.same rfl) (.cons (zq rfl) (.cons (zq rfl) (.cons (zq rfl) (.cons (pD (b := 5) rfl fun j x hx => by rw [Nat.add_comm]; exact xX hx) (.cons (.same rfl) (.cons (.same rfl) (.cons (.same rfl) (.cons (.same rfl) .nil)))))))))))
  refine zw [4, 5] Go.Proofs.Try.func38 rfl rfl ?_
  simp only [Go.Proofs.Try.ntmps38, List.length_cons, List.length_nil, Nat.reduceAdd, Nat.reduceSub, List.replicate_succ, List.replicate_zero, List.cons_append, List.nil_append]
  repeat' first | (refine yW rfl rfl (fun h => absurd (of_decide_eq_true h) (by omega)) (fun _ => ?_)) | refine zK ?_ | refine zA ?_ | refine zL [] ?_ | (refine isA ?_; refine zf rfl ?_) | (refine isL ?_; refine zU rfl (by kernel_rfl) rfl rfl ?_) | (refine zb rfl ?_; refine zT rfl (by kernel_rfl) rfl rfl ?_) | (refine zu 17 ?_; refine zc rfl (zQ rfl a1 (.cons (.same rfl) .nil) rfl) rfl ?_) | (refine zv 17 rfl ?_; refine zX rfl (by kernel_rfl) rfl (zQ rfl a1 (.cons (.same rfl) .nil) rfl) rfl ?_) | (refine zu 57 ?_; refine zc rfl (zQ rfl a2 (.cons (.same rfl) .nil) rfl) rfl ?_) | (refine zv 57 rfl ?_; refine zX rfl (by kernel_rfl) rfl (zQ rfl a2 (.cons (.same rfl) .nil) rfl) rfl ?_) | (refine zu 56 ?_; refine zc rfl (zQ rfl ac (.cons (.same rfl) .nil) rfl) rfl ?_) | (refine zv 56 rfl ?_; refine zX rfl (by kernel_rfl) rfl (zQ rfl ac (.cons (.same rfl) .nil) rfl) rfl ?_) | refine zD ?_ | refine zB _ rfl (by kernel_rfl) ?_ | refine zV rfl ?_ | refine zW rfl ?_ | refine zC ?_ | with_reducible refine zO ?_ | refine zH ?_ | refine zI ?_ | (with_reducible first | refine zM ?_ | refine zN ?_ | refine zE ?_ | refine zG ?_ | refine zF ?_) | refine zP ?_
  refine z9 (α := { t : So × Nat × Nat // VS t.1 ∧ Fits g t.1 t.2.1 y ∧ t.2.1 + t.2.2 = n ∧ 0 ≤ t.1.wr ∧ t.1.wr + 4 * t.2.1 ≤ 2000000000 }) (fun t => ⟨[.any, I g, .any, .any, .any, .any, .ptr 0 0, I t.1.2.2, .any, .any, .any, .any, .any, .any, .any, .any, .any, .any, .any, .any, .any, .any, .any, .any, .any, .any, .any, .any, .any, .any, .any, .any, .any, .any, .any, .any, .any, .any, .any, .any], [bxS (soE t.1.1)], 0⟩) (fun t => t.1.2.1) ⟨(s, n, 0), hv, hf, rfl, hv.base.wr, by simp only; omega⟩ ?_ ?_
  · exact yb [1] rfl rfl (by decide) (.cons rfl rfl rfl rfl (z6 rfl) .nil) (by repeat' first | exact zg | refine zZ ?_ ?_ | exact zo | exact le_refl rfl | exact zj rfl rfl | exact zt rfl)
  · rintro ⟨⟨t, m, k⟩, jv, jf, jn, jw0, jw⟩
    simp only at jv jf jn jw0 jw ⊢
    have am := tK t jv.ok
    repeat' first | refine zK ?_ | refine zA ?_ | refine zL [] ?_ | (refine isA ?_; refine zf rfl ?_) | (refine isL ?_; refine zU rfl (by kernel_rfl) rfl rfl ?_) | (refine zb rfl ?_; refine zT rfl (by kernel_rfl) rfl rfl ?_) | (refine zu 19 ?_; refine zc rfl (zQ rfl am (.cons (.same rfl) .nil) rfl) rfl ?_) | (refine zv 19 rfl ?_; refine zX rfl (by kernel_rfl) rfl (zQ rfl am (.cons (.same rfl) .nil) rfl) rfl ?_) | refine zD ?_ | refine zB _ rfl (by kernel_rfl) ?_ | refine zV rfl ?_ | refine zW rfl ?_ | refine zC ?_ | with_reducible refine zO ?_ | refine zH ?_ | refine zI ?_ | (with_reducible first | refine zM ?_ | refine zN ?_ | refine zE ?_ | refine zG ?_ | refine zF ?_) | refine zP ?_
    cases jf with
    | stop hs =>
      refine zd rfl (fun h => absurd (of_decide_eq_true h) (by omega)) (fun _ => ?_)
      repeat' first | refine zK ?_ | refine zA ?_ | refine zL [] ?_ | (refine isA ?_; refine zf rfl ?_) | (refine isL ?_; refine zU rfl (by kernel_rfl) rfl rfl ?_) | (refine zb rfl ?_; refine zT rfl (by kernel_rfl) rfl rfl ?_) | exact nx rfl (.tup (.cons (yk (by omega)) (.cons (.same rfl) .nil))) | refine zD ?_ | refine zB _ rfl (by kernel_rfl) ?_ | refine zV rfl ?_ | refine zW rfl ?_ | refine zC ?_ | with_reducible refine zO ?_ | refine zH ?_ | refine zI ?_ | (with_reducible first | refine zM ?_ | refine zN ?_ | refine zE ?_ | refine zG ?_ | refine zF ?_) | refine zP ?_
    | @step _ x _ r m hs st f =>
      have hp : t.ph = 1 := Classical.byContradiction fun h => by have := (sJ h).2; omega
      have hx := vO jv hgb.1 hgb.2 (by omega) st
      have hwx := uZ st jw0 (by omega)
      refine zd rfl (fun _ => ?_) (fun h => absurd (of_decide_eq_false h) (by omega))
      repeat' first | refine zK ?_ | refine zA ?_ | refine zL [] ?_ | (refine isA ?_; refine zf rfl ?_) | (refine isL ?_; refine zU rfl (by kernel_rfl) rfl rfl ?_) | (refine zb rfl ?_; refine zT rfl (by kernel_rfl) rfl rfl ?_) | (refine zu 13 ?_; refine zc rfl (zQ rfl (sU t x g r jv.ok (wE.2 jv) h1 hp st) (.cons (.same rfl) (.cons (.same rfl) .nil)) rfl) rfl ?_) | (refine zv 13 rfl ?_; refine zX rfl (by kernel_rfl) rfl (zQ rfl (sU t x g r jv.ok (wE.2 jv) h1 hp st) (.cons (.same rfl) (.cons (.same rfl) .nil)) rfl) rfl ?_) | refine zD ?_ | refine zB _ rfl (by kernel_rfl) ?_ | refine zV rfl ?_ | refine zW rfl ?_ | refine zC ?_ | with_reducible refine zO ?_ | refine zH ?_ | refine zI ?_ | (with_reducible first | refine zM ?_ | refine zN ?_ | refine zE ?_ | refine zG ?_ | refine zF ?_) | refine zP ?_
      refine ⟨⟨(x, m, k + 1), hx, f, by simp only; omega, by simp only; omega, by simp only; omega⟩, by simp only; omega, ?_⟩
      exact yb [0] rfl rfl (by decide) (.cons rfl rfl rfl rfl (z6 rfl) .nil) (by
        repeat' first | exact zg | refine zZ ?_ ?_ | exact zo | exact le_refl rfl | exact zt rfl | exact z8 (congrArg _ (show ((k + 1 : Nat) : Int) = IntKind.i64.wrap ((k : Int) + 1) by rw [IntKind.wrap_i64]; omega)))
end Go.Proofs.Ytojcojanokhnaaa.Ab
namespace Go.Proofs.Ytojcojanokhnaaa.Ab
open Go.RowKit
theorem qG (xs : List Rn) (y : Rn) : tot (xs ++ [y]) = tot xs + y.length := by simp [tot]
theorem lF (xs : List Rn) (k : Nat) : tot (xs.drop k) ≤ tot xs := by
  induction xs generalizing k with
  | nil => simp [tot]
  | cons x xs ih =>
    cases k with
    | zero => exact Nat.le_refl _
    | succ k => have := ih k; simp only [List.drop_succ_cons, tot, List.map_cons, List.sum_cons] at this ⊢; omega
structure Sm (k : Nat) (s : So) : Prop where
  input : s.input.length ≤ k
  heap : s.heap.length ≤ k
  dfr : s.dfr.length ≤ k
  out : s.out.length ≤ k
  runs : s.runs.length ≤ k
  tot : tot s.runs ≤ k
theorem VS.sm {s : So} (h : VS s) : Sm 24 s := by
  obtain ⟨h1, h2, h3, h4, h5, h6⟩ := h.small
  exact ⟨h1, h2, h3, h4, by omega, h6⟩
theorem Sm.next {k : Nat} {s : So} (h : Sm k s) : Sm k (yQ s) := ⟨h.input, h.heap, h.dfr, h.out, h.runs, h.tot⟩
theorem Sm.endV {k : Nat} {s : So} (h : Sm k s) (hk : 1 ≤ k) : Sm (2 * k) (endV s) := by
  obtain ⟨h1, h2, h3, h4, h5, h6⟩ := h
  refine ⟨?_, ?_, ?_, ?_, ?_, ?_⟩ <;> simp only [Ab.endV, List.length_append, List.length_singleton, List.length_nil, qG] <;> omega
theorem gW {s x : So} {g : Int} {r : List Rw} (hv : VS s) (h : StepV s g x r) : Sm 48 x := by
  have hs := hv.sm
  obtain ⟨h1, h2, h3, h4, h5, h6⟩ := hs
  cases h with
  | put hp hr hf =>
    unfold wc
    cases bel _ s.out <;> (refine ⟨?_, ?_, ?_, ?_, ?_, ?_⟩ <;> simp only [cond_true, cond_false, List.length_append, List.length_singleton] <;> omega)
  | pop hp hf hh hk hr => refine ⟨?_, ?_, ?_, ?_, ?_, ?_⟩ <;> simp only [uO, List.length_append, List.length_take, List.length_drop, List.length_singleton] <;> omega
  | swap hp hf hh hd => refine ⟨?_, ?_, ?_, ?_, ?_, ?_⟩ <;> simp only [yf, List.length_append, List.length_singleton, List.length_nil, qG] <;> omega
  | close hp hf hh hd =>
    refine Sm.next ?_
    unfold x5
    cases decide (0 < s.out.length)
    · exact ⟨by simp only [cond_false]; omega, by simp only [cond_false]; omega, by simp only [cond_false]; omega, by simp only [cond_false]; omega, by simp only [cond_false]; omega, by simp only [cond_false]; omega⟩
    · exact hv.sm.endV (by decide)
  | merged hp hr h7 h8 =>
    refine Sm.next ?_
    have := lF s.runs 2
    refine ⟨?_, ?_, ?_, ?_, ?_, ?_⟩ <;> simp only [sT, List.length_append, List.length_drop, List.length_singleton, List.length_nil, qG] <;> omega
  | left hp hr h7 h8 => refine ⟨?_, ?_, ?_, ?_, ?_, ?_⟩ <;> simp only [uh, List.length_append, List.length_singleton] <;> omega
  | right hp hr h7 h8 => refine ⟨?_, ?_, ?_, ?_, ?_, ?_⟩ <;> simp only [vQ, List.length_append, List.length_singleton] <;> omega
  | emit hp hr h7 => refine ⟨?_, ?_, ?_, ?_, ?_, ?_⟩ <;> simp only [vr] <;> omega
theorem Sm.ok {s : So} (h : Sm 48 s) : okSo s ∧ totS s ≤ 1000 := by
  obtain ⟨h1, h2, h3, h4, h5, h6⟩ := h
  exact ⟨⟨by omega, by omega, by omega, by omega, by omega, by omega⟩, by unfold totS; omega⟩
end Go.Proofs.Ytojcojanokhnaaa.Ab
namespace Go.Proofs.Ytojcojanokhnaaa.Ab
open Go.RowKit
theorem eD (inp heap dfr out : List Rw) (pos wr g : Int) (a b : Rn) (rest : List Rn) (i k : Nat) (r : Rw) (hok : okSo ⟨inp, pos, heap, dfr, out, a :: b :: rest, i, k, 2, wr⟩) (hv : vS ⟨inp, pos, heap, dfr, out, a :: b :: rest, i, k, 2, wr⟩ = true) (hg : inV g 8 60 = true) (h1 : a[i]? = some r) (hk : k ≤ b.length) (h2 : ∀ q, b[k]? = some q → leW r q) :
    zy Go.Proofs.Try.prog 14 [.agg (soE ⟨inp, pos, heap, dfr, out, a :: b :: rest, i, k, 2, wr⟩), I g] [] (.tup [.agg (soH (uh ⟨inp, pos, heap, dfr, out, a :: b :: rest, i, k, 2, wr⟩ r)), rwL [], B true]) [rwR (uh ⟨inp, pos, heap, dfr, out, a :: b :: rest, i, k, 2, wr⟩ r).heap] true := by
  have g4 := hok.out
  have g6 := hok.tot
  simp only [tot, List.map_cons, List.sum_cons] at g4 g6
  have hlt := (List.getElem?_eq_some_iff.1 h1).1
  have ew : IntKind.i64.wrap ((i : Int) + 1) = (i : Int) + 1 := by rw [IntKind.wrap_i64]; omega
  have ac := xV _ hok
  have a1 := vt _ hok
  rw [hv] at a1
  have a2 := vT g 8 60
  rw [hg] at a2
  have b1 := wA (a :: b :: rest) 0 i hok.rn (by decide)
  have b2 := wA (a :: b :: rest) 1 k hok.rn (by decide)
  have e0 : wF (a :: b :: rest) 0 i = (a[i]?).toList := rfl
  have e1 : wF (a :: b :: rest) 1 k = (b[k]?).toList := rfl
  rw [e0] at b1
  rw [e1] at b2
  rw [h1] at b1
  have hz1 : ([r] : List Rw)[0]? = some r := rfl
  rcases hq : b[k]? with _ | q
  · rw [hq] at b2
    refine yV 4 27 [5, 6] Go.Proofs.Try.func14 rfl rfl rfl ?_
    simp only [Go.Proofs.Try.ntmps14, List.length_cons, List.length_nil, Nat.reduceAdd, Nat.reduceSub, List.replicate_succ, List.replicate_zero, List.cons_append, List.nil_append]
    repeat' first | (refine zd rfl (fun h => absurd (of_decide_eq_true h) (by simp only; decide)) (fun _ => ?_)) | (refine zd rfl (fun _ => ?_) (fun h => absurd (of_decide_eq_false h) (by simp only; decide))) | (refine isA ?_; refine zc rfl (yN rfl rfl rfl rfl rfl) rfl ?_) | (refine zL (id := 27) [6, 8] ?_) | (refine zL (id := 28) [8] ?_) | (refine sO rfl ?_; refine zX rfl (by kernel_rfl) rfl (yN rfl rfl rfl rfl rfl) rfl ?_) | (refine y9 rfl ?_; refine sL rfl (by kernel_rfl) rfl (yX (t := rwT) (xs := out) (ys := [r]) rfl rfl rfl rfl (.lst _ _) (by simp; omega) rfl) rfl ?_) | refine zK ?_ | refine zA ?_ | refine zL [] ?_ | (refine isA ?_; refine zf rfl ?_) | (refine isL ?_; refine zU rfl (by kernel_rfl) rfl rfl ?_) | (refine zb rfl ?_; refine zT rfl (by kernel_rfl) rfl rfl ?_) | (refine zu 65 ?_; refine zc rfl (yA (r' := .agg (soP 2 ⟨inp, pos, heap, dfr, out, a :: b :: rest, i, k, 2, wr⟩)) (H' := bxS (soE ⟨inp, pos, heap, dfr, out, a :: b :: rest, i, k, 2, wr⟩) :: bxS zS :: soW ⟨inp, pos, heap, dfr, out, a :: b :: rest, i, k, 2, wr⟩) rfl ac (.cons (.same rfl) .nil) rfl (by simp only [List.map_cons, List.map_nil, shR, yC _ (yP (zJ _ _))]; rfl)) rfl ?_) | (refine zv 65 rfl ?_; refine zX rfl (by kernel_rfl) rfl (yA (r' := .agg (soP 2 ⟨inp, pos, heap, dfr, out, a :: b :: rest, i, k, 2, wr⟩)) (H' := bxS (soE ⟨inp, pos, heap, dfr, out, a :: b :: rest, i, k, 2, wr⟩) :: bxS zS :: soW ⟨inp, pos, heap, dfr, out, a :: b :: rest, i, k, 2, wr⟩) rfl ac (.cons (.same rfl) .nil) rfl (by simp only [List.map_cons, List.map_nil, shR, yC _ (yP (zJ _ _))]; rfl)) rfl ?_) | (refine zu 18 ?_; refine zc rfl (zQ rfl a1 (.cons (.same rfl) .nil) rfl) rfl ?_) | (refine zv 18 rfl ?_; refine zX rfl (by kernel_rfl) rfl (zQ rfl a1 (.cons (.same rfl) .nil) rfl) rfl ?_) | (refine zu 66 ?_; refine zc rfl (zQ rfl a2 (.cons (.same rfl) (.cons (.same rfl) (.cons (.same rfl) .nil))) rfl) rfl ?_) | (refine zv 66 rfl ?_; refine zX rfl (by kernel_rfl) rfl (zQ rfl a2 (.cons (.same rfl) (.cons (.same rfl) (.cons (.same rfl) .nil))) rfl) rfl ?_) | (refine zu 71 (x := #[.tmp 124, .tmp 126]) ?_; refine zc rfl (zQ rfl b1 (.cons (.same rfl) (.cons (.same rfl) (.cons (.same rfl) .nil))) rfl) rfl ?_) | (refine zv 71 (x := #[.tmp 124, .tmp 126]) rfl ?_; refine zX rfl (by kernel_rfl) rfl (zQ rfl b1 (.cons (.same rfl) (.cons (.same rfl) (.cons (.same rfl) .nil))) rfl) rfl ?_) | (refine zu 71 ?_; refine zc rfl (zQ rfl b1 (.cons (.same rfl) (.cons (.same rfl) (.cons (.same rfl) .nil))) rfl) rfl ?_) | (refine zv 71 rfl ?_; refine zX rfl (by kernel_rfl) rfl (zQ rfl b1 (.cons (.same rfl) (.cons (.same rfl) (.cons (.same rfl) .nil))) rfl) rfl ?_) | (refine zu 71 ?_; refine zc rfl (zQ rfl b2 (.cons (.same rfl) (.cons (.same rfl) (.cons (.same rfl) .nil))) rfl) rfl ?_) | (refine zv 71 rfl ?_; refine zX rfl (by kernel_rfl) rfl (zQ rfl b2 (.cons (.same rfl) (.cons (.same rfl) (.cons (.same rfl) .nil))) rfl) rfl ?_) | (refine yG (x := .tmp 173) ?_; refine zc rfl (z5 (t := rwT) (xs := [r]) (z := r) rfl rfl rfl rfl (Int.le_refl 0) hz1) rfl ?_) | (refine yF (x := .tmp 173) rfl ?_; refine zX rfl (by kernel_rfl) rfl (z5 (t := rwT) (xs := [r]) (z := r) rfl rfl rfl rfl (Int.le_refl 0) hz1) rfl ?_) | (refine yG (x := .tmp 181) ?_; refine zc rfl (z5 (t := rwT) (xs := [r]) (z := r) rfl rfl rfl rfl (Int.le_refl 0) hz1) rfl ?_) | (refine yF (x := .tmp 181) rfl ?_; refine zX rfl (by kernel_rfl) rfl (z5 (t := rwT) (xs := [r]) (z := r) rfl rfl rfl rfl (Int.le_refl 0) hz1) rfl ?_) | (refine zu 67 ?_; refine zc rfl (zQ rfl (xq r) (.cons (.same rfl) .nil) rfl) rfl ?_) | (refine zv 67 rfl ?_; refine zX rfl (by kernel_rfl) rfl (zQ rfl (xq r) (.cons (.same rfl) .nil) rfl) rfl ?_) | (refine isL ?_; refine vo rfl (by kernel_rfl) rfl rfl ?_) | refine zD ?_ | refine zB _ rfl (by kernel_rfl) ?_ | refine zV rfl ?_ | refine zW rfl ?_ | refine zC ?_ | with_reducible refine zO ?_ | refine zH ?_ | refine zI ?_ | (with_reducible first | refine zM ?_ | refine zN ?_ | refine zE ?_ | refine zG ?_ | refine zF ?_) | refine zP ?_
    exact xS (yS rfl rfl rfl rfl rfl) rfl rfl (zJ _ _) (by repeat' first | exact Purs.nil | refine Purs.cons ?_ ?_ | exact zq rfl | exact yL rfl rfl | exact zq (T := rwT) (x := []) rfl | exact Pur.nil | exact Pur.same rfl | exact yk (by assumption)) (by repeat' first | exact Purs.nil | refine Purs.cons ?_ ?_ | exact zq rfl | exact yL rfl rfl | exact zq (T := rwT) (x := []) rfl | exact Pur.nil | exact Pur.same rfl | exact yk (by assumption)) (.cons (.same rfl) (.cons (.same rfl) .nil))
  · rw [hq] at b2
    have hle : decide (yr r q ≤ 0) = true := decide_eq_true (h2 q hq)
    refine yV 4 27 [5, 6] Go.Proofs.Try.func14 rfl rfl rfl ?_
    simp only [Go.Proofs.Try.ntmps14, List.length_cons, List.length_nil, Nat.reduceAdd, Nat.reduceSub, List.replicate_succ, List.replicate_zero, List.cons_append, List.nil_append]
    repeat' first | (refine zd rfl (fun h => absurd (of_decide_eq_true h) (by simp only; decide)) (fun _ => ?_)) | (refine zd rfl (fun _ => ?_) (fun h => absurd (of_decide_eq_false h) (by simp only; decide))) | (refine isA ?_; refine zc rfl (yN rfl rfl rfl rfl rfl) rfl ?_) | (refine zL (id := 27) [6, 8] ?_) | (refine zL (id := 28) [8] ?_) | (refine sO rfl ?_; refine zX rfl (by kernel_rfl) rfl (yN rfl rfl rfl rfl rfl) rfl ?_) | (refine y9 rfl ?_; refine sL rfl (by kernel_rfl) rfl (yX (t := rwT) (xs := out) (ys := [r]) rfl rfl rfl rfl (.lst _ _) (by simp; omega) rfl) rfl ?_) | refine zK ?_ | refine zA ?_ | refine zL [] ?_ | (refine isA ?_; refine zf rfl ?_) | (refine isL ?_; refine zU rfl (by kernel_rfl) rfl rfl ?_) | (refine zb rfl ?_; refine zT rfl (by kernel_rfl) rfl rfl ?_) | (refine zu 65 ?_; refine zc rfl (yA (r' := .agg (soP 2 ⟨inp, pos, heap, dfr, out, a :: b :: rest, i, k, 2, wr⟩)) (H' := bxS (soE ⟨inp, pos, heap, dfr, out, a :: b :: rest, i, k, 2, wr⟩) :: bxS zS :: soW ⟨inp, pos, heap, dfr, out, a :: b :: rest, i, k, 2, wr⟩) rfl ac (.cons (.same rfl) .nil) rfl (by simp only [List.map_cons, List.map_nil, shR, yC _ (yP (zJ _ _))]; rfl)) rfl ?_) | (refine zv 65 rfl ?_; refine zX rfl (by kernel_rfl) rfl (yA (r' := .agg (soP 2 ⟨inp, pos, heap, dfr, out, a :: b :: rest, i, k, 2, wr⟩)) (H' := bxS (soE ⟨inp, pos, heap, dfr, out, a :: b :: rest, i, k, 2, wr⟩) :: bxS zS :: soW ⟨inp, pos, heap, dfr, out, a :: b :: rest, i, k, 2, wr⟩) rfl ac (.cons (.same rfl) .nil) rfl (by simp only [List.map_cons, List.map_nil, shR, yC _ (yP (zJ _ _))]; rfl)) rfl ?_) | (refine zu 18 ?_; refine zc rfl (zQ rfl a1 (.cons (.same rfl) .nil) rfl) rfl ?_) | (refine zv 18 rfl ?_; refine zX rfl (by kernel_rfl) rfl (zQ rfl a1 (.cons (.same rfl) .nil) rfl) rfl ?_) | (refine zu 66 ?_; refine zc rfl (zQ rfl a2 (.cons (.same rfl) (.cons (.same rfl) (.cons (.same rfl) .nil))) rfl) rfl ?_) | (refine zv 66 rfl ?_; refine zX rfl (by kernel_rfl) rfl (zQ rfl a2 (.cons (.same rfl) (.cons (.same rfl) (.cons (.same rfl) .nil))) rfl) rfl ?_) | (refine zu 71 (x := #[.tmp 124, .tmp 126]) ?_; refine zc rfl (zQ rfl b1 (.cons (.same rfl) (.cons (.same rfl) (.cons (.same rfl) .nil))) rfl) rfl ?_) | (refine zv 71 (x := #[.tmp 124, .tmp 126]) rfl ?_; refine zX rfl (by kernel_rfl) rfl (zQ rfl b1 (.cons (.same rfl) (.cons (.same rfl) (.cons (.same rfl) .nil))) rfl) rfl ?_) | (refine zu 71 ?_; refine zc rfl (zQ rfl b1 (.cons (.same rfl) (.cons (.same rfl) (.cons (.same rfl) .nil))) rfl) rfl ?_) | (refine zv 71 rfl ?_; refine zX rfl (by kernel_rfl) rfl (zQ rfl b1 (.cons (.same rfl) (.cons (.same rfl) (.cons (.same rfl) .nil))) rfl) rfl ?_) | (refine zu 71 ?_; refine zc rfl (zQ rfl b2 (.cons (.same rfl) (.cons (.same rfl) (.cons (.same rfl) .nil))) rfl) rfl ?_) | (refine zv 71 rfl ?_; refine zX rfl (by kernel_rfl) rfl (zQ rfl b2 (.cons (.same rfl) (.cons (.same rfl) (.cons (.same rfl) .nil))) rfl) rfl ?_) | (refine yG (x := .tmp 161) ?_; refine zc rfl (z5 (t := rwT) (xs := [r]) (z := r) rfl rfl rfl rfl (Int.le_refl 0) rfl) rfl ?_) | (refine yF (x := .tmp 161) rfl ?_; refine zX rfl (by kernel_rfl) rfl (z5 (t := rwT) (xs := [r]) (z := r) rfl rfl rfl rfl (Int.le_refl 0) rfl) rfl ?_) | (refine yG (x := .tmp 164) ?_; refine zc rfl (z5 (t := rwT) (xs := [q]) (z := q) rfl rfl rfl rfl (Int.le_refl 0) rfl) rfl ?_) | (refine yF (x := .tmp 164) rfl ?_; refine zX rfl (by kernel_rfl) rfl (z5 (t := rwT) (xs := [q]) (z := q) rfl rfl rfl rfl (Int.le_refl 0) rfl) rfl ?_) | (refine zu 68 ?_; refine zc rfl (zQ rfl (xa r q) (.cons (.same rfl) (.cons (.same rfl) .nil)) rfl) rfl ?_) | (refine zv 68 rfl ?_; refine zX rfl (by kernel_rfl) rfl (zQ rfl (xa r q) (.cons (.same rfl) (.cons (.same rfl) .nil)) rfl) rfl ?_) | (refine yG (x := .tmp 173) ?_; refine zc rfl (z5 (t := rwT) (xs := [r]) (z := r) rfl rfl rfl rfl (Int.le_refl 0) hz1) rfl ?_) | (refine yF (x := .tmp 173) rfl ?_; refine zX rfl (by kernel_rfl) rfl (z5 (t := rwT) (xs := [r]) (z := r) rfl rfl rfl rfl (Int.le_refl 0) hz1) rfl ?_) | (refine yG (x := .tmp 181) ?_; refine zc rfl (z5 (t := rwT) (xs := [r]) (z := r) rfl rfl rfl rfl (Int.le_refl 0) hz1) rfl ?_) | (refine yF (x := .tmp 181) rfl ?_; refine zX rfl (by kernel_rfl) rfl (z5 (t := rwT) (xs := [r]) (z := r) rfl rfl rfl rfl (Int.le_refl 0) hz1) rfl ?_) | (refine zu 67 ?_; refine zc rfl (zQ rfl (xq r) (.cons (.same rfl) .nil) rfl) rfl ?_) | (refine zv 67 rfl ?_; refine zX rfl (by kernel_rfl) rfl (zQ rfl (xq r) (.cons (.same rfl) .nil) rfl) rfl ?_) | (refine isL ?_; refine vo rfl (by kernel_rfl) rfl rfl ?_) | refine zD ?_ | refine zB _ rfl (by kernel_rfl) ?_ | refine zV rfl ?_ | refine zW rfl ?_ | refine zC ?_ | with_reducible refine zO ?_ | refine zH ?_ | refine zI ?_ | (with_reducible first | refine zM ?_ | refine zN ?_ | refine zE ?_ | refine zG ?_ | refine zF ?_) | refine zP ?_
    refine zd rfl (fun _ => ?_) (fun h => absurd (hle.symm.trans h) (by decide))
    repeat' first | (refine isA ?_; refine zc rfl (yN rfl rfl rfl rfl rfl) rfl ?_) | (refine zL (id := 27) [6, 8] ?_) | (refine zL (id := 28) [8] ?_) | (refine sO rfl ?_; refine zX rfl (by kernel_rfl) rfl (yN rfl rfl rfl rfl rfl) rfl ?_) | (refine y9 rfl ?_; refine sL rfl (by kernel_rfl) rfl (yX (t := rwT) (xs := out) (ys := [r]) rfl rfl rfl rfl (.lst _ _) (by simp; omega) rfl) rfl ?_) | refine zK ?_ | refine zA ?_ | refine zL [] ?_ | (refine isA ?_; refine zf rfl ?_) | (refine isL ?_; refine zU rfl (by kernel_rfl) rfl rfl ?_) | (refine zb rfl ?_; refine zT rfl (by kernel_rfl) rfl rfl ?_) | (refine yG (x := .tmp 173) ?_; refine zc rfl (z5 (t := rwT) (xs := [r]) (z := r) rfl rfl rfl rfl (Int.le_refl 0) hz1) rfl ?_) | (refine yF (x := .tmp 173) rfl ?_; refine zX rfl (by kernel_rfl) rfl (z5 (t := rwT) (xs := [r]) (z := r) rfl rfl rfl rfl (Int.le_refl 0) hz1) rfl ?_) | (refine yG (x := .tmp 181) ?_; refine zc rfl (z5 (t := rwT) (xs := [r]) (z := r) rfl rfl rfl rfl (Int.le_refl 0) hz1) rfl ?_) | (refine yF (x := .tmp 181) rfl ?_; refine zX rfl (by kernel_rfl) rfl (z5 (t := rwT) (xs := [r]) (z := r) rfl rfl rfl rfl (Int.le_refl 0) hz1) rfl ?_) | (refine zu 67 ?_; refine zc rfl (zQ rfl (xq r) (.cons (.same rfl) .nil) rfl) rfl ?_) | (refine zv 67 rfl ?_; refine zX rfl (by kernel_rfl) rfl (zQ rfl (xq r) (.cons (.same rfl) .nil) rfl) rfl ?_) | (refine isL ?_; refine vo rfl (by kernel_rfl) rfl rfl ?_) | refine zD ?_ | refine zB _ rfl (by kernel_rfl) ?_ | refine zV rfl ?_ | refine zW rfl ?_ | refine zC ?_ | with_reducible refine zO ?_ | refine zH ?_ | refine zI ?_ | (with_reducible first | refine zM ?_ | refine zN ?_ | refine zE ?_ | refine zG ?_ | refine zF ?_) | refine zP ?_
    exact xS (yS rfl rfl rfl rfl rfl) rfl rfl (zJ _ _) (by repeat' first | exact Purs.nil | refine Purs.cons ?_ ?_ | exact zq rfl | exact yL rfl rfl | exact zq (T := rwT) (x := []) rfl | exact Pur.nil | exact Pur.same rfl | exact yk (by assumption)) (by repeat' first | exact Purs.nil | refine Purs.cons ?_ ?_ | exact zq rfl | exact yL rfl rfl | exact zq (T := rwT) (x := []) rfl | exact Pur.nil | exact Pur.same rfl | exact yk (by assumption)) (.cons (.same rfl) (.cons (.same rfl) .nil))
theorem gY (inp heap dfr out : List Rw) (pos wr g : Int) (a b : Rn) (rest : List Rn) (i k : Nat) (r : Rw) (hok : okSo ⟨inp, pos, heap, dfr, out, a :: b :: rest, i, k, 2, wr⟩) (hv : vS ⟨inp, pos, heap, dfr, out, a :: b :: rest, i, k, 2, wr⟩ = true) (hg : inV g 8 60 = true) (h1 : b[k]? = some r) (hi : i ≤ a.length) (h2 : ∀ q, a[i]? = some q → ¬ leW q r) :
    zy Go.Proofs.Try.prog 14 [.agg (soE ⟨inp, pos, heap, dfr, out, a :: b :: rest, i, k, 2, wr⟩), I g] [] (.tup [.agg (soH (vQ ⟨inp, pos, heap, dfr, out, a :: b :: rest, i, k, 2, wr⟩ r)), rwL [], B true]) [rwR (vQ ⟨inp, pos, heap, dfr, out, a :: b :: rest, i, k, 2, wr⟩ r).heap] true := by
  have g4 := hok.out
  have g6 := hok.tot
  simp only [tot, List.map_cons, List.sum_cons] at g4 g6
  have hlt := (List.getElem?_eq_some_iff.1 h1).1
  have ew : IntKind.i64.wrap ((k : Int) + 1) = (k : Int) + 1 := by rw [IntKind.wrap_i64]; omega
  have ac := xV _ hok
  have a1 := vt _ hok
  rw [hv] at a1
  have a2 := vT g 8 60
  rw [hg] at a2
  have b1 := wA (a :: b :: rest) 0 i hok.rn (by decide)
  have b2 := wA (a :: b :: rest) 1 k hok.rn (by decide)
  have e0 : wF (a :: b :: rest) 0 i = (a[i]?).toList := rfl
  have e1 : wF (a :: b :: rest) 1 k = (b[k]?).toList := rfl
  rw [e0] at b1
  rw [e1] at b2
  rw [h1] at b2
  have hz1 : ([r] : List Rw)[0]? = some r := rfl
  rcases hq : a[i]? with _ | q
  · rw [hq] at b1
    refine yV 4 27 [5, 6] Go.Proofs.Try.func14 rfl rfl rfl ?_
    simp only [Go.Proofs.Try.ntmps14, List.length_cons, List.length_nil, Nat.reduceAdd, Nat.reduceSub, List.replicate_succ, List.replicate_zero, List.cons_append, List.nil_append]
    repeat' first | (refine zd rfl (fun h => absurd (of_decide_eq_true h) (by simp only; decide)) (fun _ => ?_)) | (refine zd rfl (fun _ => ?_) (fun h => absurd (of_decide_eq_false h) (by simp only; decide))) | (refine isA ?_; refine zc rfl (yN rfl rfl rfl rfl rfl) rfl ?_) | (refine zL (id := 30) [6, 8] ?_) | (refine zL (id := 31) [8] ?_) | (refine sO rfl ?_; refine zX rfl (by kernel_rfl) rfl (yN rfl rfl rfl rfl rfl) rfl ?_) | (refine y9 rfl ?_; refine sL rfl (by kernel_rfl) rfl (yX (t := rwT) (xs := out) (ys := [r]) rfl rfl rfl rfl (.lst _ _) (by simp; omega) rfl) rfl ?_) | refine zK ?_ | refine zA ?_ | refine zL [] ?_ | (refine isA ?_; refine zf rfl ?_) | (refine isL ?_; refine zU rfl (by kernel_rfl) rfl rfl ?_) | (refine zb rfl ?_; refine zT rfl (by kernel_rfl) rfl rfl ?_) | (refine zu 65 ?_; refine zc rfl (yA (r' := .agg (soP 2 ⟨inp, pos, heap, dfr, out, a :: b :: rest, i, k, 2, wr⟩)) (H' := bxS (soE ⟨inp, pos, heap, dfr, out, a :: b :: rest, i, k, 2, wr⟩) :: bxS zS :: soW ⟨inp, pos, heap, dfr, out, a :: b :: rest, i, k, 2, wr⟩) rfl ac (.cons (.same rfl) .nil) rfl (by simp only [List.map_cons, List.map_nil, shR, yC _ (yP (zJ _ _))]; rfl)) rfl ?_) | (refine zv 65 rfl ?_; refine zX rfl (by kernel_rfl) rfl (yA (r' := .agg (soP 2 ⟨inp, pos, heap, dfr, out, a :: b :: rest, i, k, 2, wr⟩)) (H' := bxS (soE ⟨inp, pos, heap, dfr, out, a :: b :: rest, i, k, 2, wr⟩) :: bxS zS :: soW ⟨inp, pos, heap, dfr, out, a :: b :: rest, i, k, 2, wr⟩) rfl ac (.cons (.same rfl) .nil) rfl (by simp only [List.map_cons, List.map_nil, shR, yC _ (yP (zJ _ _))]; rfl)) rfl ?_) | (refine zu 18 ?_; refine zc rfl (zQ rfl a1 (.cons (.same rfl) .nil) rfl) rfl ?_) | (refine zv 18 rfl ?_; refine zX rfl (by kernel_rfl) rfl (zQ rfl a1 (.cons (.same rfl) .nil) rfl) rfl ?_) | (refine zu 66 ?_; refine zc rfl (zQ rfl a2 (.cons (.same rfl) (.cons (.same rfl) (.cons (.same rfl) .nil))) rfl) rfl ?_) | (refine zv 66 rfl ?_; refine zX rfl (by kernel_rfl) rfl (zQ rfl a2 (.cons (.same rfl) (.cons (.same rfl) (.cons (.same rfl) .nil))) rfl) rfl ?_) | (refine zu 71 (x := #[.tmp 124, .tmp 126]) ?_; refine zc rfl (zQ rfl b1 (.cons (.same rfl) (.cons (.same rfl) (.cons (.same rfl) .nil))) rfl) rfl ?_) | (refine zv 71 (x := #[.tmp 124, .tmp 126]) rfl ?_; refine zX rfl (by kernel_rfl) rfl (zQ rfl b1 (.cons (.same rfl) (.cons (.same rfl) (.cons (.same rfl) .nil))) rfl) rfl ?_) | (refine zu 71 ?_; refine zc rfl (zQ rfl b1 (.cons (.same rfl) (.cons (.same rfl) (.cons (.same rfl) .nil))) rfl) rfl ?_) | (refine zv 71 rfl ?_; refine zX rfl (by kernel_rfl) rfl (zQ rfl b1 (.cons (.same rfl) (.cons (.same rfl) (.cons (.same rfl) .nil))) rfl) rfl ?_) | (refine zu 71 ?_; refine zc rfl (zQ rfl b2 (.cons (.same rfl) (.cons (.same rfl) (.cons (.same rfl) .nil))) rfl) rfl ?_) | (refine zv 71 rfl ?_; refine zX rfl (by kernel_rfl) rfl (zQ rfl b2 (.cons (.same rfl) (.cons (.same rfl) (.cons (.same rfl) .nil))) rfl) rfl ?_) | (refine yG (x := .tmp 193) ?_; refine zc rfl (z5 (t := rwT) (xs := [r]) (z := r) rfl rfl rfl rfl (Int.le_refl 0) hz1) rfl ?_) | (refine yF (x := .tmp 193) rfl ?_; refine zX rfl (by kernel_rfl) rfl (z5 (t := rwT) (xs := [r]) (z := r) rfl rfl rfl rfl (Int.le_refl 0) hz1) rfl ?_) | (refine yG (x := .tmp 201) ?_; refine zc rfl (z5 (t := rwT) (xs := [r]) (z := r) rfl rfl rfl rfl (Int.le_refl 0) hz1) rfl ?_) | (refine yF (x := .tmp 201) rfl ?_; refine zX rfl (by kernel_rfl) rfl (z5 (t := rwT) (xs := [r]) (z := r) rfl rfl rfl rfl (Int.le_refl 0) hz1) rfl ?_) | (refine zu 67 ?_; refine zc rfl (zQ rfl (xq r) (.cons (.same rfl) .nil) rfl) rfl ?_) | (refine zv 67 rfl ?_; refine zX rfl (by kernel_rfl) rfl (zQ rfl (xq r) (.cons (.same rfl) .nil) rfl) rfl ?_) | (refine isL ?_; refine vo rfl (by kernel_rfl) rfl rfl ?_) | refine zD ?_ | refine zB _ rfl (by kernel_rfl) ?_ | refine zV rfl ?_ | refine zW rfl ?_ | refine zC ?_ | with_reducible refine zO ?_ | refine zH ?_ | refine zI ?_ | (with_reducible first | refine zM ?_ | refine zN ?_ | refine zE ?_ | refine zG ?_ | refine zF ?_) | refine zP ?_
    exact xS (yS rfl rfl rfl rfl rfl) rfl rfl (zJ _ _) (by repeat' first | exact Purs.nil | refine Purs.cons ?_ ?_ | exact zq rfl | exact yL rfl rfl | exact zq (T := rwT) (x := []) rfl | exact Pur.nil | exact Pur.same rfl | exact yk (by assumption)) (by repeat' first | exact Purs.nil | refine Purs.cons ?_ ?_ | exact zq rfl | exact yL rfl rfl | exact zq (T := rwT) (x := []) rfl | exact Pur.nil | exact Pur.same rfl | exact yk (by assumption)) (.cons (.same rfl) (.cons (.same rfl) .nil))
  · rw [hq] at b1
    have hle : decide (yr q r ≤ 0) = false := decide_eq_false (h2 q hq)
    refine yV 4 27 [5, 6] Go.Proofs.Try.func14 rfl rfl rfl ?_
    simp only [Go.Proofs.Try.ntmps14, List.length_cons, List.length_nil, Nat.reduceAdd, Nat.reduceSub, List.replicate_succ, List.replicate_zero, List.cons_append, List.nil_append]
    repeat' first | (refine zd rfl (fun h => absurd (of_decide_eq_true h) (by simp only; decide)) (fun _ => ?_)) | (refine zd rfl (fun _ => ?_) (fun h => absurd (of_decide_eq_false h) (by simp only; decide))) | (refine isA ?_; refine zc rfl (yN rfl rfl rfl rfl rfl) rfl ?_) | (refine zL (id := 30) [6, 8] ?_) | (refine zL (id := 31) [8] ?_) | (refine sO rfl ?_; refine zX rfl (by kernel_rfl) rfl (yN rfl rfl rfl rfl rfl) rfl ?_) | (refine y9 rfl ?_; refine sL rfl (by kernel_rfl) rfl (yX (t := rwT) (xs := out) (ys := [r]) rfl rfl rfl rfl (.lst _ _) (by simp; omega) rfl) rfl ?_) | refine zK ?_ | refine zA ?_ | refine zL [] ?_ | (refine isA ?_; refine zf rfl ?_) | (refine isL ?_; refine zU rfl (by kernel_rfl) rfl rfl ?_) | (refine zb rfl ?_; refine zT rfl (by kernel_rfl) rfl rfl ?_) | (refine zu 65 ?_; refine zc rfl (yA (r' := .agg (soP 2 ⟨inp, pos, heap, dfr, out, a :: b :: rest, i, k, 2, wr⟩)) (H' := bxS (soE ⟨inp, pos, heap, dfr, out, a :: b :: rest, i, k, 2, wr⟩) :: bxS zS :: soW ⟨inp, pos, heap, dfr, out, a :: b :: rest, i, k, 2, wr⟩) rfl ac (.cons (.same rfl) .nil) rfl (by simp only [List.map_cons, List.map_nil, shR, yC _ (yP (zJ _ _))]; rfl)) rfl ?_) | (refine zv 65 rfl ?_; refine zX rfl (by kernel_rfl) rfl (yA (r' := .agg (soP 2 ⟨inp, pos, heap, dfr, out, a :: b :: rest, i, k, 2, wr⟩)) (H' := bxS (soE ⟨inp, pos, heap, dfr, out, a :: b :: rest, i, k, 2, wr⟩) :: bxS zS :: soW ⟨inp, pos, heap, dfr, out, a :: b :: rest, i, k, 2, wr⟩) rfl ac (.cons (.same rfl) .nil) rfl (by simp only [List.map_cons, List.map_nil, shR, yC _ (yP (zJ _ _))]; rfl)) rfl ?_) | (refine zu 18 ?_; refine zc rfl (zQ rfl a1 (.cons (.same rfl) .nil) rfl) rfl ?_) | (refine zv 18 rfl ?_; refine zX rfl (by kernel_rfl) rfl (zQ rfl a1 (.cons (.same rfl) .nil) rfl) rfl ?_) | (refine zu 66 ?_; refine zc rfl (zQ rfl a2 (.cons (.same rfl) (.cons (.same rfl) (.cons (.same rfl) .nil))) rfl) rfl ?_) | (refine zv 66 rfl ?_; refine zX rfl (by kernel_rfl) rfl (zQ rfl a2 (.cons (.same rfl) (.cons (.same rfl) (.cons (.same rfl) .nil))) rfl) rfl ?_) | (refine zu 71 (x := #[.tmp 124, .tmp 126]) ?_; refine zc rfl (zQ rfl b1 (.cons (.same rfl) (.cons (.same rfl) (.cons (.same rfl) .nil))) rfl) rfl ?_) | (refine zv 71 (x := #[.tmp 124, .tmp 126]) rfl ?_; refine zX rfl (by kernel_rfl) rfl (zQ rfl b1 (.cons (.same rfl) (.cons (.same rfl) (.cons (.same rfl) .nil))) rfl) rfl ?_) | (refine zu 71 ?_; refine zc rfl (zQ rfl b1 (.cons (.same rfl) (.cons (.same rfl) (.cons (.same rfl) .nil))) rfl) rfl ?_) | (refine zv 71 rfl ?_; refine zX rfl (by kernel_rfl) rfl (zQ rfl b1 (.cons (.same rfl) (.cons (.same rfl) (.cons (.same rfl) .nil))) rfl) rfl ?_) | (refine zu 71 ?_; refine zc rfl (zQ rfl b2 (.cons (.same rfl) (.cons (.same rfl) (.cons (.same rfl) .nil))) rfl) rfl ?_) | (refine zv 71 rfl ?_; refine zX rfl (by kernel_rfl) rfl (zQ rfl b2 (.cons (.same rfl) (.cons (.same rfl) (.cons (.same rfl) .nil))) rfl) rfl ?_) | (refine yG (x := .tmp 161) ?_; refine zc rfl (z5 (t := rwT) (xs := [q]) (z := q) rfl rfl rfl rfl (Int.le_refl 0) rfl) rfl ?_) | (refine yF (x := .tmp 161) rfl ?_; refine zX rfl (by kernel_rfl) rfl (z5 (t := rwT) (xs := [q]) (z := q) rfl rfl rfl rfl (Int.le_refl 0) rfl) rfl ?_) | (refine yG (x := .tmp 164) ?_; refine zc rfl (z5 (t := rwT) (xs := [r]) (z := r) rfl rfl rfl rfl (Int.le_refl 0) rfl) rfl ?_) | (refine yF (x := .tmp 164) rfl ?_; refine zX rfl (by kernel_rfl) rfl (z5 (t := rwT) (xs := [r]) (z := r) rfl rfl rfl rfl (Int.le_refl 0) rfl) rfl ?_) | (refine zu 68 ?_; refine zc rfl (zQ rfl (xa q r) (.cons (.same rfl) (.cons (.same rfl) .nil)) rfl) rfl ?_) | (refine zv 68 rfl ?_; refine zX rfl (by kernel_rfl) rfl (zQ rfl (xa q r) (.cons (.same rfl) (.cons (.same rfl) .nil)) rfl) rfl ?_) | (refine yG (x := .tmp 193) ?_; refine zc rfl (z5 (t := rwT) (xs := [r]) (z := r) rfl rfl rfl rfl (Int.le_refl 0) hz1) rfl ?_) | (refine yF (x := .tmp 193) rfl ?_; refine zX rfl (by kernel_rfl) rfl (z5 (t := rwT) (xs := [r]) (z := r) rfl rfl rfl rfl (Int.le_refl 0) hz1) rfl ?_) | (refine yG (x := .tmp 201) ?_; refine zc rfl (z5 (t := rwT) (xs := [r]) (z := r) rfl rfl rfl rfl (Int.le_refl 0) hz1) rfl ?_) | (refine yF (x := .tmp 201) rfl ?_; refine zX rfl (by kernel_rfl) rfl (z5 (t := rwT) (xs := [r]) (z := r) rfl rfl rfl rfl (Int.le_refl 0) hz1) rfl ?_) | (refine zu 67 ?_; refine zc rfl (zQ rfl (xq r) (.cons (.same rfl) .nil) rfl) rfl ?_) | (refine zv 67 rfl ?_; refine zX rfl (by kernel_rfl) rfl (zQ rfl (xq r) (.cons (.same rfl) .nil) rfl) rfl ?_) | (refine isL ?_; refine vo rfl (by kernel_rfl) rfl rfl ?_) | refine zD ?_ | refine zB _ rfl (by kernel_rfl) ?_ | refine zV rfl ?_ | refine zW rfl ?_ | refine zC ?_ | with_reducible refine zO ?_ | refine zH ?_ | refine zI ?_ | (with_reducible first | refine zM ?_ | refine zN ?_ | refine zE ?_ | refine zG ?_ | refine zF ?_) | refine zP ?_
    refine zd rfl (fun h => absurd (hle.symm.trans h) (by decide)) (fun _ => ?_)
    repeat' first | (refine isA ?_; refine zc rfl (yN rfl rfl rfl rfl rfl) rfl ?_) | (refine zL (id := 30) [6, 8] ?_) | (refine zL (id := 31) [8] ?_) | (refine sO rfl ?_; refine zX rfl (by kernel_rfl) rfl (yN rfl rfl rfl rfl rfl) rfl ?_) | (refine y9 rfl ?_; refine sL rfl (by kernel_rfl) rfl (yX (t := rwT) (xs := out) (ys := [r]) rfl rfl rfl rfl (.lst _ _) (by simp; omega) rfl) rfl ?_) | refine zK ?_ | refine zA ?_ | refine zL [] ?_ | (refine isA ?_; refine zf rfl ?_) | (refine isL ?_; refine zU rfl (by kernel_rfl) rfl rfl ?_) | (refine zb rfl ?_; refine zT rfl (by kernel_rfl) rfl rfl ?_) | (refine yG (x := .tmp 193) ?_; refine zc rfl (z5 (t := rwT) (xs := [r]) (z := r) rfl rfl rfl rfl (Int.le_refl 0) hz1) rfl ?_) | (refine yF (x := .tmp 193) rfl ?_; refine zX rfl (by kernel_rfl) rfl (z5 (t := rwT) (xs := [r]) (z := r) rfl rfl rfl rfl (Int.le_refl 0) hz1) rfl ?_) | (refine yG (x := .tmp 201) ?_; refine zc rfl (z5 (t := rwT) (xs := [r]) (z := r) rfl rfl rfl rfl (Int.le_refl 0) hz1) rfl ?_) | (refine yF (x := .tmp 201) rfl ?_; refine zX rfl (by kernel_rfl) rfl (z5 (t := rwT) (xs := [r]) (z := r) rfl rfl rfl rfl (Int.le_refl 0) hz1) rfl ?_) | (refine zu 67 ?_; refine zc rfl (zQ rfl (xq r) (.cons (.same rfl) .nil) rfl) rfl ?_) | (refine zv 67 rfl ?_; refine zX rfl (by kernel_rfl) rfl (zQ rfl (xq r) (.cons (.same rfl) .nil) rfl) rfl ?_) | (refine isL ?_; refine vo rfl (by kernel_rfl) rfl rfl ?_) | refine zD ?_ | refine zB _ rfl (by kernel_rfl) ?_ | refine zV rfl ?_ | refine zW rfl ?_ | refine zC ?_ | with_reducible refine zO ?_ | refine zH ?_ | refine zI ?_ | (with_reducible first | refine zM ?_ | refine zN ?_ | refine zE ?_ | refine zG ?_ | refine zF ?_) | refine zP ?_
    exact xS (yS rfl rfl rfl rfl rfl) rfl rfl (zJ _ _) (by repeat' first | exact Purs.nil | refine Purs.cons ?_ ?_ | exact zq rfl | exact yL rfl rfl | exact zq (T := rwT) (x := []) rfl | exact Pur.nil | exact Pur.same rfl | exact yk (by assumption)) (by repeat' first | exact Purs.nil | refine Purs.cons ?_ ?_ | exact zq rfl | exact yL rfl rfl | exact zq (T := rwT) (x := []) rfl | exact Pur.nil | exact Pur.same rfl | exact yk (by assumption)) (.cons (.same rfl) (.cons (.same rfl) .nil))
end Go.Proofs.Ytojcojanokhnaaa.Ab
namespace Go.Proofs.Ytojcojanokhnaaa.Ab
open Go.RowKit
theorem eE (inp heap dfr out : List Rw) (pos wr rp g : Int) (a : Rn) (i : Nat) (r : Rw) (hok : okSo ⟨inp, pos, heap, dfr, out, [a], i, rp, 3, wr⟩) (hv : vS ⟨inp, pos, heap, dfr, out, [a], i, rp, 3, wr⟩ = true) (hg : inV g 8 60 = true) (h1 : a[i]? = some r) :
    zy Go.Proofs.Try.prog 14 [.agg (soE ⟨inp, pos, heap, dfr, out, [a], i, rp, 3, wr⟩), I g] [] (.tup [.agg (soH (vr ⟨inp, pos, heap, dfr, out, [a], i, rp, 3, wr⟩)), rwL [r], B true]) [rwR (vr ⟨inp, pos, heap, dfr, out, [a], i, rp, 3, wr⟩).heap] true := by
  have g4 := hok.out
  have g6 := hok.tot
  simp only [tot, List.map_cons, List.sum_cons] at g4 g6
  have hlt := (List.getElem?_eq_some_iff.1 h1).1
  have ew : IntKind.i64.wrap ((i : Int) + 1) = (i : Int) + 1 := by rw [IntKind.wrap_i64]; omega
  have ac := xV _ hok
  have a1 := vt _ hok
  rw [hv] at a1
  have a2 := vT g 8 60
  rw [hg] at a2
  have hz0 : ([a] : List Rn)[0]? = some a := rfl
  refine yV 4 27 [5, 6] Go.Proofs.Try.func14 rfl rfl rfl ?_
  simp only [Go.Proofs.Try.ntmps14, List.length_cons, List.length_nil, Nat.reduceAdd, Nat.reduceSub, List.replicate_succ, List.replicate_zero, List.cons_append, List.nil_append]
  repeat' first | (refine zd rfl (fun h => absurd (of_decide_eq_true h) (by simp only; decide)) (fun _ => ?_)) | refine zK ?_ | refine zA ?_ | refine zL [] ?_ | (refine isA ?_; refine zf rfl ?_) | (refine isL ?_; refine zU rfl (by kernel_rfl) rfl rfl ?_) | (refine zb rfl ?_; refine zT rfl (by kernel_rfl) rfl rfl ?_) | (refine zu 65 ?_; refine zc rfl (yA (r' := .agg (soP 2 ⟨inp, pos, heap, dfr, out, [a], i, rp, 3, wr⟩)) (H' := bxS (soE ⟨inp, pos, heap, dfr, out, [a], i, rp, 3, wr⟩) :: bxS zS :: soW ⟨inp, pos, heap, dfr, out, [a], i, rp, 3, wr⟩) rfl ac (.cons (.same rfl) .nil) rfl (by simp only [List.map_cons, List.map_nil, shR, yC _ (yP (zJ _ _))]; rfl)) rfl ?_) | (refine zv 65 rfl ?_; refine zX rfl (by kernel_rfl) rfl (yA (r' := .agg (soP 2 ⟨inp, pos, heap, dfr, out, [a], i, rp, 3, wr⟩)) (H' := bxS (soE ⟨inp, pos, heap, dfr, out, [a], i, rp, 3, wr⟩) :: bxS zS :: soW ⟨inp, pos, heap, dfr, out, [a], i, rp, 3, wr⟩) rfl ac (.cons (.same rfl) .nil) rfl (by simp only [List.map_cons, List.map_nil, shR, yC _ (yP (zJ _ _))]; rfl)) rfl ?_) | (refine zu 18 ?_; refine zc rfl (zQ rfl a1 (.cons (.same rfl) .nil) rfl) rfl ?_) | (refine zv 18 rfl ?_; refine zX rfl (by kernel_rfl) rfl (zQ rfl a1 (.cons (.same rfl) .nil) rfl) rfl ?_) | (refine zu 66 ?_; refine zc rfl (zQ rfl a2 (.cons (.same rfl) (.cons (.same rfl) (.cons (.same rfl) .nil))) rfl) rfl ?_) | (refine zv 66 rfl ?_; refine zX rfl (by kernel_rfl) rfl (zQ rfl a2 (.cons (.same rfl) (.cons (.same rfl) (.cons (.same rfl) .nil))) rfl) rfl ?_) | refine zD ?_ | refine zB _ rfl (by kernel_rfl) ?_ | refine zV rfl ?_ | refine zW rfl ?_ | refine zC ?_ | with_reducible refine zO ?_ | refine zH ?_ | refine zI ?_ | (with_reducible first | refine zM ?_ | refine zN ?_ | refine zE ?_ | refine zG ?_ | refine zF ?_) | refine zP ?_
  refine zd rfl (fun h => ?_) (fun h => ?_)
  · have e : vr ⟨inp, pos, heap, dfr, out, [a], (i : Int), rp, 3, wr⟩ = ⟨inp, pos, heap, dfr, out, [a], (i : Int) + 1, rp, 4, wr⟩ := by
      have h' : decide ((i : Int) + 1 = (inp.length : Int)) = true := by rw [← ew]; exact h
      simp only [vr, h', cond_true]
    rw [e]
    repeat' first | refine zK ?_ | refine zA ?_ | (refine isA ?_; refine zf rfl ?_) | (refine isL ?_; refine zU rfl (by kernel_rfl) rfl rfl ?_) | (refine zb rfl ?_; refine zT rfl (by kernel_rfl) rfl rfl ?_) | refine zD ?_ | refine zB _ rfl (by kernel_rfl) ?_ | refine zV rfl ?_ | refine zW rfl ?_ | refine zC ?_ | with_reducible refine zO ?_ | refine zH ?_ | refine zI ?_ | (with_reducible first | refine zM ?_ | refine zN ?_ | refine zE ?_ | refine zG ?_ | refine zF ?_) | refine zP ?_
    refine pi 0 7 14 rfl ?_
    refine y4 0 ⟨rfl, rfl⟩ rfl (by kernel_rfl) rfl (fun H hG => lz rfl rfl (hG.2.trans rfl) rfl rfl rfl) rfl ?_
    refine yU 1 ⟨rfl, rfl⟩ rfl (by kernel_rfl) rfl (fun _ => rfl) rfl ?_
    refine y4 2 ⟨rfl, rfl⟩ rfl (by kernel_rfl) rfl (fun H hG => xl rfl rfl (hG.1.trans rfl) rfl rfl) rfl ?_
    refine y4 3 ⟨rfl, rfl⟩ rfl (by kernel_rfl) rfl (fun H hG => z5 (t := rnT) (xs := [a]) (z := a) rfl rfl rfl rfl (Int.le_refl 0) hz0) rfl ?_
    refine yU 4 ⟨rfl, rfl⟩ rfl (by kernel_rfl) rfl (fun _ => rfl) rfl ?_
    refine yU 5 ⟨rfl, rfl⟩ rfl (by kernel_rfl) rfl (fun _ => rfl) rfl ?_
    refine yU 6 ⟨rfl, rfl⟩ rfl (by kernel_rfl) rfl (fun _ => rfl) rfl ?_
    refine y4 7 ⟨rfl, rfl⟩ rfl (by kernel_rfl) rfl (fun H hG => xl rfl rfl (hG.1.trans rfl) rfl rfl) rfl ?_
    refine y4 8 ⟨rfl, rfl⟩ rfl (by kernel_rfl) rfl (fun H hG => z5 (t := rwT) (xs := a) (z := r) rfl rfl rfl rfl (Int.natCast_nonneg i) h1) rfl ?_
    refine yU 9 ⟨rfl, rfl⟩ rfl (by kernel_rfl) rfl (fun _ => rfl) rfl ?_
    refine y4 10 ⟨rfl, rfl⟩ rfl (by kernel_rfl) rfl (fun H hG => yN (cs := rwE r) rfl rfl rfl rfl rfl) rfl ?_
    refine wG 11 (by kernel_rfl) ?_
    refine sZ rfl rfl (tp (m := 0) (T := tab) TabC.ok rfl rfl rfl rfl rfl rfl rfl rfl rfl rfl) ⟨rfl, rfl⟩ rfl ?_
    refine yU 12 ⟨rfl, rfl⟩ rfl (by kernel_rfl) rfl (fun _ => rfl) rfl ?_
    refine yU 13 ⟨rfl, rfl⟩ rfl (by kernel_rfl) rfl (fun _ => rfl) rfl ?_
    refine wj (by kernel_rfl) ?_
    repeat' first | refine zK ?_ | refine zA ?_ | refine zL [] ?_ | (refine isA ?_; refine zf rfl ?_) | (refine isL ?_; refine zU rfl (by kernel_rfl) rfl rfl ?_) | (refine zb rfl ?_; refine zT rfl (by kernel_rfl) rfl rfl ?_) | refine zD ?_ | refine zB _ rfl (by kernel_rfl) ?_ | refine zV rfl ?_ | refine zW rfl ?_ | refine zC ?_ | with_reducible refine zO ?_ | refine zH ?_ | refine zI ?_ | (with_reducible first | refine zM ?_ | refine zN ?_ | refine zE ?_ | refine zG ?_ | refine zF ?_) | refine zP ?_
    exact xS (yS rfl rfl rfl rfl rfl) rfl rfl (zJ _ _) (by repeat' first | exact Purs.nil | refine Purs.cons ?_ ?_ | exact zq rfl | exact yL rfl rfl | exact zq (T := rwT) (x := []) rfl | exact Pur.nil | exact Pur.same rfl | exact yk (by assumption)) (by repeat' first | exact Purs.nil | refine Purs.cons ?_ ?_ | exact zq rfl | exact yL rfl rfl | exact zq (T := rwT) (x := []) rfl | exact Pur.nil | exact Pur.same rfl | exact yk (by assumption)) (.cons (.same rfl) (.cons (.same rfl) .nil))
  · have e : vr ⟨inp, pos, heap, dfr, out, [a], (i : Int), rp, 3, wr⟩ = ⟨inp, pos, heap, dfr, out, [a], (i : Int) + 1, rp, 3, wr⟩ := by
      have h' : decide ((i : Int) + 1 = (inp.length : Int)) = false := by rw [← ew]; exact h
      simp only [vr, h', cond_false]
    rw [e]
    repeat' first | refine zK ?_ | refine zA ?_ | (refine isA ?_; refine zf rfl ?_) | (refine isL ?_; refine zU rfl (by kernel_rfl) rfl rfl ?_) | (refine zb rfl ?_; refine zT rfl (by kernel_rfl) rfl rfl ?_) | refine zD ?_ | refine zB _ rfl (by kernel_rfl) ?_ | refine zV rfl ?_ | refine zW rfl ?_ | refine zC ?_ | with_reducible refine zO ?_ | refine zH ?_ | refine zI ?_ | (with_reducible first | refine zM ?_ | refine zN ?_ | refine zE ?_ | refine zG ?_ | refine zF ?_) | refine zP ?_
    refine pi 0 7 14 rfl ?_
    refine y4 0 ⟨rfl, rfl⟩ rfl (by kernel_rfl) rfl (fun H hG => lz rfl rfl (hG.2.trans rfl) rfl rfl rfl) rfl ?_
    refine yU 1 ⟨rfl, rfl⟩ rfl (by kernel_rfl) rfl (fun _ => rfl) rfl ?_
    refine y4 2 ⟨rfl, rfl⟩ rfl (by kernel_rfl) rfl (fun H hG => xl rfl rfl (hG.1.trans rfl) rfl rfl) rfl ?_
    refine y4 3 ⟨rfl, rfl⟩ rfl (by kernel_rfl) rfl (fun H hG => z5 (t := rnT) (xs := [a]) (z := a) rfl rfl rfl rfl (Int.le_refl 0) hz0) rfl ?_
    refine yU 4 ⟨rfl, rfl⟩ rfl (by kernel_rfl) rfl (fun _ => rfl) rfl ?_
    refine yU 5 ⟨rfl, rfl⟩ rfl (by kernel_rfl) rfl (fun _ => rfl) rfl ?_
    refine yU 6 ⟨rfl, rfl⟩ rfl (by kernel_rfl) rfl (fun _ => rfl) rfl ?_
    refine y4 7 ⟨rfl, rfl⟩ rfl (by kernel_rfl) rfl (fun H hG => xl rfl rfl (hG.1.trans rfl) rfl rfl) rfl ?_
    refine y4 8 ⟨rfl, rfl⟩ rfl (by kernel_rfl) rfl (fun H hG => z5 (t := rwT) (xs := a) (z := r) rfl rfl rfl rfl (Int.natCast_nonneg i) h1) rfl ?_
    refine yU 9 ⟨rfl, rfl⟩ rfl (by kernel_rfl) rfl (fun _ => rfl) rfl ?_
    refine y4 10 ⟨rfl, rfl⟩ rfl (by kernel_rfl) rfl (fun H hG => yN (cs := rwE r) rfl rfl rfl rfl rfl) rfl ?_
    refine wG 11 (by kernel_rfl) ?_
    refine sZ rfl rfl (tp (m := 0) (T := tab) TabC.ok rfl rfl rfl rfl rfl rfl rfl rfl rfl rfl) ⟨rfl, rfl⟩ rfl ?_
    refine yU 12 ⟨rfl, rfl⟩ rfl (by kernel_rfl) rfl (fun _ => rfl) rfl ?_
    refine yU 13 ⟨rfl, rfl⟩ rfl (by kernel_rfl) rfl (fun _ => rfl) rfl ?_
    refine wj (by kernel_rfl) ?_
    repeat' first | refine zK ?_ | refine zA ?_ | refine zL [] ?_ | (refine isA ?_; refine zf rfl ?_) | (refine isL ?_; refine zU rfl (by kernel_rfl) rfl rfl ?_) | (refine zb rfl ?_; refine zT rfl (by kernel_rfl) rfl rfl ?_) | refine zD ?_ | refine zB _ rfl (by kernel_rfl) ?_ | refine zV rfl ?_ | refine zW rfl ?_ | refine zC ?_ | with_reducible refine zO ?_ | refine zH ?_ | refine zI ?_ | (with_reducible first | refine zM ?_ | refine zN ?_ | refine zE ?_ | refine zG ?_ | refine zF ?_) | refine zP ?_
    exact xS (yS rfl rfl rfl rfl rfl) rfl rfl (zJ _ _) (by repeat' first | exact Purs.nil | refine Purs.cons ?_ ?_ | exact zq rfl | exact yL rfl rfl | exact zq (T := rwT) (x := []) rfl | exact Pur.nil | exact Pur.same rfl | exact yk (by assumption)) (by repeat' first | exact Purs.nil | refine Purs.cons ?_ ?_ | exact zq rfl | exact yL rfl rfl | exact zq (T := rwT) (x := []) rfl | exact Pur.nil | exact Pur.same rfl | exact yk (by assumption)) (.cons (.same rfl) (.cons (.same rfl) .nil))
end Go.Proofs.Ytojcojanokhnaaa.Ab
namespace Go.Proofs.Ytojcojanokhnaaa.Ab
open Go.RowKit
section
variable {P : Program} {md : Region.Mode} {ops : Array Oper} {s : Nat} {G : List Reg → Prop} {Q : Exit → St → Prop}
theorem qn {i : Nat} {oi : Oper} {v : V} (hi : ops[i]? = some oi) (hne : i ≠ s) (fu : Nat) (hed : Region.reachB md ops i fu s = true) :
    ∀ (n : Nat) (listed : Array Bool) (S : St), G S.H → listed.getD s true = false → yw md ops listed →
      (∀ j oj, ops[j]? = some oj → j ≠ i → listed.getD j true = false → (∀ e ∈ oj.after, Region.binds md e = true → e.on ≠ i) → oi.apart ops oj = true) →
      i ∈ Region.ready md ops listed → wu P ops G oi v S →
      vv P md ops s G Q n (listed.setIfInBounds i true) (S.put oi.dst v S.H) → vv P md ops s G Q (n + 1) listed S := by
  intro n
  induction n with
  | zero =>
    intro listed S hG hB hC _ hr hy H
    refine ⟨fun h => (by rw [h] at hr; cases hr), fun j hj => ?_⟩
    by_cases hji : j = i
    · subst hji
      unfold uw
      rw [hi]
      rcases hy with ⟨h1, h2⟩ | ⟨h1, rfl⟩
      · exact Or.inl ⟨h1, _, .of (h2 _ hG), fun v1 H1 hp hb => by obtain ⟨_, rfl⟩ := hp; exact hG, fun v1 H1 hp => by obtain ⟨rfl, rfl⟩ := hp; exact H⟩
      · exact Or.inr ⟨h1, H⟩
    · have := ready_mono hj hji
      rw [H.1] at this
      cases this
  | succ n ih =>
    intro listed S hG hB hC hfree hr hy H
    refine ⟨fun h => (by rw [h] at hr; cases hr), fun j hj => ?_⟩
    by_cases hji : j = i
    · subst hji
      unfold uw
      rw [hi]
      rcases hy with ⟨h1, h2⟩ | ⟨h1, rfl⟩
      · exact Or.inl ⟨h1, _, .of (h2 _ hG), fun v1 H1 hp hb => by obtain ⟨_, rfl⟩ := hp; exact hG, fun v1 H1 hp => by obtain ⟨rfl, rfl⟩ := hp; exact H⟩
      · exact Or.inr ⟨h1, H⟩
    · have h1 := H.2 j (ready_mono hj hji)
      obtain ⟨hjun, oj, hoj, hall⟩ := mem_ready.1 hj
      have hiun := (mem_ready.1 hr).1
      have hnot : ∀ e ∈ oj.after, Region.binds md e = true → e.on ≠ i := fun e he hb heq => by
        have h1 := hall e he hb
        rw [heq] at h1
        rcases Nat.lt_or_ge i listed.size with h' | h'
        · simp [h'] at hiun h1; rw [hiun] at h1; cases h1
        · simp [Array.getElem?_eq_none h'] at h1
      have hjs : j ≠ s := fun hjs => by
        subst hjs
        exact Region.reach_not_ready hC hed hiun hj
      have hfree' : ∀ k ok, ops[k]? = some ok → k ≠ i → (listed.setIfInBounds j true).getD k true = false →
          (∀ e ∈ ok.after, Region.binds md e = true → e.on ≠ i) → oi.apart ops ok = true := fun k ok hk hki hun hno => by
        refine hfree k ok hk hki ?_ hno
        by_cases hjk : j = k
        · subst hjk; exact hjun
        · rw [getD_set_ne true hjk] at hun; exact hun
      have hb2 : ((listed.setIfInBounds i true).setIfInBounds j true).getD s true = (listed.setIfInBounds j true).getD s true := by
        rw [Array.setIfInBounds_comm _ _ (Ne.symm hji), xD hne]
      have hBj : (listed.setIfInBounds j true).getD s true = false := by rw [xD hjs]; exact hB
      obtain ⟨p1, p2, p3⟩ := Oper.apart_spec (hfree j oj hoj hji hjun hnot)
      have key : ∀ (u : V) (H' : List Reg), G H' → vv P md ops s G Q n ((listed.setIfInBounds j true).setIfInBounds i true) ((S.put oj.dst u H').put oi.dst v H') → vv P md ops s G Q (n + 1) (listed.setIfInBounds j true) (S.put oj.dst u H') := fun u H' hGH hk => by
        refine ih (listed.setIfInBounds j true) (S.put oj.dst u H') (by rw [xz]; exact hGH) hBj (hC.set hj) hfree' (ready_mono hr (Ne.symm hji)) (hy.keep p3) ?_
        rw [xz]
        exact hk
      unfold uw at h1 ⊢
      rw [hoj] at h1 ⊢
      simp only at h1 ⊢
      rw [wi p1, xz] at h1
      rcases h1 with ⟨hw, post, hs, hH, hk⟩ | ⟨hw, hk⟩
      · rw [hb2] at hH
        refine Or.inl ⟨hw, post, hs.congr (fun x hx => (xQ p1 x hx).symm), hH, fun u H' hp => key u H' (hH u H' hp hBj) ?_⟩
        rw [Array.setIfInBounds_comm _ _ hji, ← wS v u S.H H' p2]
        exact hk u H' hp
      · refine Or.inr ⟨hw, key (.k undef) S.H hG ?_⟩
        rw [Array.setIfInBounds_comm _ _ hji, ← wS v (.k undef) S.H S.H p2]
        exact hk
end
section
variable {P : Program} {T : Tab} {ops : Array Oper} {s : Nat} {G : List Reg → Prop} {Q : Exit → St → Prop} {l l' : List V} {H H' K : List Reg} {m : Nat} {o : Oper} {d : List Nat} {n : Nat}
def fr (ops : Array Oper) (d : List Nat) (s i : Nat) : Bool := !((mkL ops.size d).getD s true) && Region.reachB .any ops i ops.size s && Region.closedB .any ops (mkL ops.size d) && !(i == s)
theorem sD (i : Nat) {v : V} (hG : G H) (he : fr ops d s i = true) (ho : ops[i]? = some o) (hc : ue ops d i = true) (hw : yc ops ⟨l, H, m⟩ o = some true) (hs : ∀ H, G H → z7 P o (St.ev ⟨l, H, m⟩) H v H) (hp : wv l H o.dst v = some (l', K)) (hk : APerS P ops s G (i :: d) n Q ⟨l', K, m⟩) : APerS P ops s G d (n + 1) Q ⟨l, H, m⟩ := by
  simp only [ue, Bool.and_eq_true] at hc
  simp only [fr, Bool.and_eq_true, Bool.not_eq_true'] at he
  obtain ⟨⟨⟨e1, e2⟩, e3⟩, e4⟩ := he
  refine ⟨qn ho (by simpa using e4) _ e2 n _ _ hG e1 (Region.closedB_spec e3) (Region.free_spec ho hc.1) (by simpa using hc.2) (Or.inl ⟨hw, hs⟩) ?_⟩
  rw [show (⟨l, H, m⟩ : St).put o.dst v (⟨l, H, m⟩ : St).H = ⟨l', K, m⟩ from yu hp m]
  exact hk.out
end
end Go.Proofs.Ytojcojanokhnaaa.Ab
namespace Go.Proofs.Ytojcojanokhnaaa.Ab
open Go.RowKit
section
variable {P : Program} {o : Oper} {ρ : Operand → V} {H : List Reg}
theorem qu {post : V → List Reg → Prop}
    (h : ∀ (C : Cx) (A : Nat → Prop) (φ : List Hd) (a : Act) (w : World), InvA C A φ H w → (∀ x ∈ o.op.operands, Rel A w φ (ρ x) (a.eval x)) →
      ∃ v H' x w' A' φ', post v H' ∧ (execOp a.eval o).run P w = .ok (.value x) w' ∧ InvA C A' φ' H' w' ∧ (∀ b, A b → A' b ∧ w'.heap[b]? = w.heap[b]?) ∧ (∀ (h : Nat) (hd : Hd), φ[h]? = some hd → φ'[h]? = some hd) ∧ Rel A' w' φ' v x) : vM P o ρ H post := by
  intro S hS hρ C φ a w hI next Q hn
  obtain ⟨hm, ⟨A, hA, hr⟩, hs, hd⟩ := hI
  subst hS
  obtain ⟨v, H', x, w', A', φ', h0, h1, h2, h3, h4, h5⟩ := h C A φ a w hA (fun y hy => by rw [← hρ y hy]; exact vA hr y)
  have h6 : zx A' w' φ' S.tmps (fun i => a.tmps[i]?) := zx.mono h3 h4 hr
  obtain ⟨h7, h8⟩ := wy (H := H') hs h6 h5 o.dst
  unfold Oper.wp
  rw [h1]
  refine hn v H' x w' φ' h0 ⟨by cases o.dst <;> exact hm, ⟨A', ?_, h7⟩, h8, by cases o.dst <;> exact hd⟩
  have : (S.put o.dst v H').H = H' := by cases o.dst <;> rfl
  rw [this]
  exact h2
theorem v7 (w : World) (t ty e : TypeId) (i : TypeInfo) (ht : P.underlying t = some (.slice e)) (hi : P.info? e = some i)
    (g off sLen sCap : Nat) (cur : Array Value) (hg : w.heap[g]? = some (.cells cur e (0, 0)))
    (a : Addr) (m c : Nat) (news : List Value) (hl : news.length = m * i.size) (hnews : ∀ j u, news[j]? = some u → w.cell? (a.add j) = some u) (h1 : ∀ u ∈ news, u.oneCell' = true)
    (hroom : sLen + m ≤ sCap) (hfit : off + sLen * i.size + news.length ≤ cur.size) :
    (Builtin.append_ #[t, t] ty #[.slice (some ⟨g, off, none⟩) sLen sCap, .slice (some a) m c]).run P w =
      .ok (.slice (some ⟨g, off, none⟩) (sLen + m) sCap) (w.setRow g (cur.toList.take (off + sLen * i.size) ++ news ++ cur.toList.drop (off + sLen * i.size + news.length)).toArray) := by
  have hf := run_firstCells_some (P := P) w i.size m a m c news hl hnews
  have hst := run_storeCells_at P g (off + sLen * i.size) e news 0 cur w hg (by simpa using hfit) h1
  simp only [Nat.add_zero] at hst
  simp [Builtin.append_, run_underlying ht, sizeOf, typeInfo, hi, Builtin.lenOf, hroom, hf, Addr.add_lit, hst]
def dF (H : List Reg) (h off k m n : Nat) (e : TypeId) (r : Reg) (src : List V) (v : V) (H' : List Reg) : Prop :=
  ∃ (o' : Nat) (pre : List V), v = .sl H.length o' (k + m) ∧ pre.length = o' * n ∧ (o' = off ∨ o' = 0) ∧ H' = H.set h { r with mode := 2 } ++ [⟨e, n, pre ++ (r.cells.drop (off * n)).take (k * n) ++ src, 0⟩]
theorem qM {s x : Operand} {t ty e n b h m k off : Nat} {r : Reg} {src : List V} [ht : Sl P t e n b] (ho : o.op = .call { callee := .builtin .append, args := #[s, x], argTypes := #[t, t] })
    (hs : ρ s = .sl h off k) (hr : H[h]? = some r) (hm : r.mode = 0) (he : r.e = e) (hes : r.esz = n) (hk : (off + k) * n ≤ r.cells.length) (hx : Src H (ρ x) m src) (hsl : src.length = m * n) (hm0 : 0 < m) (h1 : ∀ c ∈ src, v8 c = true)
    (hb : (k + m) * b ≤ 140737488355328) (hmax : k + m ≤ maxLen) : vM P o ρ H (dF H h off k m n e r src) := qu fun C A φ a w hA hh => by
  have hs1 := hh s (by simp [ho, Op.operands, Call.operands])
  have hx1 := hh x (by simp [ho, Op.operands, Call.operands])
  obtain ⟨ad, c, news, ex, n1, n2, n3, n4⟩ := t0 hx hA.ok hx1 h1
  rw [hs, Rel] at hs1
  obtain ⟨hd, e1, hs1⟩ := hs1
  obtain ⟨⟨f1, f2, f3⟩, f4⟩ := hA.ok.regs h hd r e1 hr (by omega)
  obtain ⟨i, z, i1, i2, i3, i4, i5⟩ := ht.i
  have hpos := ht.pos
  subst he
  have hlive : ∀ g, hd.blk = some g → zz φ H h g := fun g hg => ⟨hd, r, e1, hr, hm, hg⟩
  have hK := hA.kill hr
  have hklen : (H.set h { r with mode := 2 }).length = H.length := by simp
  have hsmall : k + m ≤ 9223372036854775807 := by simp only [maxLen] at hmax; omega
  have hnl : news.length = m * n := n1.trans hsl
  have hzs : z.cells.size = n := i5
  have hmn : 0 < m * n := Nat.mul_pos hm0 hpos
  obtain ⟨ad', rfl, n5⟩ : ∃ ad', ad = some ad' ∧ ∀ j u, news[j]? = some u → w.cell? (ad'.add j) = some u := by
    rcases n4 with n4 | n4
    · rw [n4] at hsl; simp at hsl; omega
    · exact n4
  have hkn : (off + k) * n = off * n + k * n := Nat.add_mul ..
  have hpl : ((r.cells.drop (off * n)).take (k * n)).length = k * n := by simp only [List.length_take, List.length_drop]; omega
  have hop : ∀ (v : Value) (w' : World), (Builtin.append_ #[t, t] o.type #[a.eval s, a.eval x]).run P w = .ok v w' → (execOp a.eval o).run P w = .ok (.value v) w' := fun v w' hv => by
    simp only [execOp, ho, resolve, Sem.run_bind]
    simp [invoke, builtin, hv]
  have hnew : ∀ (olds : List Value) (cap : Nat), olds.length = k * n → zx A w φ ((r.cells.drop (off * n)).take (k * n)) (fun i => olds[i]?) → k + m ≤ cap → cap ≤ maxLen →
      (Builtin.append_ #[t, t] o.type #[a.eval s, a.eval x]).run P w = .ok (.slice (some ⟨w.heap.size, 0, none⟩) (k + m) cap) ((w.drewN 1).alloc (.cells (olds.toArray ++ news.toArray ++ Builtin.zeroCells z.cells (cap - (k + m))) r.e)) →
      ∃ v H' x w' A' φ', dF H h off k m n r.e r src v H' ∧ (execOp a.eval o).run P w = .ok (.value x) w' ∧ InvA C A' φ' H' w' ∧ (∀ b, A b → A' b ∧ w'.heap[b]? = w.heap[b]?) ∧ (∀ (h : Nat) (hd : Hd), φ[h]? = some hd → φ'[h]? = some hd) ∧ Rel A' w' φ' v x := fun olds cap ol or hc1 hc2 hrun => by
    have hsz : (olds.toArray ++ news.toArray ++ Builtin.zeroCells z.cells (cap - (k + m))).size = cap * n := by
      simp only [Array.size_append, List.size_toArray, size_zeroCells, hzs, ol, hnl, ← Nat.add_mul]
      congr 1
      omega
    have hcl : ((r.cells.drop (off * n)).take (k * n) ++ src).length = (k + m) * n := by rw [List.length_append, hpl, hsl, Nat.add_mul]
    refine ⟨_, _, _, _, A, φ ++ [⟨some w.heap.size, cap, n, r.e⟩], ⟨0, [], rfl, by simp, Or.inr rfl, rfl⟩, hop _ _ hrun, wm hK hsz hc2 (by rw [hcl, hsz]; exact Nat.mul_le_mul_right _ hc1) (sE n3 n1 _ _ or (by rw [ol, hpl]) _) 1, wJ hA _ 1, fun h hd hh => zh hh, ?_⟩
    have := uf (H := H.set h { r with mode := 2 }) hK (hd := ⟨some w.heap.size, cap, n, r.e⟩) rfl hc1 ((w.drewN 1).alloc (.cells (olds.toArray ++ news.toArray ++ Builtin.zeroCells z.cells (cap - (k + m))) r.e))
    rw [hklen] at this
    exact this
  have hempty : ∀ base : Option Addr, k = 0 → a.eval s = .slice base 0 0 → ∃ v H' x w' A' φ', dF H h off k m n r.e r src v H' ∧ (execOp a.eval o).run P w = .ok (.value x) w' ∧ InvA C A' φ' H' w' ∧ (∀ b, A b → A' b ∧ w'.heap[b]? = w.heap[b]?) ∧ (∀ (h : Nat) (hd : Hd), φ[h]? = some hd → φ'[h]? = some hd) ∧ Rel A' w' φ' v x := fun base hk0 e2' => by
    subst hk0
    cases base with
    | none =>
      have hrun := run_append_nil (P := P) w t o.type r.e i z ht.u i1 i4 ad' m c news (by rw [hnl, i2]) n5 (by omega) (by omega) (by rw [i3]; simp only [Nat.zero_add] at hb; omega)
      refine hnew [] (grownCap w m 0 r.e) (by simp) (by simp [zx]) (by simpa using grownCap_ge w m 0 r.e) (grownCap_le_maxLen w m 0 r.e (by omega)) ?_
      rw [e2', ex, hrun]
      simp [World.drewN_drew, World.drew_is_drewN]
    | some bs =>
      have hrun := run_append_grow (P := P) w t o.type r.e i z ht.u i1 i4 bs 0 0 [] (by simp) (fun j u hu => by simp at hu) ad' m c news (by rw [hnl, i2]) n5 (by omega) (by omega) (growslice_fits (by omega) (by rw [i3]; exact hb))
      refine hnew [] (grownCap w (0 + m) 0 r.e) (by simp) (by simp [zx]) (grownCap_ge w (0 + m) 0 r.e) (grownCap_le_maxLen w (0 + m) 0 r.e hmax) ?_
      rw [e2', ex, hrun]
      simp [World.drewN_drew, World.drew_is_drewN]
  rcases hs1 with ⟨e2, e3⟩ | ⟨p1, p2, base, e2⟩
  rotate_left
  · subst p2
    exact hempty base rfl e2
  cases hblk : hd.blk with
  | none =>
    rw [hblk] at f4 e2
    obtain ⟨g1, g2⟩ := f4
    exact hempty none (by omega) (by rw [e2, g2, show k = 0 by omega, Nat.zero_sub]; rfl)
  | some g =>
    rw [hblk] at f4 e2
    obtain ⟨cur, g1, g2, g3, g4⟩ := f4
    have hesz : hd.esz = n := f1.trans hes
    rw [hesz] at g2 e2
    have e2' : a.eval s = .slice (some ⟨g, off * n, none⟩) k (hd.cap - off) := by rw [e2]; simp
    have hlg := hlive g hblk
    have hfree : ∀ h', ¬ zz φ (H.set h { r with mode := 2 }) h' g := fun h' ⟨hd', r', q1, q2, q3, q4⟩ => by
      rcases getElem?_set' q2 with ⟨_, rfl⟩ | ⟨hne, q2⟩
      · cases q3
      · exact hne (hA.ok.inj _ _ _ ⟨hd', r', q1, q2, q3, q4⟩ hlg)
    have hpre : zx A w φ (r.cells.take (off * n)) (fun i => cur[i]?) := yz g4 _
    have hmid : zx A w φ ((r.cells.drop (off * n)).take (k * n)) (fun i => cur[off * n + i]?) := yz (y3 g4 _) _
    have hpre2 : (r.cells.take (off * n)).length = off * n := by simp only [List.length_take]; omega
    by_cases hroom : k + m ≤ hd.cap - off
    · have hcap : (off + (k + m)) * n ≤ hd.cap * n := Nat.mul_le_mul_right _ (by omega)
      have hcapn : (off + (k + m)) * n = off * n + k * n + m * n := by rw [Nat.add_mul, Nat.add_mul]; omega
      have hfit : off * n + k * i.size + news.length ≤ cur.size := by rw [i2, hnl, g2]; omega
      have hrun := v7 (P := P) w t o.type r.e i ht.u i1 g (off * n) k (hd.cap - off) cur (by rw [g1, f2]) ad' m c news (by rw [hnl, i2]) n5 n2 hroom hfit
      rw [← e2', ← ex] at hrun
      rw [i2] at hfit hrun
      refine ⟨_, _, _, _, A, φ ++ [⟨some g, hd.cap, n, r.e⟩], ⟨off, r.cells.take (off * n), rfl, hpre2, Or.inl rfl, rfl⟩, hop _ _ hrun, hK.add hfree (hA.ok.apart h g hlg) (fun i _ hi => setRow_other w g i _ hi) (by simp) (hA.own h g hlg) rfl rfl rfl (setRow_heap w g cur _ r.e (0, 0) (by rw [g1, f2])) ?_ f3 ?_ ?_,
        fun b' hb' => ⟨hb', setRow_other w g b' _ fun e => hA.ok.apart h g hlg (e ▸ hb')⟩, fun h hd hh => zh hh, ?_⟩
      · rw [← g2]
        simp only [List.size_toArray, List.length_append, List.length_take, List.length_drop, Array.length_toList]
        omega
      · simp only [List.length_append, hpl, hpre2, hsl, List.size_toArray, List.length_take, List.length_drop, Array.length_toList]
        omega
      · refine yn (yn (yM hpre fun j hj => ?_) (yM hmid fun j hj => ?_)) (yM n3 fun j hj => ?_)
        · rw [hpre2] at hj
          simp only [List.getElem?_toArray]
          rw [List.append_assoc, List.getElem?_append_left (by simp; omega), List.getElem?_take, if_pos (by omega), Array.getElem?_toList]
        · rw [hpl] at hj
          simp only [List.getElem?_toArray]
          rw [hpre2, List.append_assoc, List.getElem?_append_left (by simp; omega), List.getElem?_take, if_pos (by omega), Array.getElem?_toList]
        · rw [hsl] at hj
          simp only [List.getElem?_toArray]
          rw [List.length_append, hpre2, hpl, List.append_assoc, List.getElem?_append_right (by simp; omega), List.getElem?_append_left (by simp; omega)]
          congr 1
          simp
          omega
      · rw [Rel]
        refine ⟨⟨some g, hd.cap, n, r.e⟩, ?_, Or.inl ⟨rfl, by simp only; omega⟩⟩
        rw [← hA.ok.len]
        simp
    · have holds : ∀ j u, ((cur.toList.drop (off * n)).take (k * n))[j]? = some u → w.cell? ((⟨g, off * n, none⟩ : Addr).add j) = some u := fun j u hu => by
        rw [List.getElem?_take] at hu
        split at hu
        · rw [List.getElem?_drop] at hu
          rw [Addr.plus, cell_of_row w g (off * n + j) cur hd.e (0, 0) g1, ← Array.getElem?_toList]
          exact hu
        · cases hu
      have hol : ((cur.toList.drop (off * n)).take (k * n)).length = k * n := by
        simp only [List.length_take, List.length_drop, Array.length_toList, g2]
        have := Nat.mul_le_mul_right n e3
        omega
      have hrun := run_append_grow (P := P) w t o.type r.e i z ht.u i1 i4 ⟨g, off * n, none⟩ k (hd.cap - off) ((cur.toList.drop (off * n)).take (k * n)) (by rw [hol, i2]) holds ad' m c news (by rw [hnl, i2]) n5 (by omega) (by omega) (growslice_fits (by omega) (by rw [i3]; exact hb))
      refine hnew _ (grownCap w (k + m) (hd.cap - off) r.e) hol (yM hmid fun j hj => ?_) (grownCap_ge w (k + m) (hd.cap - off) r.e) (grownCap_le_maxLen w (k + m) (hd.cap - off) r.e hmax) ?_
      · rw [hpl] at hj
        rw [List.getElem?_take, if_pos (by omega), List.getElem?_drop, Array.getElem?_toList]
      · rw [e2', ex, hrun]
        simp [World.drewN_drew, World.drew_is_drewN]
end
theorem vM.mono {P : Program} {o : Oper} {ρ : Operand → V} {H : List Reg} {post post' : V → List Reg → Prop} (h : vM P o ρ H post) (hp : ∀ v H', post v H' → post' v H') : vM P o ρ H post' :=
  fun S hS hρ C φ a w hI next Q hn => h S hS hρ C φ a w hI next Q fun v H' x w' φ' hq hI' => hn v H' x w' φ' (hp v H' hq) hI'
section
variable {α : Type} {T : Ty α} {e : TypeId}
end
def nM (P : Program) (f : FuncId) (cargs : List V) (hs : List Reg) (post : V → List Reg → Prop) (al : Bool) : Prop :=
  ∀ (A : Nat → Prop) (φ : List Hd) (w : World) (xs : Array Value), HeapOk A w φ hs → zx A w φ cargs (fun i => xs[i]?) → xs.size = cargs.length →
    Calls P f xs w fun e w' => ∃ r hs', post r hs' ∧ ∃ x φ' A', e = .returned x ∧ HeapOk A' w' φ' hs' ∧ Rel A' w' φ' r x ∧ (∀ b, A' b → (al = true ∧ A b) ∨ w.heap.size ≤ b) ∧
      (∀ h b, zz φ' hs' h b → w.heap.size ≤ b ∨ ∃ h0, zz φ hs h0 b) ∧ Framed ⟨A, w, φ, hs⟩ w' ∧ (∀ (h : Nat) (hd : Hd), φ[h]? = some hd → φ'[h]? = some hd)
theorem zy.x {P : Program} {f : FuncId} {cargs : List V} {hs : List Reg} {r : V} {hs' : List Reg} {al : Bool} (h : zy P f cargs hs r hs' al) {post : V → List Reg → Prop} (hp : post r hs') : nM P f cargs hs post al := fun A φ w xs h1 h2 h3 =>
  (h A φ w xs h1 h2 h3).mono fun e w' hq => ⟨r, hs', hp, hq⟩
section
variable {P : Program}
theorem nM.frozen {f : FuncId} {cargs : List V} {r' : V} {post : V → List Reg → Prop} {al : Bool} (h : nM P f cargs [] post al) (hp : ∀ r K, post r K → Pur true K r r') : zy P f cargs [] r' [] true := by
  intro A φ w xs hok hrel hsz
  refine (h A φ w xs hok hrel hsz).mono ?_
  rintro e w' ⟨r, K, hq, x, φ', A', rfl, k1, k2, k3, k4, k5, k6⟩
  have hφ : φ = [] := List.length_eq_zero_iff.1 hok.len
  refine ⟨x, [], fun b => A' b ∨ ∃ h, zz φ' K h b, rfl, ⟨rfl, fun h hd r h1 => by simp at h1, fun h h' b ⟨hd, r, h1, _⟩ => by simp at h1, fun h b ⟨hd, r, h1, _⟩ => by simp at h1, fun h hd r b h1 => by simp at h1, fun b hb => ?_⟩,
    Pur.rel k1 (fun b hb => Or.inl hb) (fun _ h b hb => Or.inr ⟨h, hb⟩) (hp r K hq) k2, fun b hb => ?_, fun h b ⟨hd, r, h1, _⟩ => by simp at h1, k5, fun h hd h1 => by rw [hφ] at h1; simp at h1⟩
  · rcases hb with hb | ⟨h, hd, r, q1, q2, q3, q4⟩
    · exact k1.low b hb
    · exact xi k1 q1 q2 (by omega) q4
  · rcases hb with hb | ⟨h, hb⟩
    · exact (k3 b hb).imp (fun h => ⟨rfl, h.2⟩) id
    · rcases k4 h b hb with h1 | ⟨h9, hd, r, p1, _⟩
      · exact Or.inr h1
      · rw [hφ] at p1
        simp at p1
end
section
variable {P : Program} {o : Oper} {ρ : Operand → V} {H : List Reg}
end
end Go.Proofs.Ytojcojanokhnaaa.Ab
namespace Go.Proofs.Ytojcojanokhnaaa.Ab
open Go.RowKit
theorem ap_cX {o : Oper} {ρ : Operand → V} {H : List Reg} {h hz off n : Nat} {v : V} {s x : Operand} {cells : List V} (ho : o.op = .call { callee := .builtin .append, args := #[s, x], argTypes := #[25, 25] })
    (hs : ρ s = .sl h off n) (hH : H[h]? = some ⟨84, 1, cells, 0⟩) (hx : ρ x = .sl hz 0 1) (hzz : H[hz]? = some ⟨84, 1, [v], 0⟩) (hv : v8 v = true) (hn : cells.length = off + n) (hl : cells.length ≤ 100000000) :
    vM Go.Proofs.Try.prog o ρ H (fun w H' => ∃ (o' : Nat) (pre : List V), pre.length = o' ∧ (o' = off ∨ o' = 0) ∧ w = .sl H.length o' (n + 1) ∧ H' = H.set h ⟨84, 1, cells, 2⟩ ++ [⟨84, 1, pre ++ cells.drop off ++ [v], 0⟩]) := by
  have hsrc : Src H (ρ x) 1 [v] := by
    rw [hx]
    exact Src.sl (H := H) (off := 0) (m := 1) (r := ⟨84, 1, [v], 0⟩) hzz (Nat.zero_le _) (Nat.le_refl _)
  refine (qM (P := Go.Proofs.Try.prog) (ρ := ρ) (ty := 25) (m := 1) ho hs hH rfl rfl rfl (by show (off + n) * 1 ≤ cells.length; omega) hsrc rfl (by decide) (fun c hc => by simp at hc; subst hc; exact hv) (by omega) (by simp only [maxLen]; omega)).mono ?_
  rintro w H' ⟨o', pre, rfl, h1, h2, rfl⟩
  refine ⟨o', pre, by rw [h1, Nat.mul_one], h2, rfl, ?_⟩
  have e1 : ((⟨84, 1, cells, 0⟩ : Reg).cells.drop (off * 1)).take (n * 1) = cells.drop off := by
    show (cells.drop (off * 1)).take (n * 1) = _
    rw [Nat.mul_one, Nat.mul_one, List.take_of_length_le (by simp; omega)]
  rw [e1]
end Go.Proofs.Ytojcojanokhnaaa.Ab
namespace Go.Proofs.Ytojcojanokhnaaa.Ab
open Go.RowKit
end Go.Proofs.Ytojcojanokhnaaa.Ab
namespace Go.Proofs.Ytojcojanokhnaaa.Ab
open Go.RowKit
abbrev zR : Reg := ⟨78, 3, [I 0, I 0, I 0], 0⟩
abbrev T32 (s : So) (g : Int) (n m : Nat) (c : Bool) : St := ⟨(.any :: (I g) :: (.ptr 0 0) :: .any :: (.ptr 1 0) :: .any :: .any :: (.ptr 2 0) :: (.sl 3 0 0) :: .any :: .any :: .any :: (.sl 9 0 n) :: (.sl 10 0 m) :: (.ptr (stH s s []).length 0) :: .any :: .any :: .any :: .any :: .any :: .any :: .any :: .any :: .any :: .any :: .any :: .any :: .any :: .any :: .any :: .any :: .any :: .any :: .any :: .any :: .any :: .any :: .any :: .any :: .any :: .any :: .any :: .any :: .any :: .any :: .any :: .any :: .any :: .any :: .any :: .any :: .any :: .any :: .any :: .any :: .any :: .any :: .any :: .any :: .any :: .any :: .any :: .any :: .any :: .any :: .any :: .any :: .any :: .any :: .any :: .any :: .any :: .any :: .any :: .any :: .any :: .any :: .any :: .any :: .any :: .any :: .any :: .any :: .any :: .any :: .any :: .any :: .any :: .any :: .any :: .any :: .any :: .any :: .any :: .any :: .any :: .any :: .any :: .any :: .any :: .any :: .any :: .any :: .any :: .any :: .any :: .any :: .any :: .any :: .any :: .any :: .any :: .any :: .any :: .any :: .any :: .any :: .any :: .any :: .any :: .any :: .any :: .any :: .any :: .any :: .any :: .any :: .any :: .any :: .any :: .any :: .any :: .any :: .any :: .any :: .any :: .any :: .any :: .any :: .any :: .any :: .any :: .any :: .any :: .any :: .any :: .any :: .any :: .any :: .any :: .any :: .any :: .any :: .any :: .any :: .any :: .any :: .any :: .any :: .any :: .any :: .any :: .any :: .any :: .any :: .any :: .any :: .any :: .any :: .any :: .any :: .any :: .any :: .any :: .any :: .any :: .any :: .any :: .any :: .any :: .any :: .any :: .any :: .any :: .any :: .any :: .any :: .any :: .any :: .any :: .any :: (B c) :: .any :: .any :: .any :: .any :: .any :: .any :: .any :: .any :: .any :: .any :: .any :: .any :: .any :: .any :: .any :: .any :: .any :: .any :: .any :: .any :: .any :: .any :: .any :: .any :: .any :: .any :: .any :: .any :: .any :: .any :: .any :: .any :: .any :: .any :: .any :: .any :: .any :: .any :: .any :: .any :: .any :: .any :: .any :: .any :: .any :: .any :: .any :: .any :: .any :: .any :: .any :: .any :: .any :: .any :: .any :: .any :: .any :: []), stH s s [] ++ [zR], 0⟩
end Go.Proofs.Ytojcojanokhnaaa.Ab
namespace Go.Proofs.Ytojcojanokhnaaa.Ab
open Go.RowKit
abbrev T27 (s : So) (g : Int) (n m : Nat) (c : Bool) : St := ⟨(.any :: (I g) :: (.ptr 0 0) :: .any :: (.ptr 1 0) :: .any :: .any :: (.ptr 2 0) :: (.sl 3 0 0) :: .any :: .any :: .any :: (.sl 9 0 n) :: (.sl 10 0 m) :: .any :: .any :: .any :: .any :: .any :: .any :: .any :: .any :: .any :: .any :: .any :: .any :: .any :: .any :: .any :: .any :: .any :: .any :: .any :: .any :: .any :: .any :: .any :: .any :: .any :: .any :: .any :: .any :: .any :: .any :: .any :: .any :: .any :: .any :: .any :: .any :: .any :: .any :: .any :: .any :: .any :: .any :: .any :: .any :: .any :: .any :: .any :: .any :: .any :: .any :: .any :: .any :: .any :: .any :: .any :: .any :: .any :: .any :: .any :: .any :: .any :: .any :: .any :: .any :: .any :: .any :: .any :: .any :: .any :: .any :: .any :: .any :: .any :: .any :: .any :: .any :: .any :: .any :: .any :: .any :: .any :: .any :: .any :: .any :: .any :: .any :: .any :: .any :: .any :: .any :: .any :: .any :: .any :: .any :: .any :: .any :: .any :: .any :: .any :: .any :: .any :: .any :: .any :: .any :: .any :: .any :: .any :: .any :: .any :: .any :: .any :: .any :: .any :: .any :: .any :: .any :: .any :: .any :: .any :: .any :: .any :: .any :: .any :: .any :: .any :: .any :: .any :: .any :: .any :: .any :: .any :: .any :: .any :: .any :: .any :: .any :: .any :: .any :: .any :: .any :: .any :: .any :: .any :: .any :: (B c) :: .any :: .any :: .any :: .any :: .any :: .any :: .any :: .any :: .any :: .any :: .any :: .any :: .any :: .any :: .any :: .any :: .any :: .any :: .any :: .any :: .any :: .any :: .any :: .any :: .any :: .any :: .any :: .any :: .any :: .any :: .any :: .any :: .any :: .any :: .any :: .any :: .any :: .any :: .any :: .any :: .any :: .any :: .any :: .any :: .any :: .any :: .any :: .any :: .any :: .any :: .any :: .any :: .any :: .any :: .any :: .any :: .any :: .any :: .any :: .any :: .any :: .any :: .any :: .any :: .any :: .any :: .any :: .any :: .any :: .any :: .any :: .any :: .any :: .any :: .any :: .any :: .any :: .any :: .any :: .any :: .any :: .any :: .any :: .any :: .any :: .any :: .any :: .any :: .any :: .any :: []), stH s s [], 0⟩
end Go.Proofs.Ytojcojanokhnaaa.Ab
namespace Go.Proofs.Ytojcojanokhnaaa.Ab
open Go.RowKit
abbrev soOX (b : Nat) (s : So) (o : Nat) : List V := [.sl b 0 s.input.length, I s.pos, .sl (b + 1) 0 s.heap.length, .sl (b + 2) 0 s.dfr.length, .sl (b + 3) 0 s.out.length, .sl (b + 4) o s.runs.length, I s.lp, I s.rp, I s.ph, I s.wr]
abbrev soRX (b : Nat) (s : So) (o : Nat) : List Reg := rwR s.input :: rwR s.heap :: rwR s.dfr :: rwR s.out :: ⟨84, 1, List.replicate o .any ++ nC (b + 5) s.runs, 0⟩ :: nR rwT 78 s.runs
abbrev stHX (s t : So) (r : List Rw) (o : Nat) : List Reg := bxS (soE s) :: bxS zS :: bxS (soOX 4 t o) :: rwR r :: soRX 4 t o
abbrev stTX (s t : So) (g : Int) (r : List Rw) (o : Nat) : St := ⟨stL s g r.length, stHX s t r o, 0⟩
def stQX (s x : So) (g : Int) (r : List Rw) : Exit → St → Prop := fun e S' => e = .normal ∧ ∃ o, (o = 0 ∨ o = 2) ∧ Sub (stTX s x g r o) S'
end Go.Proofs.Ytojcojanokhnaaa.Ab
namespace Go.Proofs.Ytojcojanokhnaaa.Ab
open Go.RowKit
def stepP (x : So) (r : List Rw) : V → List Reg → Prop := fun v K => ∃ o, (o = 0 ∨ o = 2) ∧ v = .tup [.agg (soOX 1 x o), .sl 0 0 r.length, B true] ∧ K = rwR r :: soRX 1 x o
end Go.Proofs.Ytojcojanokhnaaa.Ab
namespace Go.Proofs.Ytojcojanokhnaaa.Ab
open Go.RowKit
theorem l7 {H : List Reg} {h zi ty o : Nat} {pre : List V} {outs : List Rn} {run : Rn} (hp : pre.length = o) (hH : H[h]? = some ⟨ty, 1, pre ++ rnT.flat outs ++ [.sl zi 0 run.length], 0⟩) (hz : H[zi]? = some (rwR run)) : Pur true H (.sl h o (outs.length + 1)) (rnL (outs ++ [run])) := by
  subst hp
  have fl : (rnT.flat outs).length = outs.length := by rw [yH]; show outs.length * 1 = _; omega
  have e : (outs ++ [run]).length = outs.length + 1 := by simp
  rw [← e]
  refine .slN hH (Or.inr ⟨rfl, rfl⟩) (Nat.lt_succ_self 0) (by simp only [List.length_append, fl, List.length_singleton]; omega) ?_
  have q : (List.take ((outs ++ [run]).length * 1) (List.drop (pre.length * 1) (pre ++ rnT.flat outs ++ [.sl zi 0 run.length]))) = rnT.flat outs ++ [.sl zi 0 run.length] := by
    rw [Nat.mul_one, Nat.mul_one, List.append_assoc, List.drop_append_of_le_length (Nat.le_refl _), List.drop_length, List.nil_append, List.take_of_length_le (by simp only [List.length_append, fl, List.length_singleton]; omega)]
  show Purs true H (List.take ((outs ++ [run]).length * 1) (List.drop (pre.length * 1) (pre ++ rnT.flat outs ++ [.sl zi 0 run.length]))) (rnT.flat (outs ++ [run]))
  rw [q, tF]
  exact sA (u6 (zJ _ _)) (.cons (zq hz) .nil)
theorem lv (inp heap dfr out : List Rw) (pos wr g : Int) (a b : Rn) (rest : List Rn) (hok : okSo ⟨inp, pos, heap, dfr, out, a :: b :: rest, a.length, b.length, 2, wr⟩) (hv : vS ⟨inp, pos, heap, dfr, out, a :: b :: rest, a.length, b.length, 2, wr⟩ = true) (hg : inV g 8 60 = true) :
    zy Go.Proofs.Try.prog 14 [.agg (soE ⟨inp, pos, heap, dfr, out, a :: b :: rest, a.length, b.length, 2, wr⟩), I g] [] (.tup [.agg (soH ⟨inp, pos, heap, dfr, [], rest ++ [out], 0, 0, cond (decide (rest.length + 1 = 0)) 4 (cond (decide (rest.length + 1 = 1)) 3 2), wr⟩), rwL [], B true]) [rwR (⟨inp, pos, heap, dfr, [], rest ++ [out], 0, 0, cond (decide (rest.length + 1 = 0)) 4 (cond (decide (rest.length + 1 = 1)) 3 2), wr⟩ : So).heap] true := by
  have g5 := hok.runs
  simp only [List.length_cons] at g5
  have ac := xV _ hok
  have a1 := vt _ hok
  rw [hv] at a1
  have a2 := vT g 8 60
  rw [hg] at a2
  have b1 := wA (a :: b :: rest) 0 a.length hok.rn (by decide)
  have b2 := wA (a :: b :: rest) 1 b.length hok.rn (by decide)
  have e0 : wF (a :: b :: rest) 0 a.length = [] := by simp [wF]
  have e1 : wF (a :: b :: rest) 1 b.length = [] := by simp [wF]
  rw [e0] at b1
  rw [e1] at b2
  have fl : (rnT.flat (a :: b :: rest)).length = 2 + rest.length := by rw [yH]; show (a :: b :: rest).length * 1 = _; simp; omega
  refine yV 4 27 [5, 6] Go.Proofs.Try.func14 rfl rfl rfl ?_
  simp only [Go.Proofs.Try.ntmps14, List.length_cons, List.length_nil, Nat.reduceAdd, Nat.reduceSub, List.replicate_succ, List.replicate_zero, List.cons_append, List.nil_append]
  repeat' first | (refine zd rfl (fun h => absurd (of_decide_eq_true h) (by simp only; decide)) (fun _ => ?_)) | (refine zd rfl (fun _ => ?_) (fun h => absurd (of_decide_eq_false h) (by simp only; decide))) | (refine ur 7 (fun H => H[7]? = some (bxS (soP 2 ⟨inp, pos, heap, dfr, out, a :: b :: rest, a.length, b.length, 2, wr⟩)) ∧ H[6]? = some (rnR (a :: b :: rest))) 10 rfl (xt ?_)) | refine zK ?_ | refine zA ?_ | refine zL [] ?_ | (refine isA ?_; refine zf rfl ?_) | (refine isL ?_; refine zU rfl (by kernel_rfl) rfl rfl ?_) | (refine zb rfl ?_; refine zT rfl (by kernel_rfl) rfl rfl ?_) | (refine zu 65 ?_; refine zc rfl (yA (r' := .agg (soP 2 ⟨inp, pos, heap, dfr, out, a :: b :: rest, a.length, b.length, 2, wr⟩)) (H' := bxS (soE ⟨inp, pos, heap, dfr, out, a :: b :: rest, a.length, b.length, 2, wr⟩) :: bxS zS :: soW ⟨inp, pos, heap, dfr, out, a :: b :: rest, a.length, b.length, 2, wr⟩) rfl ac (.cons (.same rfl) .nil) rfl (by simp only [List.map_cons, List.map_nil, shR, yC _ (yP (zJ _ _))]; rfl)) rfl ?_) | (refine zv 65 rfl ?_; refine zX rfl (by kernel_rfl) rfl (yA (r' := .agg (soP 2 ⟨inp, pos, heap, dfr, out, a :: b :: rest, a.length, b.length, 2, wr⟩)) (H' := bxS (soE ⟨inp, pos, heap, dfr, out, a :: b :: rest, a.length, b.length, 2, wr⟩) :: bxS zS :: soW ⟨inp, pos, heap, dfr, out, a :: b :: rest, a.length, b.length, 2, wr⟩) rfl ac (.cons (.same rfl) .nil) rfl (by simp only [List.map_cons, List.map_nil, shR, yC _ (yP (zJ _ _))]; rfl)) rfl ?_) | (refine zu 18 ?_; refine zc rfl (zQ rfl a1 (.cons (.same rfl) .nil) rfl) rfl ?_) | (refine zv 18 rfl ?_; refine zX rfl (by kernel_rfl) rfl (zQ rfl a1 (.cons (.same rfl) .nil) rfl) rfl ?_) | (refine zu 66 ?_; refine zc rfl (zQ rfl a2 (.cons (.same rfl) (.cons (.same rfl) (.cons (.same rfl) .nil))) rfl) rfl ?_) | (refine zv 66 rfl ?_; refine zX rfl (by kernel_rfl) rfl (zQ rfl a2 (.cons (.same rfl) (.cons (.same rfl) (.cons (.same rfl) .nil))) rfl) rfl ?_) | (refine zu 71 ?_; refine zc rfl (zQ rfl b1 (.cons (.same rfl) (.cons (.same rfl) (.cons (.same rfl) .nil))) rfl) rfl ?_) | (refine zv 71 rfl ?_; refine zX rfl (by kernel_rfl) rfl (zQ rfl b1 (.cons (.same rfl) (.cons (.same rfl) (.cons (.same rfl) .nil))) rfl) rfl ?_) | (refine zu 71 ?_; refine zc rfl (zQ rfl b2 (.cons (.same rfl) (.cons (.same rfl) (.cons (.same rfl) .nil))) rfl) rfl ?_) | (refine zv 71 rfl ?_; refine zX rfl (by kernel_rfl) rfl (zQ rfl b2 (.cons (.same rfl) (.cons (.same rfl) (.cons (.same rfl) .nil))) rfl) rfl ?_) | refine zD ?_ | refine zB _ rfl (by kernel_rfl) ?_ | refine zV rfl ?_ | refine zW rfl ?_ | refine zC ?_ | with_reducible refine zO ?_ | refine zH ?_ | refine zI ?_ | (with_reducible first | refine zM ?_ | refine zN ?_ | refine zE ?_ | refine zG ?_ | refine zF ?_) | refine zP ?_
  refine we ?_
  refine ye 0 (Or.inr ⟨rfl, rfl⟩) rfl rfl (by kernel_rfl) rfl (fun _ => rfl) rfl ?_
  refine sD 1 ⟨rfl, rfl⟩ (by kernel_rfl) rfl (by kernel_rfl) rfl (fun _ hG => xl rfl rfl hG.1 rfl rfl) rfl ?_
  refine sD 2 ⟨rfl, rfl⟩ (by kernel_rfl) rfl (by kernel_rfl) rfl (fun _ hG => y6 (l := (2 : Int)) (h := ((a :: b :: rest).length : Int)) rfl rfl hG.2 (Nat.zero_le _) rfl (.yes _ rfl) (.no _) (by decide) (by simp; omega) (by simp)) rfl ?_
  refine ye 3 (Or.inr ⟨rfl, rfl⟩) rfl rfl (by kernel_rfl) rfl (fun _ => rfl) rfl ?_
  refine sD 4 ⟨rfl, rfl⟩ (by kernel_rfl) rfl (by kernel_rfl) rfl (fun _ hG => xl rfl rfl hG.1 rfl rfl) rfl ?_
  refine ye 5 (Or.inr ⟨rfl, rfl⟩) rfl rfl (by kernel_rfl) rfl (fun _ => rfl) rfl ?_
  refine x3 6 (by kernel_rfl) rfl rfl rfl (Or.inr ⟨rfl, rfl⟩) rfl ?_
  refine eI 7 (by kernel_rfl) rfl rfl (ap_cX (hz := 8) (v := .sl 5 0 out.length) (n := rest.length) (off := 2) (cells := rnT.flat (a :: b :: rest)) rfl rfl rfl rfl rfl rfl fl (by omega)) (fun v H' hq => Or.inl (by kernel_rfl)) (fun v H' hq => ?_)
  obtain ⟨o', pre, p1, p2, rfl, rfl⟩ := hq
  refine ⟨_, _, rfl, ?_⟩
  refine ye 8 (Or.inl (by kernel_rfl)) rfl rfl (by kernel_rfl) rfl (fun _ => rfl) rfl ?_
  refine x3 9 (by kernel_rfl) rfl rfl rfl (Or.inl (by kernel_rfl)) rfl ?_
  refine vH (by kernel_rfl) ?_
  repeat' first | refine zK ?_ | refine zA ?_ | refine zL [] ?_ | (refine isA ?_; refine zf rfl ?_) | (refine isL ?_; refine zU rfl (by kernel_rfl) rfl rfl ?_) | (refine zb rfl ?_; refine zT rfl (by kernel_rfl) rfl rfl ?_) | (refine zu 70 ?_; refine zc rfl (yT rfl (uq _ _ _ _ _ _ _ _ _ _ _ _ _ _ _ _ _ _ _ _ _ _ _ _ _ _ _ _ _ _ _) rfl) rfl ?_) | (refine zv 70 rfl ?_; refine zX rfl (by kernel_rfl) rfl (yT rfl (uq _ _ _ _ _ _ _ _ _ _ _ _ _ _ _ _ _ _ _ _ _ _ _ _ _ _ _ _ _ _ _) rfl) rfl ?_) | refine zD ?_ | refine zB _ rfl (by kernel_rfl) ?_ | refine zV rfl ?_ | refine zW rfl ?_ | refine zC ?_ | with_reducible refine zO ?_ | refine zH ?_ | refine zI ?_ | (with_reducible first | refine zM ?_ | refine zN ?_ | refine zE ?_ | refine zG ?_ | refine zF ?_) | refine zP ?_
  exact xS (yS rfl rfl rfl rfl rfl) rfl rfl (zJ _ _) (by repeat' first | exact Purs.nil | refine Purs.cons ?_ ?_ | exact zq rfl | exact yL rfl rfl | exact zq (T := rwT) (x := []) rfl | exact Pur.nil | exact Pur.same rfl | exact yk (by assumption)) (.cons (zq rfl) (.cons (zq (T := rwT) (x := []) rfl) (.cons (l7 p1 rfl rfl) (.cons (.same rfl) (.cons (.same rfl) (.cons (.same rfl) (.cons (.same rfl) .nil))))))) (.cons (zq (T := rwT) (x := []) rfl) (.cons (.same rfl) .nil))
theorem jm (s x : So) (g : Int) (r : List Rw) (hok : okSo s) (hv : vS s = true) (h1 : inV g 8 60 = true) (h : StepV s g x r) : zy Go.Proofs.Try.prog 14 [.agg (soE s), I g] [] (.tup [.agg (soH x), rwL r, B true]) [rwR x.heap] true := by
  have hV := wE.1 hv
  cases hV with
  | read b q => exact s9 s x g r hok hv h1 q.ph h
  | @merge b t ph c d rest i j hr hi hj m =>
    obtain ⟨inp, pos, heap, dfr, out, runs, lp, rp, ph', wr⟩ := s
    simp only at ph hr hi hj m
    subst ph hr hi hj
    have m1 := m.ha
    have m2 := m.hb
    cases h with
    | put h1 => simp at h1
    | pop h1 => simp at h1
    | swap h1 => simp at h1
    | close h1 => simp at h1
    | emit h1 => simp at h1
    | @merged a' b' rest' h3 h2 h4 h5 =>
      simp only [List.cons.injEq] at h2
      obtain ⟨rfl, rfl, rfl⟩ := h2
      simp only at h4 h5
      obtain rfl : i = c.length := by omega
      obtain rfl : j = d.length := by omega
      have e : yQ (sT ⟨inp, pos, heap, dfr, out, c :: d :: rest, c.length, d.length, 2, wr⟩) = ⟨inp, pos, heap, dfr, [], rest ++ [out], 0, 0, cond (decide (rest.length + 1 = 0)) 4 (cond (decide (rest.length + 1 = 1)) 3 2), wr⟩ := by
        simp [yQ, sT]
      rw [e]
      exact lv inp heap dfr out pos wr g c d rest hok hv h1
    | @left a' b' rest' q h5 h2 h3 h4 =>
      simp only [List.cons.injEq] at h2
      obtain ⟨rfl, rfl, rfl⟩ := h2
      simp only [Int.toNat_natCast] at h3 h4
      exact eD inp heap dfr out pos wr g c d rest i j q hok hv h1 h3 m2 h4
    | @right a' b' rest' q h5 h2 h3 h4 =>
      simp only [List.cons.injEq] at h2
      obtain ⟨rfl, rfl, rfl⟩ := h2
      simp only [Int.toNat_natCast] at h3 h4
      exact gY inp heap dfr out pos wr g c d rest i j q hok hv h1 h3 m1 h4
  | @emit b t ph c i hr hi hl hrp ho =>
    obtain ⟨inp, pos, heap, dfr, out, runs, lp, rp, ph', wr⟩ := s
    simp only at ph hr hi
    subst ph hr hi
    cases h with
    | put h1 => simp at h1
    | pop h1 => simp at h1
    | swap h1 => simp at h1
    | close h1 => simp at h1
    | merged h1 => simp at h1
    | left h1 => simp at h1
    | right h1 => simp at h1
    | @emit a' q h5 h2 h3 =>
      simp only [List.cons.injEq, and_true] at h2
      subst h2
      simp only [Int.toNat_natCast] at h3
      exact eE inp heap dfr out pos wr rp g c i q hok hv h1 h3
  | done b t ph =>
    cases h with
    | put h1 => omega
    | pop h1 => omega
    | swap h1 => omega
    | close h1 => omega
    | merged h1 => omega
    | left h1 => omega
    | right h1 => omega
    | emit h1 => omega
end Go.Proofs.Ytojcojanokhnaaa.Ab
namespace Go.Proofs.Ytojcojanokhnaaa.Ab
open Go.RowKit
abbrev rnNX (rs : List Rn) (o : Nat) : List Reg := ⟨84, 1, List.replicate o V.any ++ nC 1 rs, 0⟩ :: nR rwT 78 rs
end Go.Proofs.Ytojcojanokhnaaa.Ab
namespace Go.Proofs.Ytojcojanokhnaaa.Ab
open Go.RowKit
abbrev stN (s : So) : List Reg := bxS (soE s) :: bxS zS :: bxS (soO 3 s) :: soR 3 s
theorem m8 (s : So) (g : Int) (hok : okSo s) (h : vS s = false ∨ inV g 8 60 = false ∨ s.ph = 4) : zy Go.Proofs.Try.prog 14 [.agg (soE s), I g] [] (.tup [.agg (soH s), rwL [], B false]) [rwR s.heap] true := by
  have ac := xV s hok
  have a1 := vt s hok
  have a2 := vT g 8 60
  rcases Bool.eq_false_or_eq_true (vS s) with hv | hv
  · rw [hv] at a1
    rcases Bool.eq_false_or_eq_true (inV g 8 60) with hg | hg
    · rw [hg] at a2
      have h4 : s.ph = 4 := by rw [hv, hg] at h; simpa using h
      refine yV 4 27 [5, 6] Go.Proofs.Try.func14 rfl rfl rfl ?_
      simp only [Go.Proofs.Try.ntmps14, List.length_cons, List.length_nil, Nat.reduceAdd, Nat.reduceSub, List.replicate_succ, List.replicate_zero, List.cons_append, List.nil_append]
      repeat' first | (refine isA ?_; refine zc rfl (yN rfl rfl rfl rfl rfl) rfl ?_) | (refine zd rfl (fun _ => ?_) (fun h => absurd h4 (of_decide_eq_false h))) | refine zK ?_ | refine zA ?_ | refine zL [] ?_ | (refine isA ?_; refine zf rfl ?_) | (refine isL ?_; refine zU rfl (by kernel_rfl) rfl rfl ?_) | (refine zb rfl ?_; refine zT rfl (by kernel_rfl) rfl rfl ?_) | (refine zu 65 ?_; refine zc rfl (yA (r' := .agg (soP 2 s)) (H' := bxS (soE s) :: bxS zS :: soW s) rfl ac (.cons (.same rfl) .nil) rfl (by simp only [List.map_cons, List.map_nil, shR, yC _ (yP (zJ _ _))]; rfl)) rfl ?_) | (refine zv 65 rfl ?_; refine zX rfl (by kernel_rfl) rfl (yA (r' := .agg (soP 2 s)) (H' := bxS (soE s) :: bxS zS :: soW s) rfl ac (.cons (.same rfl) .nil) rfl (by simp only [List.map_cons, List.map_nil, shR, yC _ (yP (zJ _ _))]; rfl)) rfl ?_) | (refine zu 18 ?_; refine zc rfl (zQ rfl a1 (.cons (.same rfl) .nil) rfl) rfl ?_) | (refine zv 18 rfl ?_; refine zX rfl (by kernel_rfl) rfl (zQ rfl a1 (.cons (.same rfl) .nil) rfl) rfl ?_) | (refine zu 66 ?_; refine zc rfl (zQ rfl a2 (.cons (.same rfl) (.cons (.same rfl) (.cons (.same rfl) .nil))) rfl) rfl ?_) | (refine zv 66 rfl ?_; refine zX rfl (by kernel_rfl) rfl (zQ rfl a2 (.cons (.same rfl) (.cons (.same rfl) (.cons (.same rfl) .nil))) rfl) rfl ?_) | refine zD ?_ | refine zB _ rfl (by kernel_rfl) ?_ | refine zV rfl ?_ | refine zW rfl ?_ | refine zC ?_ | with_reducible refine zO ?_ | refine zH ?_ | refine zI ?_ | (with_reducible first | refine zM ?_ | refine zN ?_ | refine zE ?_ | refine zG ?_ | refine zF ?_) | refine zP ?_
      exact xS (yS rfl rfl rfl rfl rfl) rfl rfl (zJ _ _) (by repeat' first | exact Purs.nil | refine Purs.cons ?_ ?_ | exact zq rfl | exact yL rfl rfl | exact zq (T := rwT) (x := []) rfl | exact Pur.nil | exact Pur.same rfl | exact yk (by assumption)) (by repeat' first | exact Purs.nil | refine Purs.cons ?_ ?_ | exact zq rfl | exact yL rfl rfl | exact zq (T := rwT) (x := []) rfl | exact Pur.nil | exact Pur.same rfl | exact yk (by assumption)) (.cons (.same rfl) (.cons (.same rfl) .nil))
    · rw [hg] at a2
      refine yV 4 27 [5, 6] Go.Proofs.Try.func14 rfl rfl rfl ?_
      simp only [Go.Proofs.Try.ntmps14, List.length_cons, List.length_nil, Nat.reduceAdd, Nat.reduceSub, List.replicate_succ, List.replicate_zero, List.cons_append, List.nil_append]
      repeat' first | (refine isA ?_; refine zc rfl (yN rfl rfl rfl rfl rfl) rfl ?_) | refine zK ?_ | refine zA ?_ | refine zL [] ?_ | (refine isA ?_; refine zf rfl ?_) | (refine isL ?_; refine zU rfl (by kernel_rfl) rfl rfl ?_) | (refine zb rfl ?_; refine zT rfl (by kernel_rfl) rfl rfl ?_) | (refine zu 65 ?_; refine zc rfl (yA (r' := .agg (soP 2 s)) (H' := bxS (soE s) :: bxS zS :: soW s) rfl ac (.cons (.same rfl) .nil) rfl (by simp only [List.map_cons, List.map_nil, shR, yC _ (yP (zJ _ _))]; rfl)) rfl ?_) | (refine zv 65 rfl ?_; refine zX rfl (by kernel_rfl) rfl (yA (r' := .agg (soP 2 s)) (H' := bxS (soE s) :: bxS zS :: soW s) rfl ac (.cons (.same rfl) .nil) rfl (by simp only [List.map_cons, List.map_nil, shR, yC _ (yP (zJ _ _))]; rfl)) rfl ?_) | (refine zu 18 ?_; refine zc rfl (zQ rfl a1 (.cons (.same rfl) .nil) rfl) rfl ?_) | (refine zv 18 rfl ?_; refine zX rfl (by kernel_rfl) rfl (zQ rfl a1 (.cons (.same rfl) .nil) rfl) rfl ?_) | (refine zu 66 ?_; refine zc rfl (zQ rfl a2 (.cons (.same rfl) (.cons (.same rfl) (.cons (.same rfl) .nil))) rfl) rfl ?_) | (refine zv 66 rfl ?_; refine zX rfl (by kernel_rfl) rfl (zQ rfl a2 (.cons (.same rfl) (.cons (.same rfl) (.cons (.same rfl) .nil))) rfl) rfl ?_) | refine zD ?_ | refine zB _ rfl (by kernel_rfl) ?_ | refine zV rfl ?_ | refine zW rfl ?_ | refine zC ?_ | with_reducible refine zO ?_ | refine zH ?_ | refine zI ?_ | (with_reducible first | refine zM ?_ | refine zN ?_ | refine zE ?_ | refine zG ?_ | refine zF ?_) | refine zP ?_
      exact xS (yS rfl rfl rfl rfl rfl) rfl rfl (zJ _ _) (by repeat' first | exact Purs.nil | refine Purs.cons ?_ ?_ | exact zq rfl | exact yL rfl rfl | exact zq (T := rwT) (x := []) rfl | exact Pur.nil | exact Pur.same rfl | exact yk (by assumption)) (by repeat' first | exact Purs.nil | refine Purs.cons ?_ ?_ | exact zq rfl | exact yL rfl rfl | exact zq (T := rwT) (x := []) rfl | exact Pur.nil | exact Pur.same rfl | exact yk (by assumption)) (.cons (.same rfl) (.cons (.same rfl) .nil))
  · rw [hv] at a1
    refine yV 4 27 [5, 6] Go.Proofs.Try.func14 rfl rfl rfl ?_
    simp only [Go.Proofs.Try.ntmps14, List.length_cons, List.length_nil, Nat.reduceAdd, Nat.reduceSub, List.replicate_succ, List.replicate_zero, List.cons_append, List.nil_append]
    repeat' first | (refine isA ?_; refine zc rfl (yN rfl rfl rfl rfl rfl) rfl ?_) | refine zK ?_ | refine zA ?_ | refine zL [] ?_ | (refine isA ?_; refine zf rfl ?_) | (refine isL ?_; refine zU rfl (by kernel_rfl) rfl rfl ?_) | (refine zb rfl ?_; refine zT rfl (by kernel_rfl) rfl rfl ?_) | (refine zu 65 ?_; refine zc rfl (yA (r' := .agg (soP 2 s)) (H' := bxS (soE s) :: bxS zS :: soW s) rfl ac (.cons (.same rfl) .nil) rfl (by simp only [List.map_cons, List.map_nil, shR, yC _ (yP (zJ _ _))]; rfl)) rfl ?_) | (refine zv 65 rfl ?_; refine zX rfl (by kernel_rfl) rfl (yA (r' := .agg (soP 2 s)) (H' := bxS (soE s) :: bxS zS :: soW s) rfl ac (.cons (.same rfl) .nil) rfl (by simp only [List.map_cons, List.map_nil, shR, yC _ (yP (zJ _ _))]; rfl)) rfl ?_) | (refine zu 18 ?_; refine zc rfl (zQ rfl a1 (.cons (.same rfl) .nil) rfl) rfl ?_) | (refine zv 18 rfl ?_; refine zX rfl (by kernel_rfl) rfl (zQ rfl a1 (.cons (.same rfl) .nil) rfl) rfl ?_) | refine zD ?_ | refine zB _ rfl (by kernel_rfl) ?_ | refine zV rfl ?_ | refine zW rfl ?_ | refine zC ?_ | with_reducible refine zO ?_ | refine zH ?_ | refine zI ?_ | (with_reducible first | refine zM ?_ | refine zN ?_ | refine zE ?_ | refine zG ?_ | refine zF ?_) | refine zP ?_
    exact xS (yS rfl rfl rfl rfl rfl) rfl rfl (zJ _ _) (by repeat' first | exact Purs.nil | refine Purs.cons ?_ ?_ | exact zq rfl | exact yL rfl rfl | exact zq (T := rwT) (x := []) rfl | exact Pur.nil | exact Pur.same rfl | exact yk (by assumption)) (by repeat' first | exact Purs.nil | refine Purs.cons ?_ ?_ | exact zq rfl | exact yL rfl rfl | exact zq (T := rwT) (x := []) rfl | exact Pur.nil | exact Pur.same rfl | exact yk (by assumption)) (.cons (.same rfl) (.cons (.same rfl) .nil))
end Go.Proofs.Ytojcojanokhnaaa.Ab
namespace Go.Proofs.Ytojcojanokhnaaa.Ab
open Go.RowKit
def soN (xs : List Rw) : So := ⟨xs, 0, [], [], [], [], 0, 0, 1, 0⟩
def soZ : So := ⟨[], 0, [], [], [], [], 0, 0, 0, 0⟩
def nsS (xs : List Rw) : So := cond (avR xs) (soN xs) soZ
abbrev nsO (n : Nat) : List V := [.sl 0 0 n, I 0, wq, wq, wq, wq, I 0, I 0, I 1, I 0]
abbrev nsZ : List V := [wq, I 0, wq, wq, wq, wq, I 0, I 0, I 0, I 0]
end Go.Proofs.Ytojcojanokhnaaa.Ab
namespace Go.Proofs.Ytojcojanokhnaaa.Ab
open Go.RowKit
theorem zy.nilH {P : Program} {f : FuncId} {cargs : List V} {c0 c1 : V} {cs es : List V} {al : Bool} (e : TypeId) (n : Nat) (h : zy P f cargs [] (.tup (.agg (c0 :: c1 :: wq :: cs) :: es)) [] al) : zy P f cargs [] (.tup (.agg (c0 :: c1 :: .sl 0 0 0 :: cs) :: es)) [⟨e, n, [], 0⟩] al := by
  intro A φ w xs hok hrel hsz
  refine (h A φ w xs hok hrel hsz).mono ?_
  rintro e' w' ⟨x, φ', A', rfl, k1, k2, k3, k4, k5, k6⟩
  have h1 : φ' = [] := List.length_eq_zero_iff.1 k1.len
  have h2 : φ = [] := List.length_eq_zero_iff.1 hok.len
  subst h1 h2
  have hno : ∀ i b, ¬ zz [(⟨none, 0, n, e⟩ : Hd)] [(⟨e, n, [], 0⟩ : Reg)] i b := fun i b ⟨d, q, q1, q2, q3, q4⟩ => by
    match i, q1 with
    | 0, q1 =>
      simp only [List.getElem?_cons_zero, Option.some.injEq] at q1
      subst q1
      cases q4
  have hm : ∀ {v : V} {y : Value}, Rel A' w' [] v y → Rel A' w' [(⟨none, 0, n, e⟩ : Hd)] v y := fun hy => Rel.mono (fun b hb => ⟨hb, rfl⟩) (fun j d hj => by simp at hj) hy
  have hms : ∀ {v : List V} {g : Nat → Option Value}, zx A' w' [] v g → zx A' w' [(⟨none, 0, n, e⟩ : Hd)] v g := fun hy => zx.mono (fun b hb => ⟨hb, rfl⟩) (fun j d hj => by simp at hj) hy
  refine ⟨x, [⟨none, 0, n, e⟩], A', rfl, ⟨rfl, fun i d q q1 q2 q3 => ?_, fun i j b q1 q2 => absurd q1 (hno i b), fun i b q1 => absurd q1 (hno i b), fun i d q b q1 q2 q3 q4 => ?_, k1.low⟩, ?_, k3, fun i b q1 => absurd q1 (hno i b), k5, fun i d hi => by simp at hi⟩
  · match i, q1, q2 with
    | 0, q1, q2 =>
      simp only [List.getElem?_cons_zero, Option.some.injEq] at q1 q2
      subst q1 q2
      exact ⟨⟨rfl, rfl, by simp [maxLen]⟩, rfl, rfl⟩
  · match i, q1 with
    | 0, q1 =>
      simp only [List.getElem?_cons_zero, Option.some.injEq] at q1
      subst q1
      cases q4
  · simp only [Rel, zx] at k2 ⊢
    obtain ⟨xs, rfl, hs, ⟨y, hy, zs, rfl, hz, ⟨y0, z0, r0⟩, ⟨y1, z1, r1⟩, ⟨y2, z2, r2⟩, kr⟩, hr⟩ := k2
    refine ⟨xs, rfl, hs, ⟨_, hy, zs, rfl, hz, ⟨y0, z0, hm r0⟩, ⟨y1, z1, hm r1⟩, ⟨y2, z2, ?_⟩, hms kr⟩, hms hr⟩
    exact ⟨_, rfl, Or.inl ⟨r2, Nat.le_refl _⟩⟩
def soJ (s : So) : List V := [rwL s.input, I s.pos, wq, rwL s.dfr, rwL s.out, rnL s.runs, I s.lp, I s.rp, I s.ph, I s.wr]
theorem ec (xs : List Rw) (hl : xs.length ≤ 1000000000) : zy Go.Proofs.Try.prog 97 [rwL xs] [] (.tup [.agg (soJ (nsS xs)), B (avR xs)]) [] true := by
  refine yV 2 27 [3] Go.Proofs.Try.func97 rfl rfl rfl ?_
  simp only [Go.Proofs.Try.ntmps97, List.length_cons, List.length_nil, Nat.reduceAdd, Nat.reduceSub, List.replicate_succ, List.replicate_zero, List.cons_append, List.nil_append]
  repeat' first | refine zK ?_ | refine zA ?_ | refine zL [] ?_ | (refine isA ?_; refine zf rfl ?_) | (refine isL ?_; refine zU rfl (by kernel_rfl) rfl rfl ?_) | (refine zb rfl ?_; refine zT rfl (by kernel_rfl) rfl rfl ?_) | (refine zu 25 ?_; refine zc rfl (zQ rfl (qh xs hl) (.cons (.same rfl) .nil) rfl) rfl ?_) | (refine zv 25 rfl ?_; refine zX rfl (by kernel_rfl) rfl (zQ rfl (qh xs hl) (.cons (.same rfl) .nil) rfl) rfl ?_) | refine zD ?_ | refine zB _ rfl (by kernel_rfl) ?_ | refine zV rfl ?_ | refine zW rfl ?_ | refine zC ?_ | with_reducible refine zO ?_ | refine zH ?_ | refine zI ?_ | (with_reducible first | refine zM ?_ | refine zN ?_ | refine zE ?_ | refine zG ?_ | refine zF ?_) | refine zP ?_
  refine zd rfl (fun k1 => ?_) (fun k1 => ?_)
  · have k1 : avR xs = false := by simpa using k1
    rw [nsS, k1]
    repeat' first | refine zK ?_ | refine zA ?_ | refine zL [] ?_ | (refine isA ?_; refine zf rfl ?_) | (refine isL ?_; refine zU rfl (by kernel_rfl) rfl rfl ?_) | (refine zb rfl ?_; refine zT rfl (by kernel_rfl) rfl rfl ?_) | exact ny (yS rfl rfl rfl rfl rfl) (.tup (.cons (.agg (.cons .nil (.cons (.same rfl) (.cons (.same rfl) (.cons .nil (.cons .nil (.cons .nil (.cons (.same rfl) (.cons (.same rfl) (.cons (.same rfl) (.cons (.same rfl) .nil))))))))))) (.cons (.same rfl) .nil))) | refine zD ?_ | refine zB _ rfl (by kernel_rfl) ?_ | refine zV rfl ?_ | refine zW rfl ?_ | refine zC ?_ | with_reducible refine zO ?_ | refine zH ?_ | refine zI ?_ | (with_reducible first | refine zM ?_ | refine zN ?_ | refine zE ?_ | refine zG ?_ | refine zF ?_) | refine zP ?_
  · have k1 : avR xs = true := by simpa using k1
    rw [nsS, k1]
    repeat' first | refine zK ?_ | refine zA ?_ | refine zL [] ?_ | (refine isA ?_; refine zf rfl ?_) | (refine isL ?_; refine zU rfl (by kernel_rfl) rfl rfl ?_) | (refine zb rfl ?_; refine zT rfl (by kernel_rfl) rfl rfl ?_) | (refine xU ?_; refine zc rfl (yX (t := rwT) (xs := []) (ys := xs) rfl rfl rfl rfl (.lst _ _) (by simp; omega) rfl) rfl ?_) | (refine y9 rfl ?_; refine zX rfl (by kernel_rfl) rfl (yX (t := rwT) (xs := []) (ys := xs) rfl rfl rfl rfl (.lst _ _) (by simp; omega) rfl) rfl ?_) | exact ny (yS rfl rfl rfl rfl rfl) (.tup (.cons (.agg (.cons (zq rfl) (.cons (.same rfl) (.cons (.same rfl) (.cons .nil (.cons .nil (.cons .nil (.cons (.same rfl) (.cons (.same rfl) (.cons (.same rfl) (.cons (.same rfl) .nil))))))))))) (.cons (.same rfl) .nil))) | refine zD ?_ | refine zB _ rfl (by kernel_rfl) ?_ | refine zV rfl ?_ | refine zW rfl ?_ | refine zC ?_ | with_reducible refine zO ?_ | refine zH ?_ | refine zI ?_ | (with_reducible first | refine zM ?_ | refine zN ?_ | refine zE ?_ | refine zG ?_ | refine zF ?_) | refine zP ?_
theorem kC (xs : List Rw) : (nsS xs).heap = [] := by
  rw [nsS]
  cases avR xs <;> rfl
theorem ef (xs : List Rw) (hl : xs.length ≤ 1000000000) : zy Go.Proofs.Try.prog 97 [rwL xs] [] (.tup [.agg (soH (nsS xs)), B (avR xs)]) [rwR (nsS xs).heap] true := by
  have h := (ec xs hl).nilH 78 3
  rw [soH, kC]
  exact h
end Go.Proofs.Ytojcojanokhnaaa.Ab
namespace Go.Proofs.Ytojcojanokhnaaa.Ab
open Go.RowKit
inductive OneV (s : So) (g : Int) : So → List Rw → Bool → Prop where
  | yes {x : So} {r : List Rw} (hv : vS s = true) (h1 : inV g 8 60 = true) (h : StepV s g x r) : OneV s g x r true
  | no (h : vS s = false ∨ inV g 8 60 = false ∨ s.ph = 4) : OneV s g s [] false
theorem qV (s : So) (g : Int) : ∃ x r b, OneV s g x r b := by
  rcases Bool.eq_false_or_eq_true (vS s) with hv | hv
  · rcases Bool.eq_false_or_eq_true (inV g 8 60) with h1 | h1
    · by_cases hp : s.ph = 4
      · exact ⟨_, _, _, .no (Or.inr (Or.inr hp))⟩
      · obtain ⟨x, r, h⟩ := nZ (g := g) (wE.1 hv) hp
        exact ⟨_, _, _, .yes hv h1 h⟩
    · exact ⟨_, _, _, .no (Or.inr (Or.inl h1))⟩
  · exact ⟨_, _, _, .no (Or.inl hv)⟩
structure Dr (s : So) (w : Int) : Prop where
  sm : Sm 49 s
  w0 : 0 ≤ s.wr
  w1 : s.wr ≤ w
theorem Sm.mono {k m : Nat} {s : So} (h : Sm k s) (hm : k ≤ m) : Sm m s := ⟨by have := h.input; omega, by have := h.heap; omega, by have := h.dfr; omega, by have := h.out; omega, by have := h.runs; omega, by have := h.tot; omega⟩
theorem Sm.ok9 {s : So} (h : Sm 49 s) : okSo s := by
  obtain ⟨h1, h2, h3, h4, h5, h6⟩ := h
  exact ⟨by omega, by omega, by omega, by omega, by omega, by omega⟩
theorem OneV.dr {s x : So} {g : Int} {r : List Rw} {b : Bool} {w : Int} (h : OneV s g x r b) (hd : Dr s w) (hw : w ≤ 1000000000) : Dr x (w + 4) := by
  have := hd.w0
  have := hd.w1
  cases h with
  | yes hv h1 h =>
    have := uZ h hd.w0 (by omega)
    exact ⟨(gW (wE.1 hv) h).mono (by decide), by omega, by omega⟩
  | no h => exact ⟨hd.sm, by omega, by omega⟩
theorem OneV.len {s x : So} {g : Int} {r : List Rw} {b : Bool} (h : OneV s g x r b) : r.length ≤ 1 := by
  cases h with
  | yes hv h1 h => exact lX h
  | no h => exact Nat.zero_le _
theorem gv {s x : So} {g : Int} {r : List Rw} {b : Bool} (hok : okSo s) (h : OneV s g x r b) : zy Go.Proofs.Try.prog 14 [.agg (soE s), I g] [] (.tup [.agg (soH x), rwL r, B b]) [rwR x.heap] true := by
  cases h with
  | yes hv h1 h => exact jm s x g r hok hv h1 h
  | no h => exact m8 s g hok h
noncomputable def gf (s : So) (g : Int) : So := (qV s g).choose
noncomputable def oneR (s : So) (g : Int) : List Rw := (qV s g).choose_spec.choose
noncomputable def fc (s : So) (g : Int) : Bool := (qV s g).choose_spec.choose_spec.choose
theorem kB (s : So) (g : Int) : OneV s g (gf s g) (oneR s g) (fc s g) := (qV s g).choose_spec.choose_spec.choose_spec
noncomputable def stF (s : So) (c : Cur) : Nat → So × Cur
  | 0 => (s, c)
  | i + 1 => (gf (stF s c i).1 (pkV [8, 9, 12, 20] (stF s c i).2), beC 4 (stF s c i).2)
theorem tx (s : So) (c : Cur) : ∀ i, (stF s c i).2.code = c.code
  | 0 => rfl
  | i + 1 => by rw [stF, y5, tx s c i]
theorem px {s : So} (c : Cur) {w : Int} (h : Dr s w) (hw : w ≤ 1000) : ∀ i, i ≤ 60 → Dr (stF s c i).1 (w + 4 * i)
  | 0, _ => by
    rw [stF]
    exact ⟨h.sm, h.w0, by have := h.w1; simp only at this ⊢; omega⟩
  | i + 1, hi => by
    have h1 := px c h hw i (by omega)
    have h2 := (kB (stF s c i).1 (pkV [8, 9, 12, 20] (stF s c i).2)).dr h1 (by omega)
    rw [stF]
    exact ⟨h2.sm, h2.w0, by have := h2.w1; simp only at this ⊢; omega⟩
def spV (s : So) (c : Cur) : So × Cur :=
  cond (decide (beV 16 c = 0)) ({ s with ph := beV 6 (beC 16 c) }, beC 6 (beC 16 c))
    (cond (decide (beV 16 c = 1)) ({ s with pos := IntKind.i64.wrap (beV 8 (beC 16 c) - 1) }, beC 8 (beC 16 c))
      (cond (decide (beV 16 c = 2)) ({ s with lp := IntKind.i64.wrap (beV 4 (beC 16 c) - 1) }, beC 4 (beC 16 c))
        (cond (decide (beV 16 c = 3)) ({ s with heap := s.heap ++ [(xy 2 (beC 16 c)).1] }, (xy 2 (beC 16 c)).2) (s, beC 16 c))))
theorem lq (s : So) (c : Cur) : (spV s c).2.code = c.code := by
  unfold spV
  cases decide (beV 16 c = 0) <;> cases decide (beV 16 c = 1) <;> cases decide (beV 16 c = 2) <;> cases decide (beV 16 c = 3) <;> simp [y5, sy]
structure Dn (s : So) : Prop where
  sm : Sm 50 s
  w0 : 0 ≤ s.wr
  w1 : s.wr ≤ 1000
theorem eB {s : So} {w : Int} (c : Cur) (h : Dr s w) (hw : w ≤ 1000) : Dn (spV s c).1 := by
  obtain ⟨⟨h1, h2, h3, h4, h5, h6⟩, h7, h8⟩ := h
  unfold spV
  cases decide (beV 16 c = 0) <;> cases decide (beV 16 c = 1) <;> cases decide (beV 16 c = 2) <;> cases decide (beV 16 c = 3) <;>
    (refine ⟨⟨?_, ?_, ?_, ?_, ?_, ?_⟩, ?_, ?_⟩ <;> simp only [cond_true, cond_false, List.length_append, List.length_singleton] <;> omega)
noncomputable def tA (c : Cur) : So × Cur :=
  spV (stF (nsS (yp 9 c).1) (beC 60 (yp 9 c).2) (beV 60 (yp 9 c).2).toNat).1 (stF (nsS (yp 9 c).1) (beC 60 (yp 9 c).2) (beV 60 (yp 9 c).2).toNat).2
theorem kD {xs : List Rw} (h : xs.length ≤ 49) : Dr (nsS xs) 0 := by
  rw [nsS]
  cases avR xs
  · exact ⟨⟨Nat.zero_le _, Nat.zero_le _, Nat.zero_le _, Nat.zero_le _, Nat.zero_le _, Nat.zero_le _⟩, Int.le_refl 0, Int.le_refl 0⟩
  · exact ⟨⟨h, Nat.zero_le _, Nat.zero_le _, Nat.zero_le _, Nat.zero_le _, Nat.zero_le _⟩, Int.le_refl 0, Int.le_refl 0⟩
theorem nr (c : Cur) : (tA c).2.code = c.code ∧ Dn (tA c).1 := by
  have hr := sx (most := 9) (by decide) (by decide) c
  obtain ⟨b0, b1⟩ := wl (n := 60) (by decide) (yp 9 c).2
  have hd := px (s := nsS (yp 9 c).1) (beC 60 (yp 9 c).2) (kD (by omega)) (by decide) (beV 60 (yp 9 c).2).toNat (by omega)
  refine ⟨?_, eB _ hd (by omega)⟩
  rw [tA, lq, tx, y5, t9]
end Go.Proofs.Ytojcojanokhnaaa.Ab
namespace Go.Proofs.Ytojcojanokhnaaa.Ab
open Go.RowKit
theorem frzS {P : Program} {f : FuncId} {cargs : List V} {c c' : Cur} {R : Reg} {r r' : V} {al : Bool} (h : zy P f cargs [xT c] r [xT c', R] al) (hp : Pur true [xY (xT c'), R] r r') : zy P f cargs [xT c] r' [xT c'] true :=
  zy.frozenK (Rs := [xT c]) (Rs' := [xT c']) (K := [R]) h rfl (fun q hq => by simp at hq; subst hq; exact zk _) (fun i q q' h1 h2 h3 => by
    cases i with
    | zero => simp at h2; subst h2; rfl
    | succ i => simp at h2) hp
theorem gz (most : Int) (m0 : 0 ≤ most) (m1 : most ≤ 1000) (c : Cur) (hl : c.code.length ≤ 1000000000) : zy Go.Proofs.Try.prog 110 [.ptr 0 0, I most] [xT c] (rwL (yp most c).1) [xT (yp most c).2] true :=
  frzS (eo most m0 m1 c hl) (zq rfl)
abbrev soK (h : Nat) (s : So) : List V := [rwL s.input, I s.pos, .sl h 0 s.heap.length, rwL s.dfr, rwL s.out, rnL s.runs, I s.lp, I s.rp, I s.ph, I s.wr]
theorem gc {H : List Reg} {s : So} {h : Nat} (e : H[h]? = some (rwR s.heap)) : Pur true H (.agg (soK h s)) (.agg (soE s)) := .agg (.cons (.same rfl) (.cons (.same rfl) (.cons (zq e) (.cons (.same rfl) (.cons (.same rfl) (.cons (.same rfl) (.cons (.same rfl) (.cons (.same rfl) (.cons (.same rfl) (.cons (.same rfl) .nil))))))))))
theorem l5 {H : List Reg} {h : Nat} {xs : List Rw} (e : H[h]? = some { rwR xs with mode := 1 }) : Pur false H (.sl h 0 xs.length) (rwL xs) :=
  Pur.sl e (Or.inl rfl) (zJ rwT xs) rwT.pos (by show (0 + xs.length) * rwT.n ≤ (rwT.flat xs).length; rw [yH, Nat.zero_add]; exact Nat.le_refl _) (by
    show rwT.flat xs = ((rwT.flat xs).drop (0 * rwT.n)).take (xs.length * rwT.n)
    simp only [Nat.zero_mul, List.drop_zero]
    rw [← yH, List.take_length])
theorem ge {H : List Reg} {s : So} {h : Nat} (e : H[h]? = some { rwR s.heap with mode := 1 }) : Pur false H (.agg (soK h s)) (.agg (soE s)) := .agg (.cons (.same rfl) (.cons (.same rfl) (.cons (l5 e) (.cons (.same rfl) (.cons (.same rfl) (.cons (.same rfl) (.cons (.same rfl) (.cons (.same rfl) (.cons (.same rfl) (.cons (.same rfl) .nil))))))))))
theorem eQ {l : List V} {H : List Reg} {t : Tmp} {n h : Nat} {v r : V} {K0 K1 : Reg} (hne : h ≠ 0) (hv : CellIs l H t n v) (hr : Le [0, h] r v) (hH : HLes [0, h] H [0, h] [K0, K1]) :
    (Exit.ret = .ret ∨ Exit.ret = .normal) ∧ ∃ v, CellIs l H t n v ∧ Out true r [K0, K1] v ⟨l, H, 1⟩ := ⟨Or.inl rfl, v, hv, vm (S := ⟨l, H, 1⟩) [0, h] yZ (wX (by simp; exact fun e => hne e.symm) hH) hr (Or.inl rfl)⟩
theorem ez (c : Cur) (hl : c.code.length ≤ 1000000000) : zy Go.Proofs.Try.prog 54 [.ptr 0 0] [xT c] (.agg (soK 1 (tA c).1)) [xT (tA c).2, rwR (tA c).1.heap] true := by
  have e : tA c = spV (stF (nsS (yp 9 c).1) (beC 60 (yp 9 c).2) (beV 60 (yp 9 c).2).toNat).1 (stF (nsS (yp 9 c).1) (beC 60 (yp 9 c).2) (beV 60 (yp 9 c).2).toNat).2 := rfl
  have hr := sx (most := 9) (by decide) (by decide) c
  have hc1 := t9 9 c
  have b1 := gz 9 (by decide) (by decide) c hl
  generalize yp 9 c = p at hr hc1 b1 e
  obtain ⟨xs, c1⟩ := p
  simp only at hr hc1 b1 e
  obtain ⟨k0, k1⟩ := wl (n := 60) (by decide) c1
  have b2 := ef xs (by omega)
  have hd := kD (xs := xs) (by omega)
  generalize nsS xs = s0 at b2 hd e
  have b3 := xK 60 c1 (by rw [hc1]; exact hl)
  have hc2 : (beC 60 c1).code.length ≤ 1000000000 := by rw [y5, hc1]; exact hl
  obtain ⟨k, hk⟩ : ∃ k : Nat, beV 60 c1 = k := ⟨(beV 60 c1).toNat, by omega⟩
  rw [hk] at b3 e k0 k1
  generalize beC 60 c1 = c2 at b3 hc2 e
  rw [Int.toNat_natCast] at e
  refine xo 2 27 Go.Proofs.Try.func54 rfl rfl ?_
  simp only [Go.Proofs.Try.ntmps54, List.length_cons, List.length_nil, Nat.reduceAdd, Nat.reduceSub, List.replicate_succ, List.replicate_zero, List.cons_append, List.nil_append]
  repeat' first | refine zK ?_ | refine zA ?_ | refine zL [] ?_ | (refine isA ?_; refine zf rfl ?_) | (refine isL ?_; refine zU rfl (by kernel_rfl) rfl rfl ?_) | (refine zb rfl ?_; refine zT rfl (by kernel_rfl) rfl rfl ?_) | (refine zu 110 ?_; refine zc rfl (zn (K := []) (Rs' := [_]) [0] (by decide) rfl b1 (.cons rfl rfl rfl (zk _) (zk _) .nil) (.cons (.ptr rfl) (.cons (.same rfl) .nil)) (fun q hq => by cases hq) rfl) rfl ?_) | (refine zv 110 rfl ?_; refine zX rfl (by kernel_rfl) rfl (zn (K := []) (Rs' := [_]) [0] (by decide) rfl b1 (.cons rfl rfl rfl (zk _) (zk _) .nil) (.cons (.ptr rfl) (.cons (.same rfl) .nil)) (fun q hq => by cases hq) rfl) rfl ?_) | (refine zu 97 ?_; refine zc rfl (yd (r' := .tup [.agg (soK 2 s0), B (avR xs)]) (H' := [xT c1, bxS zS, rwR s0.heap]) rfl b2 (.cons (.same rfl) .nil) (fun q hq => by simp at hq; subst hq; exact zJ _ _) rfl rfl) rfl ?_) | (refine zv 97 rfl ?_; refine zX rfl (by kernel_rfl) rfl (yd (r' := .tup [.agg (soK 2 s0), B (avR xs)]) (H' := [xT c1, bxS zS, rwR s0.heap]) rfl b2 (.cons (.same rfl) .nil) (fun q hq => by simp at hq; subst hq; exact zJ _ _) rfl rfl) rfl ?_) | (refine zu 100 ?_; refine zc rfl (zn (K := []) (Rs' := [_]) [0] (by decide) rfl b3 (.cons rfl rfl rfl (zk _) (zk _) .nil) (.cons (.ptr rfl) (.cons (.same rfl) .nil)) (fun q hq => by cases hq) rfl) rfl ?_) | (refine zv 100 rfl ?_; refine zX rfl (by kernel_rfl) rfl (zn (K := []) (Rs' := [_]) [0] (by decide) rfl b3 (.cons rfl rfl rfl (zk _) (zk _) .nil) (.cons (.ptr rfl) (.cons (.same rfl) .nil)) (fun q hq => by cases hq) rfl) rfl ?_) | refine zD ?_ | refine zB _ rfl (by kernel_rfl) ?_ | refine zV rfl ?_ | refine zW rfl ?_ | refine zC ?_ | with_reducible refine zO ?_ | refine zH ?_ | refine zI ?_ | (with_reducible first | refine zM ?_ | refine zN ?_ | refine zE ?_ | refine zG ?_ | refine zF ?_) | refine zP ?_
  refine z9 (α := { p : Nat × (So × Cur) // p.1 ≤ k ∧ p.2 = stF s0 c2 p.1 }) (fun p => ⟨[.ptr 0 0, .any, .ptr 1 0, .ptr 2 0, .any, I ((k : Int) - p.1.1), .any, .any, .any, .any, .any, .any, .any, .any, .any, .any, .any, .any, .any, .any, .any, .any, .any, .any, .any, .any, .any, .any, .any, .any, .any, .any, .any, .any, .any, .any, .any, .any, .any, .any, .any, .any, .any, .any, .any, .any, .any, .any, .any, .any, .any, .any, .any, .any, .any, .any], [xT p.1.2.2, bxS zS, bxS (soK 3 p.1.2.1), rwR p.1.2.1.heap], 1⟩) (fun p => k - p.1.1) ⟨(0, (s0, c2)), Nat.zero_le _, rfl⟩ ?_ ?_
  · exact yy 1 [0, 1, 3, 2] rfl rfl yZ (by decide) (.cons rfl rfl rfl rfl (zY (zk _)) (.cons rfl rfl rfl rfl (z6 rfl) (.cons rfl rfl rfl rfl (by repeat' first | exact zg | refine zZ ?_ ?_ | exact zo | exact le_refl rfl | exact zj rfl rfl | exact zt rfl | exact zt (congrArg some (by simp [zm] <;> omega)) | exact zj rfl (by simp) | exact zj (congrArg some (by simp [zm] <;> omega)) rfl | exact zj (congrArg some (by simp [zm] <;> omega)) (by simp [yf, endV, yQ]) | exact z8 (congrArg _ (by assumption)) | exact z8 (congrArg _ (Eq.symm (by assumption)))) (.cons rfl rfl rfl rfl (zY (zJ _ _)) .nil)))) (by
      repeat' first | exact zg | refine zZ ?_ ?_ | exact zo | exact le_refl rfl | exact zt rfl | exact z8 (congrArg _ (by simp)))
  · rintro ⟨⟨j, t, d⟩, hj, ht⟩
    simp only at hj ht
    have htd := px c2 hd (by decide) j (by omega)
    have htc := tx s0 c2 j
    rw [← ht] at htd htc
    simp only at htd htc
    have hdl : d.code.length ≤ 1000000000 := by rw [htc]; exact hc2
    repeat' first | refine zK ?_ | refine zA ?_ | refine zL [] ?_ | (refine isA ?_; refine zf rfl ?_) | (refine isL ?_; refine zU rfl (by kernel_rfl) rfl rfl ?_) | (refine zb rfl ?_; refine zT rfl (by kernel_rfl) rfl rfl ?_) | refine zD ?_ | refine zB _ rfl (by kernel_rfl) ?_ | refine zV rfl ?_ | refine zW rfl ?_ | refine zC ?_ | with_reducible refine zO ?_ | refine zH ?_ | refine zI ?_ | (with_reducible first | refine zM ?_ | refine zN ?_ | refine zE ?_ | refine zG ?_ | refine zF ?_) | refine zP ?_
    refine zd rfl (fun h => ?_) (fun h => ?_)
    · have hlt : j < k := by have := of_decide_eq_true h; simp only at this; omega
      have g1 := wg [8, 9, 12, 20] d hdl (by decide)
      have g2 := gv htd.sm.ok9 (kB t (pkV [8, 9, 12, 20] d))
      have ht' : stF s0 c2 (j + 1) = (gf t (pkV [8, 9, 12, 20] d), beC 4 d) := by rw [stF, ← ht]
      generalize gf t (pkV [8, 9, 12, 20] d) = x at g2 ht'
      generalize oneR t (pkV [8, 9, 12, 20] d) = r at g2
      generalize fc t (pkV [8, 9, 12, 20] d) = b at g2
      generalize pkV [8, 9, 12, 20] d = g at g1 g2
      refine vu (tO (h := 3) (r := rwR t.heap) rfl rfl (by decide) (fun i hi => match i, hi with | 0, _ => ⟨_, rfl, rfl⟩)) ?_
      repeat' first | (refine ur 9 (fun H => H[2]? = some (bxS (soK 3 t))) 10 rfl (xt ?_)) | refine zK ?_ | refine zA ?_ | refine zL [] ?_ | (refine isA ?_; refine zf rfl ?_) | (refine isL ?_; refine zU rfl (by kernel_rfl) rfl rfl ?_) | (refine zb rfl ?_; refine zT rfl (by kernel_rfl) rfl rfl ?_) | refine zD ?_ | refine zB _ rfl (by kernel_rfl) ?_ | refine zV rfl ?_ | refine zW rfl ?_ | refine zC ?_ | with_reducible refine zO ?_ | refine zH ?_ | refine zI ?_ | (with_reducible first | refine zM ?_ | refine zN ?_ | refine zE ?_ | refine zG ?_ | refine zF ?_) | refine zP ?_
      refine we ?_
      refine sD 0 rfl (by kernel_rfl) rfl (by kernel_rfl) rfl (fun _ hG => lz rfl rfl hG rfl rfl rfl) rfl ?_
      refine ye 1 (Or.inr rfl) rfl rfl (by kernel_rfl) rfl (fun _ => rfl) rfl ?_
      refine p9 2 (Or.inr rfl) rfl rfl (by kernel_rfl) rfl (fun _ => yN (cs := [8, 9, 12, 20].map I) rfl rfl rfl rfl rfl) rfl ?_
      refine wo 3 (by kernel_rfl) rfl rfl (zn (K := []) (Rs' := [_]) [0] (by decide) rfl g1 (.cons rfl rfl rfl (zk _) (zk _) .nil) (.cons (.ptr rfl) (.cons (.same rfl) .nil)) (fun q hq => by cases hq) rfl) (Or.inr rfl) rfl ?_
      refine wo 4 (by kernel_rfl) rfl rfl (yd (r' := .tup [.agg (soK 4 x), rwL r, B b]) (H' := [xT (beC 4 d), bxS zS, bxS (soK 3 t), { rwR t.heap with mode := 1 }, rwR x.heap]) rfl g2 (.cons (ge rfl) (.cons (.same rfl) .nil)) (fun q hq => by simp at hq; subst hq; exact zJ _ _) rfl rfl) (Or.inr rfl) rfl ?_
      refine ye 5 (Or.inr rfl) rfl rfl (by kernel_rfl) rfl (fun _ => rfl) rfl ?_
      refine ye 6 (Or.inr rfl) rfl rfl (by kernel_rfl) rfl (fun _ => rfl) rfl ?_
      refine ye 7 (Or.inr rfl) rfl rfl (by kernel_rfl) rfl (fun _ => rfl) rfl ?_
      refine ye 8 (Or.inr rfl) rfl rfl (by kernel_rfl) rfl (fun _ => rfl) rfl ?_
      refine x3 9 (by kernel_rfl) rfl rfl rfl (Or.inl (by kernel_rfl)) rfl ?_
      refine vH (by kernel_rfl) ?_
      repeat' first | refine zK ?_ | refine zA ?_ | refine zL [] ?_ | (refine isA ?_; refine zf rfl ?_) | (refine isL ?_; refine zU rfl (by kernel_rfl) rfl rfl ?_) | (refine zb rfl ?_; refine zT rfl (by kernel_rfl) rfl rfl ?_) | refine zD ?_ | refine zB _ rfl (by kernel_rfl) ?_ | refine zV rfl ?_ | refine zW rfl ?_ | refine zC ?_ | with_reducible refine zO ?_ | refine zH ?_ | refine zI ?_ | (with_reducible first | refine zM ?_ | refine zN ?_ | refine zE ?_ | refine zG ?_ | refine zF ?_) | refine zP ?_
      refine ⟨⟨(j + 1, (x, beC 4 d)), hlt, ht'.symm⟩, by simp only; omega, ?_⟩
      exact yy 1 [0, 1, 2, 4] rfl rfl yZ (by decide) (.cons rfl rfl rfl rfl (zY (zk _)) (.cons rfl rfl rfl rfl (z6 rfl) (.cons rfl rfl rfl rfl (by repeat' first | exact zg | refine zZ ?_ ?_ | exact zo | exact le_refl rfl | exact zj rfl rfl | exact zt rfl | exact zt (congrArg some (by simp [zm] <;> omega)) | exact zj rfl (by simp) | exact zj (congrArg some (by simp [zm] <;> omega)) rfl | exact zj (congrArg some (by simp [zm] <;> omega)) (by simp [yf, endV, yQ]) | exact z8 (congrArg _ (by assumption)) | exact z8 (congrArg _ (Eq.symm (by assumption)))) (.cons rfl rfl rfl rfl (zY (zJ _ _)) .nil)))) (by
        repeat' first | exact zg | refine zZ ?_ ?_ | exact zo | exact le_refl rfl | exact zt rfl | exact z8 (congrArg _ (show (k : Int) - ((j + 1 : Nat) : Int) = IntKind.i64.wrap ((k : Int) - (j : Int) - 1) by rw [IntKind.wrap_i64]; omega)))
    · have hge : j = k := by have := of_decide_eq_false h; simp only at this; omega
      subst hge
      rw [← ht] at e
      simp only at e
      have f1 := xK 16 d hdl
      have hd6 : (beC 16 d).code.length ≤ 1000000000 := by rw [y5]; exact hdl
      repeat' first | (refine xW 6 ⟨[.ptr 0 0, .any, .ptr 1 0, .ptr 2 0, .any, .any, .any, .any, .any, .any, .any, .any, .any, .any, .any, .any, .any, .any, .any, .any, .any, .any, .any, .any, .any, .any, .any, .any, .any, .any, .any, .any, .any, .any, .any, .any, .any, .any, .any, .any, .any, .any, .any, .any, .any, .any, .any, .any, .any, .any, .any, .any, .any, .any, .any, .any], [xT (spV t d).2, bxS zS, bxS (soK 3 (spV t d).1), rwR (spV t d).1.heap], 1⟩ (xt ?_) ?_) | refine zK ?_ | refine zA ?_ | refine zL [] ?_ | (refine isA ?_; refine zf rfl ?_) | (refine isL ?_; refine zU rfl (by kernel_rfl) rfl rfl ?_) | (refine zb rfl ?_; refine zT rfl (by kernel_rfl) rfl rfl ?_) | (refine zu 100 ?_; refine zc rfl (zn (K := []) (Rs' := [_]) [0] (by decide) rfl f1 (.cons rfl rfl rfl (zk _) (zk _) .nil) (.cons (.ptr rfl) (.cons (.same rfl) .nil)) (fun q hq => by cases hq) rfl) rfl ?_) | (refine zv 100 rfl ?_; refine zX rfl (by kernel_rfl) rfl (zn (K := []) (Rs' := [_]) [0] (by decide) rfl f1 (.cons rfl rfl rfl (zk _) (zk _) .nil) (.cons (.ptr rfl) (.cons (.same rfl) .nil)) (fun q hq => by cases hq) rfl) rfl ?_) | refine zD ?_ | refine zB _ rfl (by kernel_rfl) ?_ | refine zV rfl ?_ | refine zW rfl ?_ | refine zC ?_ | with_reducible refine zO ?_ | refine zH ?_ | refine zI ?_ | (with_reducible first | refine zM ?_ | refine zN ?_ | refine zE ?_ | refine zG ?_ | refine zF ?_) | refine zP ?_
      · refine we ?_
        repeat' first | refine zK ?_ | refine zA ?_ | refine zL [] ?_ | (refine isA ?_; refine zf rfl ?_) | (refine isL ?_; refine zU rfl (by kernel_rfl) rfl rfl ?_) | (refine zb rfl ?_; refine zT rfl (by kernel_rfl) rfl rfl ?_) | (refine zu 100 ?_; refine zc rfl (zn (K := []) (Rs' := [_]) [0] (by decide) rfl f1 (.cons rfl rfl rfl (zk _) (zk _) .nil) (.cons (.ptr rfl) (.cons (.same rfl) .nil)) (fun q hq => by cases hq) rfl) rfl ?_) | (refine zv 100 rfl ?_; refine zX rfl (by kernel_rfl) rfl (zn (K := []) (Rs' := [_]) [0] (by decide) rfl f1 (.cons rfl rfl rfl (zk _) (zk _) .nil) (.cons (.ptr rfl) (.cons (.same rfl) .nil)) (fun q hq => by cases hq) rfl) rfl ?_) | refine zD ?_ | refine zB _ rfl (by kernel_rfl) ?_ | refine zV rfl ?_ | refine zW rfl ?_ | refine zC ?_ | with_reducible refine zO ?_ | refine zH ?_ | refine zI ?_ | (with_reducible first | refine zM ?_ | refine zN ?_ | refine zE ?_ | refine zG ?_ | refine zF ?_) | refine zP ?_
        refine zd rfl (fun b0 => ?_) (fun b0 => ?_)
        · skip
          have D : spV t d = ({ t with ph := beV 6 (beC 16 d) }, beC 6 (beC 16 d)) := by rw [spV, b0]; rfl
          rw [D]
          repeat' first | refine zK ?_ | refine zA ?_ | refine zL [] ?_ | (refine isA ?_; refine zf rfl ?_) | (refine isL ?_; refine zU rfl (by kernel_rfl) rfl rfl ?_) | (refine zb rfl ?_; refine zT rfl (by kernel_rfl) rfl rfl ?_) | (refine zu 100 ?_; refine zc rfl (zn (K := []) (Rs' := [_]) [0] (by decide) rfl (xK 6 (beC 16 d) hd6) (.cons rfl rfl rfl (zk _) (zk _) .nil) (.cons (.ptr rfl) (.cons (.same rfl) .nil)) (fun q hq => by cases hq) rfl) rfl ?_) | (refine zv 100 rfl ?_; refine zX rfl (by kernel_rfl) rfl (zn (K := []) (Rs' := [_]) [0] (by decide) rfl (xK 6 (beC 16 d) hd6) (.cons rfl rfl rfl (zk _) (zk _) .nil) (.cons (.ptr rfl) (.cons (.same rfl) .nil)) (fun q hq => by cases hq) rfl) rfl ?_) | refine zD ?_ | refine zB _ rfl (by kernel_rfl) ?_ | refine zV rfl ?_ | refine zW rfl ?_ | refine zC ?_ | with_reducible refine zO ?_ | refine zH ?_ | refine zI ?_ | (with_reducible first | refine zM ?_ | refine zN ?_ | refine zE ?_ | refine zG ?_ | refine zF ?_) | refine zP ?_
          exact ⟨rfl, yy 1 [0, 1, 2, 3] rfl rfl yZ (by decide) (.cons rfl rfl rfl rfl (zY (zk _)) (.cons rfl rfl rfl rfl (z6 rfl) (.cons rfl rfl rfl rfl (by repeat' first | exact zg | refine zZ ?_ ?_ | exact zo | exact le_refl rfl | exact zj rfl rfl | exact zt rfl | exact zt (congrArg some (by simp [zm] <;> omega)) | exact zj rfl (by simp) | exact zj (congrArg some (by simp [zm] <;> omega)) rfl | exact zj (congrArg some (by simp [zm] <;> omega)) (by simp [yf, endV, yQ]) | exact z8 (congrArg _ (by assumption)) | exact z8 (congrArg _ (Eq.symm (by assumption)))) (.cons rfl rfl rfl rfl (zY (zJ _ _)) .nil)))) (by repeat' first | exact zg | refine zZ ?_ ?_ | exact zo | exact le_refl rfl | exact zt rfl)⟩
        · repeat' first | refine zK ?_ | refine zA ?_ | refine zL [] ?_ | (refine isA ?_; refine zf rfl ?_) | (refine isL ?_; refine zU rfl (by kernel_rfl) rfl rfl ?_) | (refine zb rfl ?_; refine zT rfl (by kernel_rfl) rfl rfl ?_) | refine zD ?_ | refine zB _ rfl (by kernel_rfl) ?_ | refine zV rfl ?_ | refine zW rfl ?_ | refine zC ?_ | with_reducible refine zO ?_ | refine zH ?_ | refine zI ?_ | (with_reducible first | refine zM ?_ | refine zN ?_ | refine zE ?_ | refine zG ?_ | refine zF ?_) | refine zP ?_
          refine zd rfl (fun b1 => ?_) (fun b1 => ?_)
          · skip
            have D : spV t d = ({ t with pos := IntKind.i64.wrap (beV 8 (beC 16 d) - 1) }, beC 8 (beC 16 d)) := by rw [spV, b0, b1]; rfl
            rw [D]
            repeat' first | refine zK ?_ | refine zA ?_ | refine zL [] ?_ | (refine isA ?_; refine zf rfl ?_) | (refine isL ?_; refine zU rfl (by kernel_rfl) rfl rfl ?_) | (refine zb rfl ?_; refine zT rfl (by kernel_rfl) rfl rfl ?_) | (refine zu 100 ?_; refine zc rfl (zn (K := []) (Rs' := [_]) [0] (by decide) rfl (xK 8 (beC 16 d) hd6) (.cons rfl rfl rfl (zk _) (zk _) .nil) (.cons (.ptr rfl) (.cons (.same rfl) .nil)) (fun q hq => by cases hq) rfl) rfl ?_) | (refine zv 100 rfl ?_; refine zX rfl (by kernel_rfl) rfl (zn (K := []) (Rs' := [_]) [0] (by decide) rfl (xK 8 (beC 16 d) hd6) (.cons rfl rfl rfl (zk _) (zk _) .nil) (.cons (.ptr rfl) (.cons (.same rfl) .nil)) (fun q hq => by cases hq) rfl) rfl ?_) | refine zD ?_ | refine zB _ rfl (by kernel_rfl) ?_ | refine zV rfl ?_ | refine zW rfl ?_ | refine zC ?_ | with_reducible refine zO ?_ | refine zH ?_ | refine zI ?_ | (with_reducible first | refine zM ?_ | refine zN ?_ | refine zE ?_ | refine zG ?_ | refine zF ?_) | refine zP ?_
            exact ⟨rfl, yy 1 [0, 1, 2, 3] rfl rfl yZ (by decide) (.cons rfl rfl rfl rfl (zY (zk _)) (.cons rfl rfl rfl rfl (z6 rfl) (.cons rfl rfl rfl rfl (by repeat' first | exact zg | refine zZ ?_ ?_ | exact zo | exact le_refl rfl | exact zj rfl rfl | exact zt rfl | exact zt (congrArg some (by simp [zm] <;> omega)) | exact zj rfl (by simp) | exact zj (congrArg some (by simp [zm] <;> omega)) rfl | exact zj (congrArg some (by simp [zm] <;> omega)) (by simp [yf, endV, yQ]) | exact z8 (congrArg _ (by assumption)) | exact z8 (congrArg _ (Eq.symm (by assumption)))) (.cons rfl rfl rfl rfl (zY (zJ _ _)) .nil)))) (by repeat' first | exact zg | refine zZ ?_ ?_ | exact zo | exact le_refl rfl | exact zt rfl)⟩
          · repeat' first | refine zK ?_ | refine zA ?_ | refine zL [] ?_ | (refine isA ?_; refine zf rfl ?_) | (refine isL ?_; refine zU rfl (by kernel_rfl) rfl rfl ?_) | (refine zb rfl ?_; refine zT rfl (by kernel_rfl) rfl rfl ?_) | refine zD ?_ | refine zB _ rfl (by kernel_rfl) ?_ | refine zV rfl ?_ | refine zW rfl ?_ | refine zC ?_ | with_reducible refine zO ?_ | refine zH ?_ | refine zI ?_ | (with_reducible first | refine zM ?_ | refine zN ?_ | refine zE ?_ | refine zG ?_ | refine zF ?_) | refine zP ?_
            refine zd rfl (fun b2 => ?_) (fun b2 => ?_)
            · skip
              have D : spV t d = ({ t with lp := IntKind.i64.wrap (beV 4 (beC 16 d) - 1) }, beC 4 (beC 16 d)) := by rw [spV, b0, b1, b2]; rfl
              rw [D]
              repeat' first | refine zK ?_ | refine zA ?_ | refine zL [] ?_ | (refine isA ?_; refine zf rfl ?_) | (refine isL ?_; refine zU rfl (by kernel_rfl) rfl rfl ?_) | (refine zb rfl ?_; refine zT rfl (by kernel_rfl) rfl rfl ?_) | (refine zu 100 ?_; refine zc rfl (zn (K := []) (Rs' := [_]) [0] (by decide) rfl (xK 4 (beC 16 d) hd6) (.cons rfl rfl rfl (zk _) (zk _) .nil) (.cons (.ptr rfl) (.cons (.same rfl) .nil)) (fun q hq => by cases hq) rfl) rfl ?_) | (refine zv 100 rfl ?_; refine zX rfl (by kernel_rfl) rfl (zn (K := []) (Rs' := [_]) [0] (by decide) rfl (xK 4 (beC 16 d) hd6) (.cons rfl rfl rfl (zk _) (zk _) .nil) (.cons (.ptr rfl) (.cons (.same rfl) .nil)) (fun q hq => by cases hq) rfl) rfl ?_) | refine zD ?_ | refine zB _ rfl (by kernel_rfl) ?_ | refine zV rfl ?_ | refine zW rfl ?_ | refine zC ?_ | with_reducible refine zO ?_ | refine zH ?_ | refine zI ?_ | (with_reducible first | refine zM ?_ | refine zN ?_ | refine zE ?_ | refine zG ?_ | refine zF ?_) | refine zP ?_
              exact ⟨rfl, yy 1 [0, 1, 2, 3] rfl rfl yZ (by decide) (.cons rfl rfl rfl rfl (zY (zk _)) (.cons rfl rfl rfl rfl (z6 rfl) (.cons rfl rfl rfl rfl (by repeat' first | exact zg | refine zZ ?_ ?_ | exact zo | exact le_refl rfl | exact zj rfl rfl | exact zt rfl | exact zt (congrArg some (by simp [zm] <;> omega)) | exact zj rfl (by simp) | exact zj (congrArg some (by simp [zm] <;> omega)) rfl | exact zj (congrArg some (by simp [zm] <;> omega)) (by simp [yf, endV, yQ]) | exact z8 (congrArg _ (by assumption)) | exact z8 (congrArg _ (Eq.symm (by assumption)))) (.cons rfl rfl rfl rfl (zY (zJ _ _)) .nil)))) (by repeat' first | exact zg | refine zZ ?_ ?_ | exact zo | exact le_refl rfl | exact zt rfl)⟩
            · repeat' first | refine zK ?_ | refine zA ?_ | refine zL [] ?_ | (refine isA ?_; refine zf rfl ?_) | (refine isL ?_; refine zU rfl (by kernel_rfl) rfl rfl ?_) | (refine zb rfl ?_; refine zT rfl (by kernel_rfl) rfl rfl ?_) | refine zD ?_ | refine zB _ rfl (by kernel_rfl) ?_ | refine zV rfl ?_ | refine zW rfl ?_ | refine zC ?_ | with_reducible refine zO ?_ | refine zH ?_ | refine zI ?_ | (with_reducible first | refine zM ?_ | refine zN ?_ | refine zE ?_ | refine zG ?_ | refine zF ?_) | refine zP ?_
              refine zd rfl (fun b3 => ?_) (fun b3 => ?_)
              · skip
                have D : spV t d = ({ t with heap := t.heap ++ [(xy 2 (beC 16 d)).1] }, (xy 2 (beC 16 d)).2) := by rw [spV, b0, b1, b2, b3]; rfl
                rw [D]
                have f2 := jp 2 (beC 16 d) hd6
                repeat' first | (refine ur 7 (fun H => H[2]? = some (bxS (soK 3 t))) 8 rfl (xt ?_)) | refine zK ?_ | refine zA ?_ | refine zL [] ?_ | (refine isA ?_; refine zf rfl ?_) | (refine isL ?_; refine zU rfl (by kernel_rfl) rfl rfl ?_) | (refine zb rfl ?_; refine zT rfl (by kernel_rfl) rfl rfl ?_) | refine zD ?_ | refine zB _ rfl (by kernel_rfl) ?_ | refine zV rfl ?_ | refine zW rfl ?_ | refine zC ?_ | with_reducible refine zO ?_ | refine zH ?_ | refine zI ?_ | (with_reducible first | refine zM ?_ | refine zN ?_ | refine zE ?_ | refine zG ?_ | refine zF ?_) | refine zP ?_
                refine we ?_
                refine ye 0 (Or.inr rfl) rfl rfl (by kernel_rfl) rfl (fun _ => rfl) rfl ?_
                refine sD 1 rfl (by kernel_rfl) rfl (by kernel_rfl) rfl (fun _ hG => xl rfl rfl hG rfl rfl) rfl ?_
                refine ye 2 (Or.inr rfl) rfl rfl (by kernel_rfl) rfl (fun _ => rfl) rfl ?_
                refine wo 3 (by kernel_rfl) rfl rfl (zn (K := []) (Rs' := [_]) [0] (by decide) rfl f2 (.cons rfl rfl rfl (zk _) (zk _) .nil) (.cons (.ptr rfl) (.cons (.same rfl) .nil)) (fun q hq => by cases hq) rfl) (Or.inr rfl) rfl ?_
                refine p9 4 (Or.inr rfl) rfl rfl (by kernel_rfl) rfl (fun _ => yN rfl rfl rfl rfl rfl) rfl ?_
                refine wo 5 (by kernel_rfl) rfl rfl (yX (t := rwT) (xs := t.heap) (ys := [(xy 2 (beC 16 d)).1]) rfl rfl rfl rfl (.lst _ _) (by have := htd.sm.heap; simp; omega) rfl) (Or.inr rfl) rfl ?_
                refine ye 6 (Or.inr rfl) rfl rfl (by kernel_rfl) rfl (fun _ => rfl) rfl ?_
                refine x3 7 (by kernel_rfl) rfl rfl rfl (Or.inl (by kernel_rfl)) rfl ?_
                refine vH (by kernel_rfl) ?_
                repeat' first | refine zK ?_ | refine zA ?_ | refine zL [] ?_ | (refine isA ?_; refine zf rfl ?_) | (refine isL ?_; refine zU rfl (by kernel_rfl) rfl rfl ?_) | (refine zb rfl ?_; refine zT rfl (by kernel_rfl) rfl rfl ?_) | refine zD ?_ | refine zB _ rfl (by kernel_rfl) ?_ | refine zV rfl ?_ | refine zW rfl ?_ | refine zC ?_ | with_reducible refine zO ?_ | refine zH ?_ | refine zI ?_ | (with_reducible first | refine zM ?_ | refine zN ?_ | refine zE ?_ | refine zG ?_ | refine zF ?_) | refine zP ?_
                exact ⟨rfl, yy 1 [0, 1, 2, 4] rfl rfl yZ (by decide) (.cons rfl rfl rfl rfl (zY (zk _)) (.cons rfl rfl rfl rfl (z6 rfl) (.cons rfl rfl rfl rfl (by repeat' first | exact zg | refine zZ ?_ ?_ | exact zo | exact le_refl rfl | exact zj rfl rfl | exact zt rfl | exact zt (congrArg some (by simp [zm] <;> omega)) | exact zj rfl (by simp) | exact zj (congrArg some (by simp [zm] <;> omega)) rfl | exact zj (congrArg some (by simp [zm] <;> omega)) (by simp [yf, endV, yQ]) | exact z8 (congrArg _ (by assumption)) | exact z8 (congrArg _ (Eq.symm (by assumption)))) (.cons rfl rfl rfl rfl (zY (zJ _ _)) .nil)))) (by repeat' first | exact zg | refine zZ ?_ ?_ | exact zo | exact le_refl rfl | exact zt rfl)⟩
              · skip
                have D : spV t d = (t, beC 16 d) := by rw [spV, b0, b1, b2, b3]; rfl
                rw [D]
                repeat' first | refine zK ?_ | refine zA ?_ | refine zL [] ?_ | (refine isA ?_; refine zf rfl ?_) | (refine isL ?_; refine zU rfl (by kernel_rfl) rfl rfl ?_) | (refine zb rfl ?_; refine zT rfl (by kernel_rfl) rfl rfl ?_) | refine zD ?_ | refine zB _ rfl (by kernel_rfl) ?_ | refine zV rfl ?_ | refine zW rfl ?_ | refine zC ?_ | with_reducible refine zO ?_ | refine zH ?_ | refine zI ?_ | (with_reducible first | refine zM ?_ | refine zN ?_ | refine zE ?_ | refine zG ?_ | refine zF ?_) | refine zP ?_
                exact ⟨rfl, yy 1 [0, 1, 2, 3] rfl rfl yZ (by decide) (.cons rfl rfl rfl rfl (zY (zk _)) (.cons rfl rfl rfl rfl (z6 rfl) (.cons rfl rfl rfl rfl (by repeat' first | exact zg | refine zZ ?_ ?_ | exact zo | exact le_refl rfl | exact zj rfl rfl | exact zt rfl | exact zt (congrArg some (by simp [zm] <;> omega)) | exact zj rfl (by simp) | exact zj (congrArg some (by simp [zm] <;> omega)) rfl | exact zj (congrArg some (by simp [zm] <;> omega)) (by simp [yf, endV, yQ]) | exact z8 (congrArg _ (by assumption)) | exact z8 (congrArg _ (Eq.symm (by assumption)))) (.cons rfl rfl rfl rfl (zY (zJ _ _)) .nil)))) (by repeat' first | exact zg | refine zZ ?_ ?_ | exact zo | exact le_refl rfl | exact zt rfl)⟩
      · rw [e]
        exact eQ (h := 3) (by decide) (yS rfl rfl rfl rfl rfl) (qX (by repeat' first | exact zg | refine zZ ?_ ?_ | exact zo | exact le_refl rfl | exact zj rfl rfl | exact zt rfl | exact zt (congrArg some (by simp [zm] <;> omega)) | exact zj rfl (by simp) | exact zj (congrArg some (by simp [zm] <;> omega)) rfl | exact zj (congrArg some (by simp [zm] <;> omega)) (by simp [yf, endV, yQ]) | exact z8 (congrArg _ (by assumption)) | exact z8 (congrArg _ (Eq.symm (by assumption))))) (.cons rfl rfl rfl rfl (zY (zk _)) (.cons rfl rfl rfl rfl (zY (zJ _ _)) .nil))
end Go.Proofs.Ytojcojanokhnaaa.Ab
namespace Go.Proofs.Ytojcojanokhnaaa.Ab
open Go.RowKit
def grD (c : Cur) : Int × Cur := cond (decide (beV 14 c = 0)) (pkV [7, 61] (beC 14 c), beC 2 (beC 14 c)) (pkV [8, 8, 9, 12, 20, 60] (beC 14 c), beC 6 (beC 14 c))
theorem fA (c : Cur) (hl : c.code.length ≤ 1000000000) : zy Go.Proofs.Try.prog 55 [.ptr 0 0] [xT c] (I (grD c).1) [xT (grD c).2] true := by
  have h1 : (beC 14 c).code.length ≤ 1000000000 := by rw [y5]; exact hl
  refine zw [2] Go.Proofs.Try.func55 rfl rfl ?_
  simp only [Go.Proofs.Try.ntmps55, List.length_cons, List.length_nil, Nat.reduceAdd, Nat.reduceSub, List.replicate_succ, List.replicate_zero, List.cons_append, List.nil_append]
  repeat' first | refine zK ?_ | refine zA ?_ | refine zL [] ?_ | (refine isA ?_; refine zf rfl ?_) | (refine isL ?_; refine zU rfl (by kernel_rfl) rfl rfl ?_) | (refine zb rfl ?_; refine zT rfl (by kernel_rfl) rfl rfl ?_) | (refine zu 113 ?_; refine zc rfl (zn (K := []) (Rs' := [_]) [0] (by decide) rfl (jr 14 c hl) (.cons rfl rfl rfl (zk _) (zk _) .nil) (.cons (.ptr rfl) (.cons (.same rfl) .nil)) (fun q hq => by cases hq) rfl) rfl ?_) | (refine zv 113 rfl ?_; refine zX rfl (by kernel_rfl) rfl (zn (K := []) (Rs' := [_]) [0] (by decide) rfl (jr 14 c hl) (.cons rfl rfl rfl (zk _) (zk _) .nil) (.cons (.ptr rfl) (.cons (.same rfl) .nil)) (fun q hq => by cases hq) rfl) rfl ?_) | refine zD ?_ | refine zB _ rfl (by kernel_rfl) ?_ | refine zV rfl ?_ | refine zW rfl ?_ | refine zC ?_ | with_reducible refine zO ?_ | refine zH ?_ | refine zI ?_ | (with_reducible first | refine zM ?_ | refine zN ?_ | refine zE ?_ | refine zG ?_ | refine zF ?_) | refine zP ?_
  refine zd rfl (fun b0 => ?_) (fun b0 => ?_)
  · skip
    have D : grD c = (pkV [7, 61] (beC 14 c), beC 2 (beC 14 c)) := by rw [grD, b0]; rfl
    repeat' first | (refine isA ?_; refine zc rfl (yN (cs := [7, 61].map I) rfl rfl rfl rfl rfl) rfl ?_) | refine zK ?_ | refine zA ?_ | refine zL [] ?_ | (refine isA ?_; refine zf rfl ?_) | (refine isL ?_; refine zU rfl (by kernel_rfl) rfl rfl ?_) | (refine zb rfl ?_; refine zT rfl (by kernel_rfl) rfl rfl ?_) | (refine zu 111 ?_; refine zc rfl (zn (K := []) (Rs' := [_]) [0] (by decide) rfl (wg [7, 61] (beC 14 c) h1 (by decide)) (.cons rfl rfl rfl (zk _) (zk _) .nil) (.cons (.ptr rfl) (.cons (.same rfl) .nil)) (fun q hq => by cases hq) rfl) rfl ?_) | (refine zv 111 rfl ?_; refine zX rfl (by kernel_rfl) rfl (zn (K := []) (Rs' := [_]) [0] (by decide) rfl (wg [7, 61] (beC 14 c) h1 (by decide)) (.cons rfl rfl rfl (zk _) (zk _) .nil) (.cons (.ptr rfl) (.cons (.same rfl) .nil)) (fun q hq => by cases hq) rfl) rfl ?_) | exact (by rw [D]; exact tH 1 [0] yZ (by decide) rfl (le_refl rfl) (.cons rfl rfl rfl rfl (zY (zk _)) .nil)) | refine zD ?_ | refine zB _ rfl (by kernel_rfl) ?_ | refine zV rfl ?_ | refine zW rfl ?_ | refine zC ?_ | with_reducible refine zO ?_ | refine zH ?_ | refine zI ?_ | (with_reducible first | refine zM ?_ | refine zN ?_ | refine zE ?_ | refine zG ?_ | refine zF ?_) | refine zP ?_
  · skip
    have D : grD c = (pkV [8, 8, 9, 12, 20, 60] (beC 14 c), beC 6 (beC 14 c)) := by rw [grD, b0]; rfl
    repeat' first | (refine isA ?_; refine zc rfl (yN (cs := [8, 8, 9, 12, 20, 60].map I) rfl rfl rfl rfl rfl) rfl ?_) | refine zK ?_ | refine zA ?_ | refine zL [] ?_ | (refine isA ?_; refine zf rfl ?_) | (refine isL ?_; refine zU rfl (by kernel_rfl) rfl rfl ?_) | (refine zb rfl ?_; refine zT rfl (by kernel_rfl) rfl rfl ?_) | (refine zu 111 ?_; refine zc rfl (zn (K := []) (Rs' := [_]) [0] (by decide) rfl (wg [8, 8, 9, 12, 20, 60] (beC 14 c) h1 (by decide)) (.cons rfl rfl rfl (zk _) (zk _) .nil) (.cons (.ptr rfl) (.cons (.same rfl) .nil)) (fun q hq => by cases hq) rfl) rfl ?_) | (refine zv 111 rfl ?_; refine zX rfl (by kernel_rfl) rfl (zn (K := []) (Rs' := [_]) [0] (by decide) rfl (wg [8, 8, 9, 12, 20, 60] (beC 14 c) h1 (by decide)) (.cons rfl rfl rfl (zk _) (zk _) .nil) (.cons (.ptr rfl) (.cons (.same rfl) .nil)) (fun q hq => by cases hq) rfl) rfl ?_) | exact (by rw [D]; exact tH 1 [0] yZ (by decide) rfl (le_refl rfl) (.cons rfl rfl rfl rfl (zY (zk _)) .nil)) | refine zD ?_ | refine zB _ rfl (by kernel_rfl) ?_ | refine zV rfl ?_ | refine zW rfl ?_ | refine zC ?_ | with_reducible refine zO ?_ | refine zH ?_ | refine zI ?_ | (with_reducible first | refine zM ?_ | refine zN ?_ | refine zE ?_ | refine zG ?_ | refine zF ?_) | refine zP ?_
noncomputable def m7 (xs : List Int) : So := (tA (ta xs)).1
noncomputable def jg (xs : List Int) : Int := (grD (tA (ta xs)).2).1
theorem eU (xs : List Int) : Dn (m7 xs) := (nr _).2
theorem hM (xs : List Int) (hl : xs.length ≤ 1000000000) : zy Go.Proofs.Try.prog 12 [xp u8T xs] [] (.tup [.agg (soE (m7 xs)), I (jg xs)]) [] true := by
  have k0 : (ta xs).code.length ≤ 1000000000 := hl
  have b1 := frzS (ez (ta xs) k0) (gc (h := 1) rfl)
  obtain ⟨kc, _⟩ := nr (ta xs)
  have hD : m7 xs = (tA (ta xs)).1 := rfl
  have hG : jg xs = (grD (tA (ta xs)).2).1 := rfl
  rw [hD, hG]
  have k1 : (tA (ta xs)).2.code.length ≤ 1000000000 := by rw [kc]; exact k0
  generalize tA (ta xs) = p at b1 k1
  have b2 := fA p.2 k1
  refine yV 2 27 [3] Go.Proofs.Try.func12 rfl rfl rfl ?_
  simp only [Go.Proofs.Try.ntmps12, List.length_cons, List.length_nil, Nat.reduceAdd, Nat.reduceSub, List.replicate_succ, List.replicate_zero, List.cons_append, List.nil_append]
  repeat' first | refine zK ?_ | refine zA ?_ | refine zL [] ?_ | (refine isA ?_; refine zf rfl ?_) | (refine isL ?_; refine zU rfl (by kernel_rfl) rfl rfl ?_) | (refine zb rfl ?_; refine zT rfl (by kernel_rfl) rfl rfl ?_) | (refine zu 53 ?_; refine zc rfl (yd rfl (fw xs hl) (.cons (.same rfl) .nil) (fun q hq => by simp at hq; subst hq; exact zk _) rfl rfl) rfl ?_) | (refine zv 53 rfl ?_; refine zX rfl (by kernel_rfl) rfl (yd rfl (fw xs hl) (.cons (.same rfl) .nil) (fun q hq => by simp at hq; subst hq; exact zk _) rfl rfl) rfl ?_) | (refine zu 54 ?_; refine zc rfl (zn (K := []) (Rs' := [_]) [1] (by decide) rfl b1 (.cons rfl rfl rfl (zk _) (zk _) .nil) (.cons (.ptr rfl) .nil) (fun q hq => by cases hq) rfl) rfl ?_) | (refine zv 54 rfl ?_; refine zX rfl (by kernel_rfl) rfl (zn (K := []) (Rs' := [_]) [1] (by decide) rfl b1 (.cons rfl rfl rfl (zk _) (zk _) .nil) (.cons (.ptr rfl) .nil) (fun q hq => by cases hq) rfl) rfl ?_) | (refine zu 55 ?_; refine zc rfl (zn (K := []) (Rs' := [_]) [1] (by decide) rfl b2 (.cons rfl rfl rfl (zk _) (zk _) .nil) (.cons (.ptr rfl) .nil) (fun q hq => by cases hq) rfl) rfl ?_) | (refine zv 55 rfl ?_; refine zX rfl (by kernel_rfl) rfl (zn (K := []) (Rs' := [_]) [1] (by decide) rfl b2 (.cons rfl rfl rfl (zk _) (zk _) .nil) (.cons (.ptr rfl) .nil) (fun q hq => by cases hq) rfl) rfl ?_) | exact ny (yS rfl rfl rfl rfl rfl) (.tup (.cons (.agg (by repeat' first | exact Purs.nil | refine Purs.cons ?_ ?_ | exact zq rfl | exact yL rfl rfl | exact zq (T := rwT) (x := []) rfl | exact Pur.nil | exact Pur.same rfl | exact yk (by assumption))) (.cons (.same rfl) .nil))) | refine zD ?_ | refine zB _ rfl (by kernel_rfl) ?_ | refine zV rfl ?_ | refine zW rfl ?_ | refine zC ?_ | with_reducible refine zO ?_ | refine zH ?_ | refine zI ?_ | (with_reducible first | refine zM ?_ | refine zN ?_ | refine zE ?_ | refine zG ?_ | refine zF ?_) | refine zP ?_
theorem gC (xs : List Int) : zy Go.Proofs.Try.prog 11 [xp u8T xs] [] (B (decide ((1048576 : Int) < xs.length))) [] false := by
  refine zw [2] Go.Proofs.Try.func11 rfl rfl ?_
  simp only [Go.Proofs.Try.ntmps11, List.length_cons, List.length_nil, Nat.reduceAdd, Nat.reduceSub, List.replicate_succ, List.replicate_zero, List.cons_append, List.nil_append]
  repeat' first | refine zK ?_ | refine zA ?_ | refine zL [] ?_ | (refine isA ?_; refine zf rfl ?_) | (refine isL ?_; refine zU rfl (by kernel_rfl) rfl rfl ?_) | (refine zb rfl ?_; refine zT rfl (by kernel_rfl) rfl rfl ?_) | exact yK rfl rfl rfl | refine zD ?_ | refine zB _ rfl (by kernel_rfl) ?_ | refine zV rfl ?_ | refine zW rfl ?_ | refine zC ?_ | with_reducible refine zO ?_ | refine zH ?_ | refine zI ?_ | (with_reducible first | refine zM ?_ | refine zN ?_ | refine zE ?_ | refine zG ?_ | refine zF ?_) | refine zP ?_
end Go.Proofs.Ytojcojanokhnaaa.Ab
namespace Go.Proofs.Ytojcojanokhnaaa.Ab
open Go.RowKit
theorem Dn.ok {s : So} (h : Dn s) : okSo s := by
  obtain ⟨h1, h2, h3, h4, h5, h6⟩ := h.sm
  exact ⟨by omega, by omega, by omega, by omega, by omega, by omega⟩
end Go.Proofs.Ytojcojanokhnaaa.Ab
namespace Go.Proofs.Ytojcojanokhnaaa.Ab
open Go.RowKit
theorem gA (xs : List Int) (hl : xs.length ≤ 1000000000) : zy Go.Proofs.Try.prog 37 [xp u8T xs] [] (.tup [.agg (soE (m7 xs)), I (jg xs)]) [] true := by
  have d1 := hM xs hl
  generalize m7 xs = s at d1
  generalize jg xs = g at d1
  refine yV 2 27 [3] Go.Proofs.Try.func37 rfl rfl rfl ?_
  simp only [Go.Proofs.Try.ntmps37, List.length_cons, List.length_nil, Nat.reduceAdd, Nat.reduceSub, List.replicate_succ, List.replicate_zero, List.cons_append, List.nil_append]
  repeat' first | refine zK ?_ | refine zA ?_ | refine zL [] ?_ | (refine isA ?_; refine zf rfl ?_) | (refine isL ?_; refine zU rfl (by kernel_rfl) rfl rfl ?_) | (refine zb rfl ?_; refine zT rfl (by kernel_rfl) rfl rfl ?_) | (refine zu 12 ?_; refine zc rfl (zQ rfl d1 (.cons (.same rfl) .nil) rfl) rfl ?_) | (refine zv 12 rfl ?_; refine zX rfl (by kernel_rfl) rfl (zQ rfl d1 (.cons (.same rfl) .nil) rfl) rfl ?_) | exact ny (yS rfl rfl rfl rfl rfl) (.tup (.cons (.agg (by repeat' first | exact Purs.nil | refine Purs.cons ?_ ?_ | exact zq rfl | exact yL rfl rfl | exact zq (T := rwT) (x := []) rfl | exact Pur.nil | exact Pur.same rfl | exact yk (by assumption))) (.cons (.same rfl) .nil))) | refine zD ?_ | refine zB _ rfl (by kernel_rfl) ?_ | refine zV rfl ?_ | refine zW rfl ?_ | refine zC ?_ | with_reducible refine zO ?_ | refine zH ?_ | refine zI ?_ | (with_reducible first | refine zM ?_ | refine zN ?_ | refine zE ?_ | refine zG ?_ | refine zF ?_) | refine zP ?_
theorem VS.wr0 {s : So} (hv : VS s) : 0 ≤ s.wr := by
  cases hv with
  | read b => exact b.wr
  | merge b => exact b.wr
  | emit b => exact b.wr
  | done b => exact b.wr
theorem sN (xs : List Int) (hl0 : xs.length ≤ 9223372036854775807) : zy Go.Proofs.Try.prog 7 [xp u8T xs] [] (B true) [] false := by
  refine zw [2] Go.Proofs.Try.func7 rfl rfl ?_
  simp only [Go.Proofs.Try.ntmps7, List.length_cons, List.length_nil, Nat.reduceAdd, Nat.reduceSub, List.replicate_succ, List.replicate_zero, List.cons_append, List.nil_append]
  repeat' first | refine zK ?_ | refine zA ?_ | refine zL [] ?_ | (refine isA ?_; refine zf rfl ?_) | (refine isL ?_; refine zU rfl (by kernel_rfl) rfl rfl ?_) | (refine zb rfl ?_; refine zT rfl (by kernel_rfl) rfl rfl ?_) | (refine zu 11 ?_; refine zc rfl (zQ rfl (gC xs) (.cons (.same rfl) .nil) rfl) rfl ?_) | (refine zv 11 rfl ?_; refine zX rfl (by kernel_rfl) rfl (zQ rfl (gC xs) (.cons (.same rfl) .nil) rfl) rfl ?_) | refine zD ?_ | refine zB _ rfl (by kernel_rfl) ?_ | refine zV rfl ?_ | refine zW rfl ?_ | refine zC ?_ | with_reducible refine zO ?_ | refine zH ?_ | refine zI ?_ | (with_reducible first | refine zM ?_ | refine zN ?_ | refine zE ?_ | refine zG ?_ | refine zF ?_) | refine zP ?_
  refine zd rfl (fun h => ?_) (fun h => ?_)
  · repeat' first | refine zK ?_ | refine zA ?_ | refine zL [] ?_ | (refine isA ?_; refine zf rfl ?_) | (refine isL ?_; refine zU rfl (by kernel_rfl) rfl rfl ?_) | (refine zb rfl ?_; refine zT rfl (by kernel_rfl) rfl rfl ?_) | exact yK rfl rfl rfl | refine zD ?_ | refine zB _ rfl (by kernel_rfl) ?_ | refine zV rfl ?_ | refine zW rfl ?_ | refine zC ?_ | with_reducible refine zO ?_ | refine zH ?_ | refine zI ?_ | (with_reducible first | refine zM ?_ | refine zN ?_ | refine zE ?_ | refine zG ?_ | refine zF ?_) | refine zP ?_
  have hl : xs.length ≤ 1000000000 := by have := of_decide_eq_false h; omega
  have d1 := gA xs hl
  have hd := eU xs
  generalize m7 xs = s at d1 hd
  generalize jg xs = g at d1
  have hok := hd.ok
  have hw1 := hd.w1
  cases hc : (vS s && (decide (s.wr ≤ 1000000000) && inV g 8 60)) with
  | false =>
    have a1 := g9 s g hok hc
    have a2 := gu s g hok hc
    repeat' first | refine zK ?_ | refine zA ?_ | refine zL [] ?_ | (refine isA ?_; refine zf rfl ?_) | (refine isL ?_; refine zU rfl (by kernel_rfl) rfl rfl ?_) | (refine zb rfl ?_; refine zT rfl (by kernel_rfl) rfl rfl ?_) | (refine zu 37 ?_; refine zc rfl (zQ rfl d1 (.cons (.same rfl) .nil) rfl) rfl ?_) | (refine zv 37 rfl ?_; refine zX rfl (by kernel_rfl) rfl (zQ rfl d1 (.cons (.same rfl) .nil) rfl) rfl ?_) | (refine zu 38 ?_; refine zc rfl (zQ rfl a1 (.cons (.same rfl) (.cons (.same rfl) .nil)) rfl) rfl ?_) | (refine zv 38 rfl ?_; refine zX rfl (by kernel_rfl) rfl (zQ rfl a1 (.cons (.same rfl) (.cons (.same rfl) .nil)) rfl) rfl ?_) | (refine zu 39 ?_; refine zc rfl (zQ rfl a2 (.cons (.same rfl) (.cons (.same rfl) .nil)) rfl) rfl ?_) | (refine zv 39 rfl ?_; refine zX rfl (by kernel_rfl) rfl (zQ rfl a2 (.cons (.same rfl) (.cons (.same rfl) .nil)) rfl) rfl ?_) | exact yK rfl rfl rfl | refine zD ?_ | refine zB _ rfl (by kernel_rfl) ?_ | refine zV rfl ?_ | refine zW rfl ?_ | refine zC ?_ | with_reducible refine zO ?_ | refine zH ?_ | refine zI ?_ | (with_reducible first | refine zM ?_ | refine zN ?_ | refine zE ?_ | refine zG ?_ | refine zF ?_) | refine zP ?_
  | true =>
    simp only [Bool.and_eq_true, decide_eq_true_eq] at hc
    obtain ⟨hv1, hw2, h3⟩ := hc
    have hv := wE.1 hv1
    have hg : 8 ≤ g ∧ g ≤ 60 := xC.1 h3
    obtain ⟨q1, q2, q3, q4, q5, q6⟩ := hv.small
    have hb := fC s
    obtain ⟨n, y, hf, hn⟩ := nw hg.1 hg.2 (pg s) (Nat.le_refl _) hv (by omega)
    have a1 := e9 s y g n hv h3 hw2 (by omega) hf
    have a2 := ek s y g n hv h3 hw2 (by omega) hf
    have hn' : n ≤ s.heap.length + s.dfr.length + 1 := by omega
    repeat' first | (refine isA ?_; refine zc rfl (ms rfl rfl rfl (by kernel_rfl)) rfl ?_) | (refine isA ?_; refine zc rfl (mr rfl rfl rfl) rfl ?_) | refine zK ?_ | refine zA ?_ | refine zL [] ?_ | (refine isA ?_; refine zf rfl ?_) | (refine isL ?_; refine zU rfl (by kernel_rfl) rfl rfl ?_) | (refine zb rfl ?_; refine zT rfl (by kernel_rfl) rfl rfl ?_) | (refine zu 37 ?_; refine zc rfl (zQ rfl d1 (.cons (.same rfl) .nil) rfl) rfl ?_) | (refine zv 37 rfl ?_; refine zX rfl (by kernel_rfl) rfl (zQ rfl d1 (.cons (.same rfl) .nil) rfl) rfl ?_) | (refine zu 38 ?_; refine zc rfl (zQ rfl a1 (.cons (.same rfl) (.cons (.same rfl) .nil)) rfl) rfl ?_) | (refine zv 38 rfl ?_; refine zX rfl (by kernel_rfl) rfl (zQ rfl a1 (.cons (.same rfl) (.cons (.same rfl) .nil)) rfl) rfl ?_) | (refine zu 39 ?_; refine zc rfl (zQ rfl a2 (.cons (.same rfl) (.cons (.same rfl) .nil)) rfl) rfl ?_) | (refine zv 39 rfl ?_; refine zX rfl (by kernel_rfl) rfl (zQ rfl a2 (.cons (.same rfl) (.cons (.same rfl) .nil)) rfl) rfl ?_) | refine zD ?_ | refine zB _ rfl (by kernel_rfl) ?_ | refine zV rfl ?_ | refine zW rfl ?_ | refine zC ?_ | with_reducible refine zO ?_ | refine zH ?_ | refine zI ?_ | (with_reducible first | refine zM ?_ | refine zN ?_ | refine zE ?_ | refine zG ?_ | refine zF ?_) | refine zP ?_
    refine z9 (α := { p : Nat × So // p.1 ≤ n ∧ Fits g p.2 (n - p.1) y ∧ VS p.2 ∧ p.2.wr ≤ 1000 + 4 * p.1 }) (fun p => ⟨(.any :: .any :: .any :: (.ptr 0 0) :: (I g) :: (I n) :: .any :: .any :: .any :: (.ptr 1 0) :: (I p.1.1) :: .any :: .any :: .any :: .any :: .any :: .any :: .any :: .any :: .any :: .any :: .any :: .any :: .any :: .any :: .any :: .any :: .any :: .any :: .any :: .any :: .any :: .any :: .any :: .any :: .any :: .any :: .any :: .any :: .any :: .any :: .any :: .any :: .any :: .any :: .any :: .any :: .any :: .any :: .any :: .any :: .any :: .any :: .any :: .any :: .any :: .any :: .any :: .any :: .any :: .any :: .any :: .any :: .any :: .any :: .any :: .any :: .any :: .any :: .any :: .any :: .any :: .any :: .any :: .any :: .any :: .any :: .any :: .any :: .any :: .any :: .any :: .any :: []), [bxS (soE s), bxS (soE p.1.2)], 0⟩) (fun p => n - p.1.1) ⟨(0, s), Nat.zero_le _, hf, hv, by simpa using hw1⟩ ?_ ?_
    · exact yb [0, 1] rfl rfl (by decide) (.cons rfl rfl rfl rfl (z6 rfl) (.cons rfl rfl rfl rfl (z6 rfl) .nil)) (by repeat' first | exact zg | refine zZ ?_ ?_ | exact zo | exact le_refl rfl | exact zj rfl rfl | exact zt rfl)
    · rintro ⟨⟨j, t⟩, hj, jf, jv, jw⟩
      simp only at hj jf jv jw
      have jok := jv.ok
      have m1 := tK t jok
      repeat' first | refine zK ?_ | refine zA ?_ | refine zL [] ?_ | (refine isA ?_; refine zf rfl ?_) | (refine isL ?_; refine zU rfl (by kernel_rfl) rfl rfl ?_) | (refine zb rfl ?_; refine zT rfl (by kernel_rfl) rfl rfl ?_) | refine zD ?_ | refine zB _ rfl (by kernel_rfl) ?_ | refine zV rfl ?_ | refine zW rfl ?_ | refine zC ?_ | with_reducible refine zO ?_ | refine zH ?_ | refine zI ?_ | (with_reducible first | refine zM ?_ | refine zN ?_ | refine zE ?_ | refine zG ?_ | refine zF ?_) | refine zP ?_
      refine zd rfl (fun h => ?_) (fun h => ?_)
      · have hlt : j < n := by have := of_decide_eq_true h; simp only at this; omega
        obtain ⟨k, hk⟩ : ∃ k, n - j = k + 1 := ⟨n - j - 1, by omega⟩
        rw [hk] at jf
        cases jf with
        | @step _ x _ r _ hm st f =>
          have hvx := vO jv hg.1 hg.2 (by omega) st
          have hwx := uZ st jv.wr0 (by omega)
          have hp : t.ph = 1 := Classical.byContradiction fun h1 => by have := (sJ h1).2; omega
          have c1 := sU t x g r jok (wE.2 jv) h3 hp st
          repeat' first | (refine zd rfl (fun h => absurd (of_decide_eq_true h) (by omega)) (fun _ => ?_)) | refine zK ?_ | refine zA ?_ | refine zL [] ?_ | (refine isA ?_; refine zf rfl ?_) | (refine isL ?_; refine zU rfl (by kernel_rfl) rfl rfl ?_) | (refine zb rfl ?_; refine zT rfl (by kernel_rfl) rfl rfl ?_) | (refine zu 13 ?_; refine zc rfl (zQ rfl c1 (.cons (.same rfl) (.cons (.same rfl) .nil)) rfl) rfl ?_) | (refine zv 13 rfl ?_; refine zX rfl (by kernel_rfl) rfl (zQ rfl c1 (.cons (.same rfl) (.cons (.same rfl) .nil)) rfl) rfl ?_) | (refine zu 19 ?_; refine zc rfl (zQ rfl m1 (.cons (.same rfl) .nil) rfl) rfl ?_) | (refine zv 19 rfl ?_; refine zX rfl (by kernel_rfl) rfl (zQ rfl m1 (.cons (.same rfl) .nil) rfl) rfl ?_) | refine zD ?_ | refine zB _ rfl (by kernel_rfl) ?_ | refine zV rfl ?_ | refine zW rfl ?_ | refine zC ?_ | with_reducible refine zO ?_ | refine zH ?_ | refine zI ?_ | (with_reducible first | refine zM ?_ | refine zN ?_ | refine zE ?_ | refine zG ?_ | refine zF ?_) | refine zP ?_
          refine ⟨⟨(j + 1, x), hlt, by rw [show n - (j + 1) = k by omega]; exact f, hvx, by simp only at hwx ⊢; omega⟩, by simp only; omega, ?_⟩
          exact yb [0, 1] rfl rfl (by decide) (.cons rfl rfl rfl rfl (z6 rfl) (.cons rfl rfl rfl rfl (z6 rfl) .nil)) (by repeat' first | exact zg | refine zZ ?_ ?_ | exact zo | exact le_refl rfl | exact zt rfl | exact xI (by omega) (by omega))
      · have hge : j = n := by have := of_decide_eq_false h; simp only at this; omega
        subst hge
        rw [Nat.sub_self] at jf
        cases jf with
        | stop hm =>
          have w1 : IntKind.i64.wrap ((s.heap.length : Int) + s.dfr.length) = (s.heap.length : Int) + s.dfr.length := by rw [IntKind.wrap_i64]; omega
          have w2 : IntKind.i64.wrap ((s.heap.length : Int) + s.dfr.length + 1) = (s.heap.length : Int) + s.dfr.length + 1 := by rw [IntKind.wrap_i64]; omega
          repeat' first | refine zK ?_ | refine zA ?_ | refine zL [] ?_ | (refine isA ?_; refine zf rfl ?_) | (refine isL ?_; refine zU rfl (by kernel_rfl) rfl rfl ?_) | (refine zb rfl ?_; refine zT rfl (by kernel_rfl) rfl rfl ?_) | exact absurd hbr (by simp only [decide_eq_false_iff_not]; omega) | (refine zu 19 ?_; refine zc rfl (zQ rfl m1 (.cons (.same rfl) .nil) rfl) rfl ?_) | (refine zv 19 rfl ?_; refine zX rfl (by kernel_rfl) rfl (zQ rfl m1 (.cons (.same rfl) .nil) rfl) rfl ?_) | exact yK rfl rfl (by rw [show decide ((j : Int) ≤ IntKind.i64.wrap (IntKind.i64.wrap ((s.heap.length : Int) + s.dfr.length) + 1)) = true from decide_eq_true (by rw [w1, w2]; omega)]) | refine zD ?_ | refine zB _ rfl (by kernel_rfl) ?_ | refine zV rfl ?_ | refine zW rfl ?_ | refine zC ?_ | with_reducible refine zO ?_ | refine zH ?_ | refine zI ?_ | (with_reducible first | refine zM ?_ | refine zN ?_ | refine zE ?_ | refine zG ?_ | refine zF ?_) | refine zP ?_ | (refine wB ?_; refine yW rfl rfl (fun hbr => ?_) (fun hbr => ?_) <;> (fail_if_success (with_reducible (have hx : true = true := hbr))) <;> (fail_if_success (with_reducible (have hx : false = false := hbr)))) | (refine zb rfl ?_; refine yI rfl rfl rfl rfl (fun hbr => ?_) (fun hbr => ?_) <;> (fail_if_success (with_reducible (have hx : true = true := hbr))) <;> (fail_if_success (with_reducible (have hx : false = false := hbr))))
end Go.Proofs.Ytojcojanokhnaaa.Ab
namespace Go.Proofs.Ytojcojanokhnaaa.Ab
open Go.RowKit
section
variable {A : Nat → Prop} {W : World}
theorem lB {a : Option Addr} {len cap : Nat} {e : V} (h2 : zx A W [] [e] (fun i => (Value.slice a len cap).cells.toList[i]?)) : Rel A W [] e (.slice a len cap) := by
  obtain ⟨y, h3, h4⟩ := yj h2 (i := 0) (c := e) rfl
  have : y = .slice a len cap := by simpa [Value.cells] using h3.symm
  subst this
  exact h4
end
section
variable {P : Program} {β : Type} {off tot : Nat} {f : Field} {fs : List Field} {eb : β → List V} {okb : β → Prop}
end
section
variable {A : Nat → Prop} {W : World}
end
end Go.Proofs.Ytojcojanokhnaaa.Ab
namespace Go.Proofs.Ytojcojanokhnaaa.Ab
open Go.RowKit
theorem o_u8 : mS Go.Proofs.Try.prog 22 (fun l : List Int => [xp u8T l]) (okL (okI .u8)) := pE Go.Proofs.Try.underlying22 (by kernel_rfl) (mq Go.Proofs.Try.underlying5)
end Go.Proofs.Ytojcojanokhnaaa.Ab
