/- What the row FnSorterInvariant leans on, part 6: a walk over abstract values, and contracts proved with it. -/
import Derived.WalkKit
import Derived.Laws.Rows
import Derived.RowKit
import Derived.OrdersHeld
import Derived.Deep.RegionHeld3
import Derived.Deep.Draws
import Derived.BigCall
import Derived.KernelRfl
import Derived.Deep.Slices
import Derived.ChangeArms
import Derived.ChangeShapes
import Derived.WideShapes
import Derived.Test.YtojcojanokhnaaaProg
import Derived.Laws.StructEq
import Derived.Lib.Overlaps
import Derived.Test.YtojcojanokhnaaaZv4
set_option linter.unusedVariables false
set_option linter.unusedSimpArgs false
set_option maxRecDepth 20000
set_option maxHeartbeats 8000000
namespace Go.Proofs.Ytojcojanokhnaaa.Ab
open Go.RowKit
theorem frzS {P : Program} {f : FuncId} {cargs : List V} {c c' : Cur} {R : Reg} {r r' : V} {al : Bool} (h : zz P f cargs [xi c] r [xi c', R] al) (hp : Pur true [xp (xi c'), R] r r') : zz P f cargs [xi c] r' [xi c'] true :=
  zz.frozenK (Rs := [xi c]) (Rs' := [xi c']) (K := [R]) h rfl (fun q hq => by simp at hq; subst hq; exact zn _) (fun i q q' h1 h2 h3 => by
    cases i with
    | zero => simp at h2; subst h2; rfl
    | succ i => simp at h2) hp
theorem fw (most : Int) (m0 : 0 ≤ most) (m1 : most ≤ 1000) (c : Cur) (hl : c.code.length ≤ 1000000000) : zz Go.Proofs.Try.prog 110 [.ptr 0 0, I most] [xi c] (rwL (yt most c).1) [xi (yt most c).2] true :=
  frzS (dp most m0 m1 c hl) (zt rfl)
abbrev soK (h : Nat) (s : So) : List V := [rwL s.input, I s.pos, .sl h 0 s.heap.length, rwL s.dfr, rwL s.out, rnL s.runs, I s.lp, I s.rp, I s.ph, I s.wr]
theorem fU {H : List Reg} {s : So} {h : Nat} (e : H[h]? = some (rwR s.heap)) : Pur true H (.agg (soK h s)) (.agg (soE s)) := .agg (.cons (.same rfl) (.cons (.same rfl) (.cons (zt e) (.cons (.same rfl) (.cons (.same rfl) (.cons (.same rfl) (.cons (.same rfl) (.cons (.same rfl) (.cons (.same rfl) (.cons (.same rfl) .nil))))))))))
theorem km {H : List Reg} {h : Nat} {xs : List Rw} (e : H[h]? = some { rwR xs with mode := 1 }) : Pur false H (.sl h 0 xs.length) (rwL xs) :=
  Pur.sl e (Or.inl rfl) (zJ rwT xs) rwT.pos (by show (0 + xs.length) * rwT.n ≤ (rwT.flat xs).length; rw [yL, Nat.zero_add]; exact Nat.le_refl _) (by
    show rwT.flat xs = ((rwT.flat xs).drop (0 * rwT.n)).take (xs.length * rwT.n)
    simp only [Nat.zero_mul, List.drop_zero]
    rw [← yL, List.take_length])
theorem fW {H : List Reg} {s : So} {h : Nat} (e : H[h]? = some { rwR s.heap with mode := 1 }) : Pur false H (.agg (soK h s)) (.agg (soE s)) := .agg (.cons (.same rfl) (.cons (.same rfl) (.cons (km e) (.cons (.same rfl) (.cons (.same rfl) (.cons (.same rfl) (.cons (.same rfl) (.cons (.same rfl) (.cons (.same rfl) (.cons (.same rfl) .nil))))))))))
theorem dX {l : List V} {H : List Reg} {t : Tmp} {n h : Nat} {v r : V} {K0 K1 : Reg} (hne : h ≠ 0) (hv : CellIs l H t n v) (hr : Le [0, h] r v) (hH : HLes [0, h] H [0, h] [K0, K1]) :
    (Exit.ret = .ret ∨ Exit.ret = .normal) ∧ ∃ v, CellIs l H t n v ∧ Out true r [K0, K1] v ⟨l, H, 1⟩ := ⟨Or.inl rfl, v, hv, v2 (S := ⟨l, H, 1⟩) [0, h] yb (wn (by simp; exact fun e => hne e.symm) hH) hr (Or.inl rfl)⟩
theorem dz (c : Cur) (hl : c.code.length ≤ 1000000000) : zz Go.Proofs.Try.prog 54 [.ptr 0 0] [xi c] (.agg (soK 1 (tS c).1)) [xi (tS c).2, rwR (tS c).1.heap] true := by
  have e : tS c = spV (stF (nsS (yt 9 c).1) (beC 60 (yt 9 c).2) (beV 60 (yt 9 c).2).toNat).1 (stF (nsS (yt 9 c).1) (beC 60 (yt 9 c).2) (beV 60 (yt 9 c).2).toNat).2 := rfl
  have hr := qJ (most := 9) (by decide) (by decide) c
  have hc1 := sS 9 c
  have b1 := fw 9 (by decide) (by decide) c hl
  generalize yt 9 c = p at hr hc1 b1 e
  obtain ⟨xs, c1⟩ := p
  simp only at hr hc1 b1 e
  obtain ⟨k0, k1⟩ := w8 (n := 60) (by decide) c1
  have b2 := di xs (by omega)
  have hd := kx (xs := xs) (by omega)
  generalize nsS xs = s0 at b2 hd e
  have b3 := xW 60 c1 (by rw [hc1]; exact hl)
  have hc2 : (beC 60 c1).code.length ≤ 1000000000 := by rw [xD, hc1]; exact hl
  obtain ⟨k, hk⟩ : ∃ k : Nat, beV 60 c1 = k := ⟨(beV 60 c1).toNat, by omega⟩
  rw [hk] at b3 e k0 k1
  generalize beC 60 c1 = c2 at b3 hc2 e
  rw [Int.toNat_natCast] at e
  refine wC 2 27 Go.Proofs.Try.func54 rfl rfl ?_
  simp only [Go.Proofs.Try.ntmps54, List.length_cons, List.length_nil, Nat.reduceAdd, Nat.reduceSub, List.replicate_succ, List.replicate_zero, List.cons_append, List.nil_append]
  repeat' first | refine zK ?_ | refine zA ?_ | refine zP [] ?_ | (refine isA ?_; refine zg rfl ?_) | (refine isL ?_; refine zW rfl (by kernel_rfl) rfl rfl ?_) | (refine zd rfl ?_; refine zV rfl (by kernel_rfl) rfl rfl ?_) | (refine zv 110 ?_; refine zb rfl (zp (K := []) (Rs' := [_]) [0] (by decide) rfl b1 (.cons rfl rfl rfl (zn _) (zn _) .nil) (.cons (.ptr rfl) (.cons (.same rfl) .nil)) (fun q hq => by cases hq) rfl) rfl ?_) | (refine zw 110 rfl ?_; refine zU rfl (by kernel_rfl) rfl (zp (K := []) (Rs' := [_]) [0] (by decide) rfl b1 (.cons rfl rfl rfl (zn _) (zn _) .nil) (.cons (.ptr rfl) (.cons (.same rfl) .nil)) (fun q hq => by cases hq) rfl) rfl ?_) | (refine zv 97 ?_; refine zb rfl (ye (r' := .tup [.agg (soK 2 s0), B (avR xs)]) (H' := [xi c1, bxS zS, rwR s0.heap]) rfl b2 (.cons (.same rfl) .nil) (fun q hq => by simp at hq; subst hq; exact zJ _ _) rfl rfl) rfl ?_) | (refine zw 97 rfl ?_; refine zU rfl (by kernel_rfl) rfl (ye (r' := .tup [.agg (soK 2 s0), B (avR xs)]) (H' := [xi c1, bxS zS, rwR s0.heap]) rfl b2 (.cons (.same rfl) .nil) (fun q hq => by simp at hq; subst hq; exact zJ _ _) rfl rfl) rfl ?_) | (refine zv 100 ?_; refine zb rfl (zp (K := []) (Rs' := [_]) [0] (by decide) rfl b3 (.cons rfl rfl rfl (zn _) (zn _) .nil) (.cons (.ptr rfl) (.cons (.same rfl) .nil)) (fun q hq => by cases hq) rfl) rfl ?_) | (refine zw 100 rfl ?_; refine zU rfl (by kernel_rfl) rfl (zp (K := []) (Rs' := [_]) [0] (by decide) rfl b3 (.cons rfl rfl rfl (zn _) (zn _) .nil) (.cons (.ptr rfl) (.cons (.same rfl) .nil)) (fun q hq => by cases hq) rfl) rfl ?_) | refine zD ?_ | refine zB _ rfl (by kernel_rfl) ?_ | refine zX rfl ?_ | refine zY rfl ?_ | refine zC ?_ | with_reducible refine zN ?_ | refine zH ?_ | refine zI ?_ | (with_reducible first | refine zL ?_ | refine zM ?_ | refine zE ?_ | refine zG ?_ | refine zF ?_) | refine zO ?_
  refine yE (α := { p : Nat × (So × Cur) // p.1 ≤ k ∧ p.2 = stF s0 c2 p.1 }) (fun p => ⟨[.ptr 0 0, .any, .ptr 1 0, .ptr 2 0, .any, I ((k : Int) - p.1.1), .any, .any, .any, .any, .any, .any, .any, .any, .any, .any, .any, .any, .any, .any, .any, .any, .any, .any, .any, .any, .any, .any, .any, .any, .any, .any, .any, .any, .any, .any, .any, .any, .any, .any, .any, .any, .any, .any, .any, .any, .any, .any, .any, .any, .any, .any, .any, .any, .any, .any], [xi p.1.2.2, bxS zS, bxS (soK 3 p.1.2.1), rwR p.1.2.1.heap], 1⟩) (fun p => k - p.1.1) ⟨(0, (s0, c2)), Nat.zero_le _, rfl⟩ ?_ ?_
  · exact y8 1 [0, 1, 3, 2] rfl rfl yb (by decide) (.cons rfl rfl rfl rfl (zT (zn _)) (.cons rfl rfl rfl rfl (z6 rfl) (.cons rfl rfl rfl rfl (by repeat' first | exact zm | refine zZ ?_ ?_ | exact zo | exact le_refl rfl | exact zj rfl rfl | exact zr rfl | exact zr (congrArg some (by simp [zh] <;> omega)) | exact zj rfl (by simp) | exact zj (congrArg some (by simp [zh] <;> omega)) rfl | exact zj (congrArg some (by simp [zh] <;> omega)) (by simp [yS, endV, yF]) | exact z7 (congrArg _ (by assumption)) | exact z7 (congrArg _ (Eq.symm (by assumption)))) (.cons rfl rfl rfl rfl (zT (zJ _ _)) .nil)))) (by
      repeat' first | exact zm | refine zZ ?_ ?_ | exact zo | exact le_refl rfl | exact zr rfl | exact z7 (congrArg _ (by simp)))
  · rintro ⟨⟨j, t, d⟩, hj, ht⟩
    simp only at hj ht
    have htd := nY c2 hd (by decide) j (by omega)
    have htc := sN s0 c2 j
    rw [← ht] at htd htc
    simp only at htd htc
    have hdl : d.code.length ≤ 1000000000 := by rw [htc]; exact hc2
    repeat' first | refine zK ?_ | refine zA ?_ | refine zP [] ?_ | (refine isA ?_; refine zg rfl ?_) | (refine isL ?_; refine zW rfl (by kernel_rfl) rfl rfl ?_) | (refine zd rfl ?_; refine zV rfl (by kernel_rfl) rfl rfl ?_) | refine zD ?_ | refine zB _ rfl (by kernel_rfl) ?_ | refine zX rfl ?_ | refine zY rfl ?_ | refine zC ?_ | with_reducible refine zN ?_ | refine zH ?_ | refine zI ?_ | (with_reducible first | refine zL ?_ | refine zM ?_ | refine zE ?_ | refine zG ?_ | refine zF ?_) | refine zO ?_
    refine zk rfl (fun h => ?_) (fun h => ?_)
    · have hlt : j < k := by have := of_decide_eq_true h; simp only at this; omega
      have g1 := wz [8, 9, 12, 20] d hdl (by decide)
      have g2 := mv htd.sm.ok9 (kv t (pkV [8, 9, 12, 20] d))
      have ht' : stF s0 c2 (j + 1) = (fZ t (pkV [8, 9, 12, 20] d), beC 4 d) := by rw [stF, ← ht]
      generalize fZ t (pkV [8, 9, 12, 20] d) = x at g2 ht'
      generalize oneR t (pkV [8, 9, 12, 20] d) = r at g2
      generalize eg t (pkV [8, 9, 12, 20] d) = b at g2
      generalize pkV [8, 9, 12, 20] d = g at g1 g2
      refine uD (tf (h := 3) (r := rwR t.heap) rfl rfl (by decide) (fun i hi => match i, hi with | 0, _ => ⟨_, rfl, rfl⟩)) ?_
      repeat' first | (refine uN 9 (fun H => H[2]? = some (bxS (soK 3 t))) 10 rfl (xE ?_)) | refine zK ?_ | refine zA ?_ | refine zP [] ?_ | (refine isA ?_; refine zg rfl ?_) | (refine isL ?_; refine zW rfl (by kernel_rfl) rfl rfl ?_) | (refine zd rfl ?_; refine zV rfl (by kernel_rfl) rfl rfl ?_) | refine zD ?_ | refine zB _ rfl (by kernel_rfl) ?_ | refine zX rfl ?_ | refine zY rfl ?_ | refine zC ?_ | with_reducible refine zN ?_ | refine zH ?_ | refine zI ?_ | (with_reducible first | refine zL ?_ | refine zM ?_ | refine zE ?_ | refine zG ?_ | refine zF ?_) | refine zO ?_
      refine xl ?_
      refine sW 0 rfl (by kernel_rfl) rfl (by kernel_rfl) rfl (fun _ hG => ki rfl rfl hG rfl rfl rfl) rfl ?_
      refine yR 1 (Or.inr rfl) rfl rfl (by kernel_rfl) rfl (fun _ => rfl) rfl ?_
      refine ng 2 (Or.inr rfl) rfl rfl (by kernel_rfl) rfl (fun _ => yO (cs := [8, 9, 12, 20].map I) rfl rfl rfl rfl rfl) rfl ?_
      refine vD 3 (by kernel_rfl) rfl rfl (zp (K := []) (Rs' := [_]) [0] (by decide) rfl g1 (.cons rfl rfl rfl (zn _) (zn _) .nil) (.cons (.ptr rfl) (.cons (.same rfl) .nil)) (fun q hq => by cases hq) rfl) (Or.inr rfl) rfl ?_
      refine vD 4 (by kernel_rfl) rfl rfl (ye (r' := .tup [.agg (soK 4 x), rwL r, B b]) (H' := [xi (beC 4 d), bxS zS, bxS (soK 3 t), { rwR t.heap with mode := 1 }, rwR x.heap]) rfl g2 (.cons (fW rfl) (.cons (.same rfl) .nil)) (fun q hq => by simp at hq; subst hq; exact zJ _ _) rfl rfl) (Or.inr rfl) rfl ?_
      refine yR 5 (Or.inr rfl) rfl rfl (by kernel_rfl) rfl (fun _ => rfl) rfl ?_
      refine yR 6 (Or.inr rfl) rfl rfl (by kernel_rfl) rfl (fun _ => rfl) rfl ?_
      refine yR 7 (Or.inr rfl) rfl rfl (by kernel_rfl) rfl (fun _ => rfl) rfl ?_
      refine yR 8 (Or.inr rfl) rfl rfl (by kernel_rfl) rfl (fun _ => rfl) rfl ?_
      refine xk 9 (by kernel_rfl) rfl rfl rfl (Or.inl (by kernel_rfl)) rfl ?_
      refine w5 (by kernel_rfl) ?_
      repeat' first | refine zK ?_ | refine zA ?_ | refine zP [] ?_ | (refine isA ?_; refine zg rfl ?_) | (refine isL ?_; refine zW rfl (by kernel_rfl) rfl rfl ?_) | (refine zd rfl ?_; refine zV rfl (by kernel_rfl) rfl rfl ?_) | refine zD ?_ | refine zB _ rfl (by kernel_rfl) ?_ | refine zX rfl ?_ | refine zY rfl ?_ | refine zC ?_ | with_reducible refine zN ?_ | refine zH ?_ | refine zI ?_ | (with_reducible first | refine zL ?_ | refine zM ?_ | refine zE ?_ | refine zG ?_ | refine zF ?_) | refine zO ?_
      refine ⟨⟨(j + 1, (x, beC 4 d)), hlt, ht'.symm⟩, by simp only; omega, ?_⟩
      exact y8 1 [0, 1, 2, 4] rfl rfl yb (by decide) (.cons rfl rfl rfl rfl (zT (zn _)) (.cons rfl rfl rfl rfl (z6 rfl) (.cons rfl rfl rfl rfl (by repeat' first | exact zm | refine zZ ?_ ?_ | exact zo | exact le_refl rfl | exact zj rfl rfl | exact zr rfl | exact zr (congrArg some (by simp [zh] <;> omega)) | exact zj rfl (by simp) | exact zj (congrArg some (by simp [zh] <;> omega)) rfl | exact zj (congrArg some (by simp [zh] <;> omega)) (by simp [yS, endV, yF]) | exact z7 (congrArg _ (by assumption)) | exact z7 (congrArg _ (Eq.symm (by assumption)))) (.cons rfl rfl rfl rfl (zT (zJ _ _)) .nil)))) (by
        repeat' first | exact zm | refine zZ ?_ ?_ | exact zo | exact le_refl rfl | exact zr rfl | exact z7 (congrArg _ (show (k : Int) - ((j + 1 : Nat) : Int) = IntKind.i64.wrap ((k : Int) - (j : Int) - 1) by rw [IntKind.wrap_i64]; omega)))
    · have hge : j = k := by have := of_decide_eq_false h; simp only at this; omega
      subst hge
      rw [← ht] at e
      simp only at e
      have f1 := xW 16 d hdl
      have hd6 : (beC 16 d).code.length ≤ 1000000000 := by rw [xD]; exact hdl
      repeat' first | (refine xn 6 ⟨[.ptr 0 0, .any, .ptr 1 0, .ptr 2 0, .any, .any, .any, .any, .any, .any, .any, .any, .any, .any, .any, .any, .any, .any, .any, .any, .any, .any, .any, .any, .any, .any, .any, .any, .any, .any, .any, .any, .any, .any, .any, .any, .any, .any, .any, .any, .any, .any, .any, .any, .any, .any, .any, .any, .any, .any, .any, .any, .any, .any, .any, .any], [xi (spV t d).2, bxS zS, bxS (soK 3 (spV t d).1), rwR (spV t d).1.heap], 1⟩ (xE ?_) ?_) | refine zK ?_ | refine zA ?_ | refine zP [] ?_ | (refine isA ?_; refine zg rfl ?_) | (refine isL ?_; refine zW rfl (by kernel_rfl) rfl rfl ?_) | (refine zd rfl ?_; refine zV rfl (by kernel_rfl) rfl rfl ?_) | (refine zv 100 ?_; refine zb rfl (zp (K := []) (Rs' := [_]) [0] (by decide) rfl f1 (.cons rfl rfl rfl (zn _) (zn _) .nil) (.cons (.ptr rfl) (.cons (.same rfl) .nil)) (fun q hq => by cases hq) rfl) rfl ?_) | (refine zw 100 rfl ?_; refine zU rfl (by kernel_rfl) rfl (zp (K := []) (Rs' := [_]) [0] (by decide) rfl f1 (.cons rfl rfl rfl (zn _) (zn _) .nil) (.cons (.ptr rfl) (.cons (.same rfl) .nil)) (fun q hq => by cases hq) rfl) rfl ?_) | refine zD ?_ | refine zB _ rfl (by kernel_rfl) ?_ | refine zX rfl ?_ | refine zY rfl ?_ | refine zC ?_ | with_reducible refine zN ?_ | refine zH ?_ | refine zI ?_ | (with_reducible first | refine zL ?_ | refine zM ?_ | refine zE ?_ | refine zG ?_ | refine zF ?_) | refine zO ?_
      · refine xl ?_
        repeat' first | refine zK ?_ | refine zA ?_ | refine zP [] ?_ | (refine isA ?_; refine zg rfl ?_) | (refine isL ?_; refine zW rfl (by kernel_rfl) rfl rfl ?_) | (refine zd rfl ?_; refine zV rfl (by kernel_rfl) rfl rfl ?_) | (refine zv 100 ?_; refine zb rfl (zp (K := []) (Rs' := [_]) [0] (by decide) rfl f1 (.cons rfl rfl rfl (zn _) (zn _) .nil) (.cons (.ptr rfl) (.cons (.same rfl) .nil)) (fun q hq => by cases hq) rfl) rfl ?_) | (refine zw 100 rfl ?_; refine zU rfl (by kernel_rfl) rfl (zp (K := []) (Rs' := [_]) [0] (by decide) rfl f1 (.cons rfl rfl rfl (zn _) (zn _) .nil) (.cons (.ptr rfl) (.cons (.same rfl) .nil)) (fun q hq => by cases hq) rfl) rfl ?_) | refine zD ?_ | refine zB _ rfl (by kernel_rfl) ?_ | refine zX rfl ?_ | refine zY rfl ?_ | refine zC ?_ | with_reducible refine zN ?_ | refine zH ?_ | refine zI ?_ | (with_reducible first | refine zL ?_ | refine zM ?_ | refine zE ?_ | refine zG ?_ | refine zF ?_) | refine zO ?_
        refine zk rfl (fun b0 => ?_) (fun b0 => ?_)
        · skip
          have D : spV t d = ({ t with ph := beV 6 (beC 16 d) }, beC 6 (beC 16 d)) := by rw [spV, b0]; rfl
          rw [D]
          repeat' first | refine zK ?_ | refine zA ?_ | refine zP [] ?_ | (refine isA ?_; refine zg rfl ?_) | (refine isL ?_; refine zW rfl (by kernel_rfl) rfl rfl ?_) | (refine zd rfl ?_; refine zV rfl (by kernel_rfl) rfl rfl ?_) | (refine zv 100 ?_; refine zb rfl (zp (K := []) (Rs' := [_]) [0] (by decide) rfl (xW 6 (beC 16 d) hd6) (.cons rfl rfl rfl (zn _) (zn _) .nil) (.cons (.ptr rfl) (.cons (.same rfl) .nil)) (fun q hq => by cases hq) rfl) rfl ?_) | (refine zw 100 rfl ?_; refine zU rfl (by kernel_rfl) rfl (zp (K := []) (Rs' := [_]) [0] (by decide) rfl (xW 6 (beC 16 d) hd6) (.cons rfl rfl rfl (zn _) (zn _) .nil) (.cons (.ptr rfl) (.cons (.same rfl) .nil)) (fun q hq => by cases hq) rfl) rfl ?_) | refine zD ?_ | refine zB _ rfl (by kernel_rfl) ?_ | refine zX rfl ?_ | refine zY rfl ?_ | refine zC ?_ | with_reducible refine zN ?_ | refine zH ?_ | refine zI ?_ | (with_reducible first | refine zL ?_ | refine zM ?_ | refine zE ?_ | refine zG ?_ | refine zF ?_) | refine zO ?_
          exact ⟨rfl, y8 1 [0, 1, 2, 3] rfl rfl yb (by decide) (.cons rfl rfl rfl rfl (zT (zn _)) (.cons rfl rfl rfl rfl (z6 rfl) (.cons rfl rfl rfl rfl (by repeat' first | exact zm | refine zZ ?_ ?_ | exact zo | exact le_refl rfl | exact zj rfl rfl | exact zr rfl | exact zr (congrArg some (by simp [zh] <;> omega)) | exact zj rfl (by simp) | exact zj (congrArg some (by simp [zh] <;> omega)) rfl | exact zj (congrArg some (by simp [zh] <;> omega)) (by simp [yS, endV, yF]) | exact z7 (congrArg _ (by assumption)) | exact z7 (congrArg _ (Eq.symm (by assumption)))) (.cons rfl rfl rfl rfl (zT (zJ _ _)) .nil)))) (by repeat' first | exact zm | refine zZ ?_ ?_ | exact zo | exact le_refl rfl | exact zr rfl)⟩
        · repeat' first | refine zK ?_ | refine zA ?_ | refine zP [] ?_ | (refine isA ?_; refine zg rfl ?_) | (refine isL ?_; refine zW rfl (by kernel_rfl) rfl rfl ?_) | (refine zd rfl ?_; refine zV rfl (by kernel_rfl) rfl rfl ?_) | refine zD ?_ | refine zB _ rfl (by kernel_rfl) ?_ | refine zX rfl ?_ | refine zY rfl ?_ | refine zC ?_ | with_reducible refine zN ?_ | refine zH ?_ | refine zI ?_ | (with_reducible first | refine zL ?_ | refine zM ?_ | refine zE ?_ | refine zG ?_ | refine zF ?_) | refine zO ?_
          refine zk rfl (fun b1 => ?_) (fun b1 => ?_)
          · skip
            have D : spV t d = ({ t with pos := IntKind.i64.wrap (beV 8 (beC 16 d) - 1) }, beC 8 (beC 16 d)) := by rw [spV, b0, b1]; rfl
            rw [D]
            repeat' first | refine zK ?_ | refine zA ?_ | refine zP [] ?_ | (refine isA ?_; refine zg rfl ?_) | (refine isL ?_; refine zW rfl (by kernel_rfl) rfl rfl ?_) | (refine zd rfl ?_; refine zV rfl (by kernel_rfl) rfl rfl ?_) | (refine zv 100 ?_; refine zb rfl (zp (K := []) (Rs' := [_]) [0] (by decide) rfl (xW 8 (beC 16 d) hd6) (.cons rfl rfl rfl (zn _) (zn _) .nil) (.cons (.ptr rfl) (.cons (.same rfl) .nil)) (fun q hq => by cases hq) rfl) rfl ?_) | (refine zw 100 rfl ?_; refine zU rfl (by kernel_rfl) rfl (zp (K := []) (Rs' := [_]) [0] (by decide) rfl (xW 8 (beC 16 d) hd6) (.cons rfl rfl rfl (zn _) (zn _) .nil) (.cons (.ptr rfl) (.cons (.same rfl) .nil)) (fun q hq => by cases hq) rfl) rfl ?_) | refine zD ?_ | refine zB _ rfl (by kernel_rfl) ?_ | refine zX rfl ?_ | refine zY rfl ?_ | refine zC ?_ | with_reducible refine zN ?_ | refine zH ?_ | refine zI ?_ | (with_reducible first | refine zL ?_ | refine zM ?_ | refine zE ?_ | refine zG ?_ | refine zF ?_) | refine zO ?_
            exact ⟨rfl, y8 1 [0, 1, 2, 3] rfl rfl yb (by decide) (.cons rfl rfl rfl rfl (zT (zn _)) (.cons rfl rfl rfl rfl (z6 rfl) (.cons rfl rfl rfl rfl (by repeat' first | exact zm | refine zZ ?_ ?_ | exact zo | exact le_refl rfl | exact zj rfl rfl | exact zr rfl | exact zr (congrArg some (by simp [zh] <;> omega)) | exact zj rfl (by simp) | exact zj (congrArg some (by simp [zh] <;> omega)) rfl | exact zj (congrArg some (by simp [zh] <;> omega)) (by simp [yS, endV, yF]) | exact z7 (congrArg _ (by assumption)) | exact z7 (congrArg _ (Eq.symm (by assumption)))) (.cons rfl rfl rfl rfl (zT (zJ _ _)) .nil)))) (by repeat' first | exact zm | refine zZ ?_ ?_ | exact zo | exact le_refl rfl | exact zr rfl)⟩
          · repeat' first | refine zK ?_ | refine zA ?_ | refine zP [] ?_ | (refine isA ?_; refine zg rfl ?_) | (refine isL ?_; refine zW rfl (by kernel_rfl) rfl rfl ?_) | (refine zd rfl ?_; refine zV rfl (by kernel_rfl) rfl rfl ?_) | refine zD ?_ | refine zB _ rfl (by kernel_rfl) ?_ | refine zX rfl ?_ | refine zY rfl ?_ | refine zC ?_ | with_reducible refine zN ?_ | refine zH ?_ | refine zI ?_ | (with_reducible first | refine zL ?_ | refine zM ?_ | refine zE ?_ | refine zG ?_ | refine zF ?_) | refine zO ?_
            refine zk rfl (fun b2 => ?_) (fun b2 => ?_)
            · skip
              have D : spV t d = ({ t with lp := IntKind.i64.wrap (beV 4 (beC 16 d) - 1) }, beC 4 (beC 16 d)) := by rw [spV, b0, b1, b2]; rfl
              rw [D]
              repeat' first | refine zK ?_ | refine zA ?_ | refine zP [] ?_ | (refine isA ?_; refine zg rfl ?_) | (refine isL ?_; refine zW rfl (by kernel_rfl) rfl rfl ?_) | (refine zd rfl ?_; refine zV rfl (by kernel_rfl) rfl rfl ?_) | (refine zv 100 ?_; refine zb rfl (zp (K := []) (Rs' := [_]) [0] (by decide) rfl (xW 4 (beC 16 d) hd6) (.cons rfl rfl rfl (zn _) (zn _) .nil) (.cons (.ptr rfl) (.cons (.same rfl) .nil)) (fun q hq => by cases hq) rfl) rfl ?_) | (refine zw 100 rfl ?_; refine zU rfl (by kernel_rfl) rfl (zp (K := []) (Rs' := [_]) [0] (by decide) rfl (xW 4 (beC 16 d) hd6) (.cons rfl rfl rfl (zn _) (zn _) .nil) (.cons (.ptr rfl) (.cons (.same rfl) .nil)) (fun q hq => by cases hq) rfl) rfl ?_) | refine zD ?_ | refine zB _ rfl (by kernel_rfl) ?_ | refine zX rfl ?_ | refine zY rfl ?_ | refine zC ?_ | with_reducible refine zN ?_ | refine zH ?_ | refine zI ?_ | (with_reducible first | refine zL ?_ | refine zM ?_ | refine zE ?_ | refine zG ?_ | refine zF ?_) | refine zO ?_
              exact ⟨rfl, y8 1 [0, 1, 2, 3] rfl rfl yb (by decide) (.cons rfl rfl rfl rfl (zT (zn _)) (.cons rfl rfl rfl rfl (z6 rfl) (.cons rfl rfl rfl rfl (by repeat' first | exact zm | refine zZ ?_ ?_ | exact zo | exact le_refl rfl | exact zj rfl rfl | exact zr rfl | exact zr (congrArg some (by simp [zh] <;> omega)) | exact zj rfl (by simp) | exact zj (congrArg some (by simp [zh] <;> omega)) rfl | exact zj (congrArg some (by simp [zh] <;> omega)) (by simp [yS, endV, yF]) | exact z7 (congrArg _ (by assumption)) | exact z7 (congrArg _ (Eq.symm (by assumption)))) (.cons rfl rfl rfl rfl (zT (zJ _ _)) .nil)))) (by repeat' first | exact zm | refine zZ ?_ ?_ | exact zo | exact le_refl rfl | exact zr rfl)⟩
            · repeat' first | refine zK ?_ | refine zA ?_ | refine zP [] ?_ | (refine isA ?_; refine zg rfl ?_) | (refine isL ?_; refine zW rfl (by kernel_rfl) rfl rfl ?_) | (refine zd rfl ?_; refine zV rfl (by kernel_rfl) rfl rfl ?_) | refine zD ?_ | refine zB _ rfl (by kernel_rfl) ?_ | refine zX rfl ?_ | refine zY rfl ?_ | refine zC ?_ | with_reducible refine zN ?_ | refine zH ?_ | refine zI ?_ | (with_reducible first | refine zL ?_ | refine zM ?_ | refine zE ?_ | refine zG ?_ | refine zF ?_) | refine zO ?_
              refine zk rfl (fun b3 => ?_) (fun b3 => ?_)
              · skip
                have D : spV t d = ({ t with heap := t.heap ++ [(wN 2 (beC 16 d)).1] }, (wN 2 (beC 16 d)).2) := by rw [spV, b0, b1, b2, b3]; rfl
                rw [D]
                have f2 := gY 2 (beC 16 d) hd6
                repeat' first | (refine uN 7 (fun H => H[2]? = some (bxS (soK 3 t))) 8 rfl (xE ?_)) | refine zK ?_ | refine zA ?_ | refine zP [] ?_ | (refine isA ?_; refine zg rfl ?_) | (refine isL ?_; refine zW rfl (by kernel_rfl) rfl rfl ?_) | (refine zd rfl ?_; refine zV rfl (by kernel_rfl) rfl rfl ?_) | refine zD ?_ | refine zB _ rfl (by kernel_rfl) ?_ | refine zX rfl ?_ | refine zY rfl ?_ | refine zC ?_ | with_reducible refine zN ?_ | refine zH ?_ | refine zI ?_ | (with_reducible first | refine zL ?_ | refine zM ?_ | refine zE ?_ | refine zG ?_ | refine zF ?_) | refine zO ?_
                refine xl ?_
                refine yR 0 (Or.inr rfl) rfl rfl (by kernel_rfl) rfl (fun _ => rfl) rfl ?_
                refine sW 1 rfl (by kernel_rfl) rfl (by kernel_rfl) rfl (fun _ hG => xo rfl rfl hG rfl rfl) rfl ?_
                refine yR 2 (Or.inr rfl) rfl rfl (by kernel_rfl) rfl (fun _ => rfl) rfl ?_
                refine vD 3 (by kernel_rfl) rfl rfl (zp (K := []) (Rs' := [_]) [0] (by decide) rfl f2 (.cons rfl rfl rfl (zn _) (zn _) .nil) (.cons (.ptr rfl) (.cons (.same rfl) .nil)) (fun q hq => by cases hq) rfl) (Or.inr rfl) rfl ?_
                refine ng 4 (Or.inr rfl) rfl rfl (by kernel_rfl) rfl (fun _ => yO rfl rfl rfl rfl rfl) rfl ?_
                refine vD 5 (by kernel_rfl) rfl rfl (yV (t := rwT) (xs := t.heap) (ys := [(wN 2 (beC 16 d)).1]) rfl rfl rfl rfl (.lst _ _) (by have := htd.sm.heap; simp; omega) rfl) (Or.inr rfl) rfl ?_
                refine yR 6 (Or.inr rfl) rfl rfl (by kernel_rfl) rfl (fun _ => rfl) rfl ?_
                refine xk 7 (by kernel_rfl) rfl rfl rfl (Or.inl (by kernel_rfl)) rfl ?_
                refine w5 (by kernel_rfl) ?_
                repeat' first | refine zK ?_ | refine zA ?_ | refine zP [] ?_ | (refine isA ?_; refine zg rfl ?_) | (refine isL ?_; refine zW rfl (by kernel_rfl) rfl rfl ?_) | (refine zd rfl ?_; refine zV rfl (by kernel_rfl) rfl rfl ?_) | refine zD ?_ | refine zB _ rfl (by kernel_rfl) ?_ | refine zX rfl ?_ | refine zY rfl ?_ | refine zC ?_ | with_reducible refine zN ?_ | refine zH ?_ | refine zI ?_ | (with_reducible first | refine zL ?_ | refine zM ?_ | refine zE ?_ | refine zG ?_ | refine zF ?_) | refine zO ?_
                exact ⟨rfl, y8 1 [0, 1, 2, 4] rfl rfl yb (by decide) (.cons rfl rfl rfl rfl (zT (zn _)) (.cons rfl rfl rfl rfl (z6 rfl) (.cons rfl rfl rfl rfl (by repeat' first | exact zm | refine zZ ?_ ?_ | exact zo | exact le_refl rfl | exact zj rfl rfl | exact zr rfl | exact zr (congrArg some (by simp [zh] <;> omega)) | exact zj rfl (by simp) | exact zj (congrArg some (by simp [zh] <;> omega)) rfl | exact zj (congrArg some (by simp [zh] <;> omega)) (by simp [yS, endV, yF]) | exact z7 (congrArg _ (by assumption)) | exact z7 (congrArg _ (Eq.symm (by assumption)))) (.cons rfl rfl rfl rfl (zT (zJ _ _)) .nil)))) (by repeat' first | exact zm | refine zZ ?_ ?_ | exact zo | exact le_refl rfl | exact zr rfl)⟩
              · skip
                have D : spV t d = (t, beC 16 d) := by rw [spV, b0, b1, b2, b3]; rfl
                rw [D]
                repeat' first | refine zK ?_ | refine zA ?_ | refine zP [] ?_ | (refine isA ?_; refine zg rfl ?_) | (refine isL ?_; refine zW rfl (by kernel_rfl) rfl rfl ?_) | (refine zd rfl ?_; refine zV rfl (by kernel_rfl) rfl rfl ?_) | refine zD ?_ | refine zB _ rfl (by kernel_rfl) ?_ | refine zX rfl ?_ | refine zY rfl ?_ | refine zC ?_ | with_reducible refine zN ?_ | refine zH ?_ | refine zI ?_ | (with_reducible first | refine zL ?_ | refine zM ?_ | refine zE ?_ | refine zG ?_ | refine zF ?_) | refine zO ?_
                exact ⟨rfl, y8 1 [0, 1, 2, 3] rfl rfl yb (by decide) (.cons rfl rfl rfl rfl (zT (zn _)) (.cons rfl rfl rfl rfl (z6 rfl) (.cons rfl rfl rfl rfl (by repeat' first | exact zm | refine zZ ?_ ?_ | exact zo | exact le_refl rfl | exact zj rfl rfl | exact zr rfl | exact zr (congrArg some (by simp [zh] <;> omega)) | exact zj rfl (by simp) | exact zj (congrArg some (by simp [zh] <;> omega)) rfl | exact zj (congrArg some (by simp [zh] <;> omega)) (by simp [yS, endV, yF]) | exact z7 (congrArg _ (by assumption)) | exact z7 (congrArg _ (Eq.symm (by assumption)))) (.cons rfl rfl rfl rfl (zT (zJ _ _)) .nil)))) (by repeat' first | exact zm | refine zZ ?_ ?_ | exact zo | exact le_refl rfl | exact zr rfl)⟩
      · rw [e]
        exact dX (h := 3) (by decide) (yW rfl rfl rfl rfl rfl) (sj (by repeat' first | exact zm | refine zZ ?_ ?_ | exact zo | exact le_refl rfl | exact zj rfl rfl | exact zr rfl | exact zr (congrArg some (by simp [zh] <;> omega)) | exact zj rfl (by simp) | exact zj (congrArg some (by simp [zh] <;> omega)) rfl | exact zj (congrArg some (by simp [zh] <;> omega)) (by simp [yS, endV, yF]) | exact z7 (congrArg _ (by assumption)) | exact z7 (congrArg _ (Eq.symm (by assumption))))) (.cons rfl rfl rfl rfl (zT (zn _)) (.cons rfl rfl rfl rfl (zT (zJ _ _)) .nil))
end Go.Proofs.Ytojcojanokhnaaa.Ab
namespace Go.Proofs.Ytojcojanokhnaaa.Ab
open Go.RowKit
def grD (c : Cur) : Int × Cur := cond (decide (beV 14 c = 0)) (pkV [7, 61] (beC 14 c), beC 2 (beC 14 c)) (pkV [8, 8, 9, 12, 20, 60] (beC 14 c), beC 6 (beC 14 c))
theorem f0 (c : Cur) (hl : c.code.length ≤ 1000000000) : zz Go.Proofs.Try.prog 55 [.ptr 0 0] [xi c] (I (grD c).1) [xi (grD c).2] true := by
  have h1 : (beC 14 c).code.length ≤ 1000000000 := by rw [xD]; exact hl
  refine zx [2] Go.Proofs.Try.func55 rfl rfl ?_
  simp only [Go.Proofs.Try.ntmps55, List.length_cons, List.length_nil, Nat.reduceAdd, Nat.reduceSub, List.replicate_succ, List.replicate_zero, List.cons_append, List.nil_append]
  repeat' first | refine zK ?_ | refine zA ?_ | refine zP [] ?_ | (refine isA ?_; refine zg rfl ?_) | (refine isL ?_; refine zW rfl (by kernel_rfl) rfl rfl ?_) | (refine zd rfl ?_; refine zV rfl (by kernel_rfl) rfl rfl ?_) | (refine zv 113 ?_; refine zb rfl (zp (K := []) (Rs' := [_]) [0] (by decide) rfl (ga 14 c hl) (.cons rfl rfl rfl (zn _) (zn _) .nil) (.cons (.ptr rfl) (.cons (.same rfl) .nil)) (fun q hq => by cases hq) rfl) rfl ?_) | (refine zw 113 rfl ?_; refine zU rfl (by kernel_rfl) rfl (zp (K := []) (Rs' := [_]) [0] (by decide) rfl (ga 14 c hl) (.cons rfl rfl rfl (zn _) (zn _) .nil) (.cons (.ptr rfl) (.cons (.same rfl) .nil)) (fun q hq => by cases hq) rfl) rfl ?_) | refine zD ?_ | refine zB _ rfl (by kernel_rfl) ?_ | refine zX rfl ?_ | refine zY rfl ?_ | refine zC ?_ | with_reducible refine zN ?_ | refine zH ?_ | refine zI ?_ | (with_reducible first | refine zL ?_ | refine zM ?_ | refine zE ?_ | refine zG ?_ | refine zF ?_) | refine zO ?_
  refine zk rfl (fun b0 => ?_) (fun b0 => ?_)
  · skip
    have D : grD c = (pkV [7, 61] (beC 14 c), beC 2 (beC 14 c)) := by rw [grD, b0]; rfl
    repeat' first | (refine isA ?_; refine zb rfl (yO (cs := [7, 61].map I) rfl rfl rfl rfl rfl) rfl ?_) | refine zK ?_ | refine zA ?_ | refine zP [] ?_ | (refine isA ?_; refine zg rfl ?_) | (refine isL ?_; refine zW rfl (by kernel_rfl) rfl rfl ?_) | (refine zd rfl ?_; refine zV rfl (by kernel_rfl) rfl rfl ?_) | (refine zv 111 ?_; refine zb rfl (zp (K := []) (Rs' := [_]) [0] (by decide) rfl (wz [7, 61] (beC 14 c) h1 (by decide)) (.cons rfl rfl rfl (zn _) (zn _) .nil) (.cons (.ptr rfl) (.cons (.same rfl) .nil)) (fun q hq => by cases hq) rfl) rfl ?_) | (refine zw 111 rfl ?_; refine zU rfl (by kernel_rfl) rfl (zp (K := []) (Rs' := [_]) [0] (by decide) rfl (wz [7, 61] (beC 14 c) h1 (by decide)) (.cons rfl rfl rfl (zn _) (zn _) .nil) (.cons (.ptr rfl) (.cons (.same rfl) .nil)) (fun q hq => by cases hq) rfl) rfl ?_) | exact (by rw [D]; exact tY 1 [0] yb (by decide) rfl (le_refl rfl) (.cons rfl rfl rfl rfl (zT (zn _)) .nil)) | refine zD ?_ | refine zB _ rfl (by kernel_rfl) ?_ | refine zX rfl ?_ | refine zY rfl ?_ | refine zC ?_ | with_reducible refine zN ?_ | refine zH ?_ | refine zI ?_ | (with_reducible first | refine zL ?_ | refine zM ?_ | refine zE ?_ | refine zG ?_ | refine zF ?_) | refine zO ?_
  · skip
    have D : grD c = (pkV [8, 8, 9, 12, 20, 60] (beC 14 c), beC 6 (beC 14 c)) := by rw [grD, b0]; rfl
    repeat' first | (refine isA ?_; refine zb rfl (yO (cs := [8, 8, 9, 12, 20, 60].map I) rfl rfl rfl rfl rfl) rfl ?_) | refine zK ?_ | refine zA ?_ | refine zP [] ?_ | (refine isA ?_; refine zg rfl ?_) | (refine isL ?_; refine zW rfl (by kernel_rfl) rfl rfl ?_) | (refine zd rfl ?_; refine zV rfl (by kernel_rfl) rfl rfl ?_) | (refine zv 111 ?_; refine zb rfl (zp (K := []) (Rs' := [_]) [0] (by decide) rfl (wz [8, 8, 9, 12, 20, 60] (beC 14 c) h1 (by decide)) (.cons rfl rfl rfl (zn _) (zn _) .nil) (.cons (.ptr rfl) (.cons (.same rfl) .nil)) (fun q hq => by cases hq) rfl) rfl ?_) | (refine zw 111 rfl ?_; refine zU rfl (by kernel_rfl) rfl (zp (K := []) (Rs' := [_]) [0] (by decide) rfl (wz [8, 8, 9, 12, 20, 60] (beC 14 c) h1 (by decide)) (.cons rfl rfl rfl (zn _) (zn _) .nil) (.cons (.ptr rfl) (.cons (.same rfl) .nil)) (fun q hq => by cases hq) rfl) rfl ?_) | exact (by rw [D]; exact tY 1 [0] yb (by decide) rfl (le_refl rfl) (.cons rfl rfl rfl rfl (zT (zn _)) .nil)) | refine zD ?_ | refine zB _ rfl (by kernel_rfl) ?_ | refine zX rfl ?_ | refine zY rfl ?_ | refine zC ?_ | with_reducible refine zN ?_ | refine zH ?_ | refine zI ?_ | (with_reducible first | refine zL ?_ | refine zM ?_ | refine zE ?_ | refine zG ?_ | refine zF ?_) | refine zO ?_
noncomputable def fm (xs : List Int) : So := (tS (tw xs)).1
noncomputable def db (xs : List Int) : Int := (grD (tS (tw xs)).2).1
theorem da (xs : List Int) : Dn (fm xs) := (mS _).2
theorem gm (xs : List Int) (hl : xs.length ≤ 1000000000) : zz Go.Proofs.Try.prog 12 [wD u8T xs] [] (.tup [.agg (soE (fm xs)), I (db xs)]) [] true := by
  have k0 : (tw xs).code.length ≤ 1000000000 := hl
  have b1 := frzS (dz (tw xs) k0) (fU (h := 1) rfl)
  obtain ⟨kc, _⟩ := mS (tw xs)
  have hD : fm xs = (tS (tw xs)).1 := rfl
  have hG : db xs = (grD (tS (tw xs)).2).1 := rfl
  rw [hD, hG]
  have k1 : (tS (tw xs)).2.code.length ≤ 1000000000 := by rw [kc]; exact k0
  generalize tS (tw xs) = p at b1 k1
  have b2 := f0 p.2 k1
  refine ya 2 27 [3] Go.Proofs.Try.func12 rfl rfl rfl ?_
  simp only [Go.Proofs.Try.ntmps12, List.length_cons, List.length_nil, Nat.reduceAdd, Nat.reduceSub, List.replicate_succ, List.replicate_zero, List.cons_append, List.nil_append]
  repeat' first | refine zK ?_ | refine zA ?_ | refine zP [] ?_ | (refine isA ?_; refine zg rfl ?_) | (refine isL ?_; refine zW rfl (by kernel_rfl) rfl rfl ?_) | (refine zd rfl ?_; refine zV rfl (by kernel_rfl) rfl rfl ?_) | (refine zv 53 ?_; refine zb rfl (ye rfl (dA xs hl) (.cons (.same rfl) .nil) (fun q hq => by simp at hq; subst hq; exact zn _) rfl rfl) rfl ?_) | (refine zw 53 rfl ?_; refine zU rfl (by kernel_rfl) rfl (ye rfl (dA xs hl) (.cons (.same rfl) .nil) (fun q hq => by simp at hq; subst hq; exact zn _) rfl rfl) rfl ?_) | (refine zv 54 ?_; refine zb rfl (zp (K := []) (Rs' := [_]) [1] (by decide) rfl b1 (.cons rfl rfl rfl (zn _) (zn _) .nil) (.cons (.ptr rfl) .nil) (fun q hq => by cases hq) rfl) rfl ?_) | (refine zw 54 rfl ?_; refine zU rfl (by kernel_rfl) rfl (zp (K := []) (Rs' := [_]) [1] (by decide) rfl b1 (.cons rfl rfl rfl (zn _) (zn _) .nil) (.cons (.ptr rfl) .nil) (fun q hq => by cases hq) rfl) rfl ?_) | (refine zv 55 ?_; refine zb rfl (zp (K := []) (Rs' := [_]) [1] (by decide) rfl b2 (.cons rfl rfl rfl (zn _) (zn _) .nil) (.cons (.ptr rfl) .nil) (fun q hq => by cases hq) rfl) rfl ?_) | (refine zw 55 rfl ?_; refine zU rfl (by kernel_rfl) rfl (zp (K := []) (Rs' := [_]) [1] (by decide) rfl b2 (.cons rfl rfl rfl (zn _) (zn _) .nil) (.cons (.ptr rfl) .nil) (fun q hq => by cases hq) rfl) rfl ?_) | exact jM (yW rfl rfl rfl rfl rfl) (.tup (.cons (.agg (by repeat' first | exact Purs.nil | refine Purs.cons ?_ ?_ | exact zt rfl | exact yP rfl rfl | exact zt (T := rwT) (x := []) rfl | exact Pur.nil | exact Pur.same rfl | exact yx (by assumption))) (.cons (.same rfl) .nil))) | refine zD ?_ | refine zB _ rfl (by kernel_rfl) ?_ | refine zX rfl ?_ | refine zY rfl ?_ | refine zC ?_ | with_reducible refine zN ?_ | refine zH ?_ | refine zI ?_ | (with_reducible first | refine zL ?_ | refine zM ?_ | refine zE ?_ | refine zG ?_ | refine zF ?_) | refine zO ?_
theorem go (xs : List Int) : zz Go.Proofs.Try.prog 11 [wD u8T xs] [] (B (decide ((1048576 : Int) < xs.length))) [] false := by
  refine zx [2] Go.Proofs.Try.func11 rfl rfl ?_
  simp only [Go.Proofs.Try.ntmps11, List.length_cons, List.length_nil, Nat.reduceAdd, Nat.reduceSub, List.replicate_succ, List.replicate_zero, List.cons_append, List.nil_append]
  repeat' first | refine zK ?_ | refine zA ?_ | refine zP [] ?_ | (refine isA ?_; refine zg rfl ?_) | (refine isL ?_; refine zW rfl (by kernel_rfl) rfl rfl ?_) | (refine zd rfl ?_; refine zV rfl (by kernel_rfl) rfl rfl ?_) | exact yK rfl rfl rfl | refine zD ?_ | refine zB _ rfl (by kernel_rfl) ?_ | refine zX rfl ?_ | refine zY rfl ?_ | refine zC ?_ | with_reducible refine zN ?_ | refine zH ?_ | refine zI ?_ | (with_reducible first | refine zL ?_ | refine zM ?_ | refine zE ?_ | refine zG ?_ | refine zF ?_) | refine zO ?_
end Go.Proofs.Ytojcojanokhnaaa.Ab
namespace Go.Proofs.Ytojcojanokhnaaa.Ab
open Go.RowKit
theorem kb (x : Rw) : rwD x x = true := qp.2 rfl
theorem mu (xs : List Rw) (hl : xs.length ≤ 1000000000) : zz Go.Proofs.Try.prog 16 [rwL xs, rwL xs] [] (B true) [] false := by
  refine zx [4] Go.Proofs.Try.func16 rfl rfl ?_
  simp only [Go.Proofs.Try.ntmps16, List.length_cons, List.length_nil, Nat.reduceAdd, Nat.reduceSub, List.replicate_succ, List.replicate_zero, List.cons_append, List.nil_append]
  repeat' first | (refine isA ?_; refine zb rfl (qM rfl rfl rfl) rfl ?_) | refine zK ?_ | refine zA ?_ | refine zP [] ?_ | (refine isA ?_; refine zg rfl ?_) | (refine isL ?_; refine zW rfl (by kernel_rfl) rfl rfl ?_) | (refine zd rfl ?_; refine zV rfl (by kernel_rfl) rfl rfl ?_) | refine zD ?_ | refine zB _ rfl (by kernel_rfl) ?_ | refine zX rfl ?_ | refine zY rfl ?_ | refine zC ?_ | with_reducible refine zN ?_ | refine zH ?_ | refine zI ?_ | (with_reducible first | refine zL ?_ | refine zM ?_ | refine zE ?_ | refine zG ?_ | refine zF ?_) | refine zO ?_
  refine yE (α := { i : Nat // i ≤ xs.length }) (fun i => ⟨[rwL xs, rwL xs, .any, .any, .any, I i.1, .any, .any, .any, .any, .any, .any, .any, .any, .any, .any, .any, .any, .any, .any, .any, .any, .any, .any, .any, .any], [], 0⟩) (fun i => xs.length - i.1) ⟨0, Nat.zero_le _⟩ ?_ ?_
  · exact xI rfl (by repeat' first | exact EqS.nil | refine EqS.any ?_ | refine EqS.same rfl ?_)
  · rintro ⟨i, hi⟩
    repeat' first | refine zK ?_ | refine zA ?_ | refine zP [] ?_ | (refine isA ?_; refine zg rfl ?_) | (refine isL ?_; refine zW rfl (by kernel_rfl) rfl rfl ?_) | (refine zd rfl ?_; refine zV rfl (by kernel_rfl) rfl rfl ?_) | refine zD ?_ | refine zB _ rfl (by kernel_rfl) ?_ | refine zX rfl ?_ | refine zY rfl ?_ | refine zC ?_ | with_reducible refine zN ?_ | refine zH ?_ | refine zI ?_ | (with_reducible first | refine zL ?_ | refine zM ?_ | refine zE ?_ | refine zG ?_ | refine zF ?_) | refine zO ?_
    refine zk rfl (fun h => ?_) (fun h => ?_)
    · have hlt : i < xs.length := by simpa using h
      obtain ⟨x, hx⟩ : ∃ z, xs[i]? = some z := ⟨_, List.getElem?_eq_getElem hlt⟩
      repeat' first | refine zK ?_ | refine zA ?_ | refine zP [] ?_ | (refine isA ?_; refine zg rfl ?_) | (refine isL ?_; refine zW rfl (by kernel_rfl) rfl rfl ?_) | (refine zd rfl ?_; refine zV rfl (by kernel_rfl) rfl rfl ?_) | (refine yB (x := .tmp 17) ?_; refine zb rfl (z5 (t := rwT) (z := x) rfl rfl rfl rfl (Int.natCast_nonneg i) hx) rfl ?_) | (refine yA (x := .tmp 17) rfl ?_; refine zU rfl (by kernel_rfl) rfl (z5 (t := rwT) (z := x) rfl rfl rfl rfl (Int.natCast_nonneg i) hx) rfl ?_) | (refine yB (x := .tmp 21) ?_; refine zb rfl (z5 (t := rwT) (z := x) rfl rfl rfl rfl (Int.natCast_nonneg i) hx) rfl ?_) | (refine yA (x := .tmp 21) rfl ?_; refine zU rfl (by kernel_rfl) rfl (z5 (t := rwT) (z := x) rfl rfl rfl rfl (Int.natCast_nonneg i) hx) rfl ?_) | refine zb rfl (tk rfl rfl rfl) rfl ?_ | refine zU rfl (by kernel_rfl) rfl (tk rfl rfl rfl) rfl ?_ | refine zD ?_ | refine zB _ rfl (by kernel_rfl) ?_ | refine zX rfl ?_ | refine zY rfl ?_ | refine zC ?_ | with_reducible refine zN ?_ | refine zH ?_ | refine zI ?_ | (with_reducible first | refine zL ?_ | refine zM ?_ | refine zE ?_ | refine zG ?_ | refine zF ?_) | refine zO ?_
      refine zk rfl (fun h1 => absurd h1 (by rw [kb]; decide)) (fun _ => ?_)
      repeat' first | refine zK ?_ | refine zA ?_ | refine zP [] ?_ | (refine isA ?_; refine zg rfl ?_) | (refine isL ?_; refine zW rfl (by kernel_rfl) rfl rfl ?_) | (refine zd rfl ?_; refine zV rfl (by kernel_rfl) rfl rfl ?_) | refine zD ?_ | refine zB _ rfl (by kernel_rfl) ?_ | refine zX rfl ?_ | refine zY rfl ?_ | refine zC ?_ | with_reducible refine zN ?_ | refine zH ?_ | refine zI ?_ | (with_reducible first | refine zL ?_ | refine zM ?_ | refine zE ?_ | refine zG ?_ | refine zF ?_) | refine zO ?_
      refine ⟨⟨i + 1, hlt⟩, by simp only; omega, ?_⟩
      exact xI rfl (by repeat' first | exact EqS.nil | refine EqS.any ?_ | refine EqS.same rfl ?_ | refine EqS.same (sn (by assumption) (by omega)) ?_)
    · repeat' first | refine zK ?_ | refine zA ?_ | refine zP [] ?_ | (refine isA ?_; refine zg rfl ?_) | (refine isL ?_; refine zW rfl (by kernel_rfl) rfl rfl ?_) | (refine zd rfl ?_; refine zV rfl (by kernel_rfl) rfl rfl ?_) | exact yK rfl rfl rfl | refine zD ?_ | refine zB _ rfl (by kernel_rfl) ?_ | refine zX rfl ?_ | refine zY rfl ?_ | refine zC ?_ | with_reducible refine zN ?_ | refine zH ?_ | refine zI ?_ | (with_reducible first | refine zL ?_ | refine zM ?_ | refine zE ?_ | refine zG ?_ | refine zF ?_) | refine zO ?_
theorem qV (xs : List Rw) : xN xs xs = true := vG.2 rfl
theorem qU : ∀ rs : List Rn, tZ rs rs = true
  | [] => rfl
  | x :: xs => by rw [tZ, qV, qU xs]; rfl
theorem lg (s : So) : lh s s = true := by
  simp only [lh, qV, qU, decide_true, Bool.and_self]
theorem Dn.ok {s : So} (h : Dn s) : okSo s := by
  obtain ⟨h1, h2, h3, h4, h5, h6⟩ := h.sm
  exact ⟨by omega, by omega, by omega, by omega, by omega, by omega⟩
theorem qO {s : So} (h : vS s = true) : 0 ≤ yj s ∧ yj s ≤ 60 := by
  refine ⟨k8 s, ?_⟩
  cases vA.1 h with
  | read b q => rw [vE q.ph]; exact q.mem
  | merge b t ph => have := vf (s := s) (by omega); omega
  | emit b t ph => have := vf (s := s) (by omega); omega
  | done b t ph => have := vf (s := s) (by omega); omega
theorem uT (xs : List Int) (hl0 : xs.length ≤ 9223372036854775807) : zz Go.Proofs.Try.prog 3 [wD u8T xs] [] (B true) [] false := by
  refine zx [2] Go.Proofs.Try.func3 rfl rfl ?_
  simp only [Go.Proofs.Try.ntmps3, List.length_cons, List.length_nil, Nat.reduceAdd, Nat.reduceSub, List.replicate_succ, List.replicate_zero, List.cons_append, List.nil_append]
  repeat' first | refine zK ?_ | refine zA ?_ | refine zP [] ?_ | (refine isA ?_; refine zg rfl ?_) | (refine isL ?_; refine zW rfl (by kernel_rfl) rfl rfl ?_) | (refine zd rfl ?_; refine zV rfl (by kernel_rfl) rfl rfl ?_) | (refine zv 11 ?_; refine zb rfl (zQ rfl (go xs) (.cons (.same rfl) .nil) rfl) rfl ?_) | (refine zw 11 rfl ?_; refine zU rfl (by kernel_rfl) rfl (zQ rfl (go xs) (.cons (.same rfl) .nil) rfl) rfl ?_) | refine zD ?_ | refine zB _ rfl (by kernel_rfl) ?_ | refine zX rfl ?_ | refine zY rfl ?_ | refine zC ?_ | with_reducible refine zN ?_ | refine zH ?_ | refine zI ?_ | (with_reducible first | refine zL ?_ | refine zM ?_ | refine zE ?_ | refine zG ?_ | refine zF ?_) | refine zO ?_
  refine zk rfl (fun h => ?_) (fun h => ?_)
  · repeat' first | refine zK ?_ | refine zA ?_ | refine zP [] ?_ | (refine isA ?_; refine zg rfl ?_) | (refine isL ?_; refine zW rfl (by kernel_rfl) rfl rfl ?_) | (refine zd rfl ?_; refine zV rfl (by kernel_rfl) rfl rfl ?_) | exact yK rfl rfl rfl | refine zD ?_ | refine zB _ rfl (by kernel_rfl) ?_ | refine zX rfl ?_ | refine zY rfl ?_ | refine zC ?_ | with_reducible refine zN ?_ | refine zH ?_ | refine zI ?_ | (with_reducible first | refine zL ?_ | refine zM ?_ | refine zE ?_ | refine zG ?_ | refine zF ?_) | refine zO ?_
  have hl : xs.length ≤ 1000000000 := by have := of_decide_eq_false h; omega
  have d1 := gm xs hl
  have hd := da xs
  generalize fm xs = s at d1 hd
  generalize db xs = g at d1
  obtain ⟨x, r, b, ho⟩ := sd s g
  have hok := hd.ok
  have a1 := d4 hok ho
  have a2 := dn hok ho
  have hokx : okSo x := by
    cases ho with
    | yes hv h1 h => exact (n9 (vA.1 hv) h).ok.1
    | no h => exact hok
  have hrl := ho.len
  have e1 := dk x x hokx
  rw [lg] at e1
  have e2 := mu r (by omega)
  have i1 := nG s hok
  have i2 := uB s hok
  have m1 := tb s hok
  have m2 := pD s hok
  repeat' first | (refine xn 6 ⟨(.any :: .any :: .any :: (.ptr 0 0) :: (I g) :: (.ptr 1 0) :: (rwL r) :: (B b) :: .any :: .any :: .any :: .any :: .any :: .any :: .any :: .any :: .any :: .any :: .any :: .any :: .any :: .any :: .any :: .any :: .any :: .any :: .any :: .any :: .any :: .any :: .any :: .any :: .any :: .any :: .any :: .any :: .any :: .any :: .any :: .any :: .any :: .any :: .any :: .any :: .any :: .any :: .any :: .any :: .any :: .any :: .any :: .any :: .any :: .any :: .any :: .any :: .any :: .any :: .any :: .any :: .any :: .any :: .any :: .any :: .any :: .any :: .any :: .any :: .any :: .any :: .any :: .any :: .any :: .any :: .any :: .any :: .any :: .any :: .any :: .any :: .any :: .any :: .any :: .any :: .any :: .any :: .any :: .any :: .any :: .any :: .any :: .any :: .any :: .any :: .any :: .any :: .any :: .any :: .any :: .any :: .any :: .any :: .any :: .any :: .any :: .any :: .any :: .any :: .any :: .any :: .any :: .any :: .any :: .any :: .any :: .any :: .any :: .any :: .any :: .any :: .any :: .any :: []), [bxS (soE s), bxS (soE x), bxS (soE x)], 0⟩ (xE ?_) (xE ?_)) | refine zK ?_ | refine zA ?_ | refine zP [] ?_ | (refine isA ?_; refine zg rfl ?_) | (refine isL ?_; refine zW rfl (by kernel_rfl) rfl rfl ?_) | (refine zd rfl ?_; refine zV rfl (by kernel_rfl) rfl rfl ?_) | (refine zv 12 ?_; refine zb rfl (zQ rfl d1 (.cons (.same rfl) .nil) rfl) rfl ?_) | (refine zw 12 rfl ?_; refine zU rfl (by kernel_rfl) rfl (zQ rfl d1 (.cons (.same rfl) .nil) rfl) rfl ?_) | (refine zv 13 ?_; refine zb rfl (zQ rfl a1 (.cons (.same rfl) (.cons (.same rfl) .nil)) rfl) rfl ?_) | (refine zw 13 rfl ?_; refine zU rfl (by kernel_rfl) rfl (zQ rfl a1 (.cons (.same rfl) (.cons (.same rfl) .nil)) rfl) rfl ?_) | (refine zv 14 ?_; refine zb rfl (zQ rfl a2 (.cons (.same rfl) (.cons (.same rfl) .nil)) rfl) rfl ?_) | (refine zw 14 rfl ?_; refine zU rfl (by kernel_rfl) rfl (zQ rfl a2 (.cons (.same rfl) (.cons (.same rfl) .nil)) rfl) rfl ?_) | refine zD ?_ | refine zB _ rfl (by kernel_rfl) ?_ | refine zX rfl ?_ | refine zY rfl ?_ | refine zC ?_ | with_reducible refine zN ?_ | refine zH ?_ | refine zI ?_ | (with_reducible first | refine zL ?_ | refine zM ?_ | refine zE ?_ | refine zG ?_ | refine zF ?_) | refine zO ?_
  · refine xl ?_
    repeat' first | (refine isL ?_; refine zU rfl (by kernel_rfl) rfl (lW rfl rfl rfl (by kernel_rfl)) rfl ?_) | (refine isL ?_; refine zU rfl (by kernel_rfl) rfl (qM rfl rfl rfl) rfl ?_) | refine zK ?_ | refine zA ?_ | refine zP [] ?_ | (refine isA ?_; refine zg rfl ?_) | (refine isL ?_; refine zW rfl (by kernel_rfl) rfl rfl ?_) | (refine zd rfl ?_; refine zV rfl (by kernel_rfl) rfl rfl ?_) | (refine zv 15 ?_; refine zb rfl (zQ rfl e1 (.cons (.same rfl) (.cons (.same rfl) .nil)) rfl) rfl ?_) | (refine zw 15 rfl ?_; refine zU rfl (by kernel_rfl) rfl (zQ rfl e1 (.cons (.same rfl) (.cons (.same rfl) .nil)) rfl) rfl ?_) | (refine zv 16 ?_; refine zb rfl (zQ rfl e2 (.cons (.same rfl) (.cons (.same rfl) .nil)) rfl) rfl ?_) | (refine zw 16 rfl ?_; refine zU rfl (by kernel_rfl) rfl (zQ rfl e2 (.cons (.same rfl) (.cons (.same rfl) .nil)) rfl) rfl ?_) | (refine zv 17 ?_; refine zb rfl (zQ rfl i1 (.cons (.same rfl) .nil) rfl) rfl ?_) | (refine zw 17 rfl ?_; refine zU rfl (by kernel_rfl) rfl (zQ rfl i1 (.cons (.same rfl) .nil) rfl) rfl ?_) | (refine zv 18 ?_; refine zb rfl (zQ rfl i2 (.cons (.same rfl) .nil) rfl) rfl ?_) | (refine zw 18 rfl ?_; refine zU rfl (by kernel_rfl) rfl (zQ rfl i2 (.cons (.same rfl) .nil) rfl) rfl ?_) | (refine zv 19 ?_; refine zb rfl (zQ rfl m1 (.cons (.same rfl) .nil) rfl) rfl ?_) | (refine zw 19 rfl ?_; refine zU rfl (by kernel_rfl) rfl (zQ rfl m1 (.cons (.same rfl) .nil) rfl) rfl ?_) | (refine zv 20 ?_; refine zb rfl (zQ rfl m2 (.cons (.same rfl) .nil) rfl) rfl ?_) | (refine zw 20 rfl ?_; refine zU rfl (by kernel_rfl) rfl (zQ rfl m2 (.cons (.same rfl) .nil) rfl) rfl ?_) | exact ⟨rfl, yf [0, 1, 2] rfl rfl (by decide) (.cons rfl rfl rfl rfl (z6 rfl) (.cons rfl rfl rfl rfl (z6 rfl) (.cons rfl rfl rfl rfl (z6 rfl) .nil))) (by repeat' first | exact zm | refine zZ ?_ ?_ | exact zo | exact le_refl rfl | exact zj rfl rfl | exact zr rfl)⟩ | refine zD ?_ | refine zB _ rfl (by kernel_rfl) ?_ | refine zX rfl ?_ | refine zY rfl ?_ | refine zC ?_ | with_reducible refine zN ?_ | refine zH ?_ | refine zI ?_ | (with_reducible first | refine zL ?_ | refine zM ?_ | refine zE ?_ | refine zG ?_ | refine zF ?_) | refine zO ?_
  · refine xl ?_
    cases ho with
    | no h =>
      repeat' first | refine zK ?_ | refine zA ?_ | refine zP [] ?_ | (refine isA ?_; refine zg rfl ?_) | (refine isL ?_; refine zW rfl (by kernel_rfl) rfl rfl ?_) | (refine zd rfl ?_; refine zV rfl (by kernel_rfl) rfl rfl ?_) | (refine zv 15 ?_; refine zb rfl (zQ rfl e1 (.cons (.same rfl) (.cons (.same rfl) .nil)) rfl) rfl ?_) | (refine zw 15 rfl ?_; refine zU rfl (by kernel_rfl) rfl (zQ rfl e1 (.cons (.same rfl) (.cons (.same rfl) .nil)) rfl) rfl ?_) | exact yK rfl rfl rfl | refine zD ?_ | refine zB _ rfl (by kernel_rfl) ?_ | refine zX rfl ?_ | refine zY rfl ?_ | refine zC ?_ | with_reducible refine zN ?_ | refine zH ?_ | refine zI ?_ | (with_reducible first | refine zL ?_ | refine zM ?_ | refine zE ?_ | refine zG ?_ | refine zF ?_) | refine zO ?_
    | yes hv h1 h =>
      have hg : 8 ≤ g ∧ g ≤ 60 := by simpa [inV] using h1
      have hw := hd.w1
      have hx := nP (vA.1 hv) hg.1 hg.2 (by omega) h
      have hvx := vA.2 hx
      have f1 := nG x hokx
      have f2 := uB x hokx
      rw [hvx] at f1 f2
      have f3 := tb x hokx
      have f4 := kF hg.1 h
      have f5 : zz Go.Proofs.Try.prog 16 [rwL x.input, rwL s.input] [] (B true) [] false := by
        rw [nS h]
        exact mu s.input (by have := hok.input; omega)
      have f6 := n8 h hd.w0 (by omega)
      have f7 := kA h
      have f8 := lD h
      have f9 := gf x hokx
      have g9 := gf s hok
      rw [rmV, hvx, cond_true] at f9
      rw [rmV, hv, cond_true] at g9
      have g8 : 0 ≤ uQ s ∧ uQ s ≤ 10000000 := by
        have q1 := hok.input
        by_cases p3 : s.ph = 3
        · have := qr hv (Or.inl p3)
          rw [mH p3]
          omega
        · by_cases p4 : s.ph = 4
          · have := qr hv (Or.inr p4)
            rw [kh p4]
            omega
          · rw [wP p3 p4]
            omega
      have f8w : uQ x = IntKind.i64.wrap (uQ s - r.length) := by rw [IntKind.wrap_i64]; omega
      have ms := qO hv
      have mx := qO hvx
      repeat' first | refine zK ?_ | refine zA ?_ | refine zP [] ?_ | (refine isA ?_; refine zg rfl ?_) | (refine isL ?_; refine zW rfl (by kernel_rfl) rfl rfl ?_) | (refine zd rfl ?_; refine zV rfl (by kernel_rfl) rfl rfl ?_) | exact absurd hbr (by simp only [decide_eq_false_iff_not]; omega) | (refine zv 17 ?_; refine zb rfl (zQ rfl f1 (.cons (.same rfl) .nil) rfl) rfl ?_) | (refine zw 17 rfl ?_; refine zU rfl (by kernel_rfl) rfl (zQ rfl f1 (.cons (.same rfl) .nil) rfl) rfl ?_) | (refine zv 18 ?_; refine zb rfl (zQ rfl f2 (.cons (.same rfl) .nil) rfl) rfl ?_) | (refine zw 18 rfl ?_; refine zU rfl (by kernel_rfl) rfl (zQ rfl f2 (.cons (.same rfl) .nil) rfl) rfl ?_) | (refine zv 19 ?_; refine zb rfl (zQ rfl f3 (.cons (.same rfl) .nil) rfl) rfl ?_) | (refine zw 19 rfl ?_; refine zU rfl (by kernel_rfl) rfl (zQ rfl f3 (.cons (.same rfl) .nil) rfl) rfl ?_) | (refine zv 19 ?_; refine zb rfl (zQ rfl m1 (.cons (.same rfl) .nil) rfl) rfl ?_) | (refine zw 19 rfl ?_; refine zU rfl (by kernel_rfl) rfl (zQ rfl m1 (.cons (.same rfl) .nil) rfl) rfl ?_) | (refine zv 16 ?_; refine zb rfl (zQ rfl f5 (.cons (.same rfl) (.cons (.same rfl) .nil)) rfl) rfl ?_) | (refine zw 16 rfl ?_; refine zU rfl (by kernel_rfl) rfl (zQ rfl f5 (.cons (.same rfl) (.cons (.same rfl) .nil)) rfl) rfl ?_) | (refine zv 21 ?_; refine zb rfl (zQ rfl f9 (.cons (.same rfl) .nil) rfl) rfl ?_) | (refine zw 21 rfl ?_; refine zU rfl (by kernel_rfl) rfl (zQ rfl f9 (.cons (.same rfl) .nil) rfl) rfl ?_) | (refine zv 21 ?_; refine zb rfl (zQ rfl g9 (.cons (.same rfl) .nil) rfl) rfl ?_) | (refine zw 21 rfl ?_; refine zU rfl (by kernel_rfl) rfl (zQ rfl g9 (.cons (.same rfl) .nil) rfl) rfl ?_) | exact yK rfl rfl (by rw [show decide ((r.length : Int) ≤ 1) = true from decide_eq_true (by omega)]) | refine zD ?_ | refine zB _ rfl (by kernel_rfl) ?_ | refine zX rfl ?_ | refine zY rfl ?_ | refine zC ?_ | with_reducible refine zN ?_ | refine zH ?_ | refine zI ?_ | (with_reducible first | refine zL ?_ | refine zM ?_ | refine zE ?_ | refine zG ?_ | refine zF ?_) | refine zO ?_ | (refine wW ?_; refine yX rfl rfl (fun hbr => ?_) (fun hbr => ?_) <;> (fail_if_success (with_reducible (have hx : true = true := hbr))) <;> (fail_if_success (with_reducible (have hx : false = false := hbr)))) | (refine zd rfl ?_; refine yJ rfl rfl rfl rfl (fun hbr => ?_) (fun hbr => ?_) <;> (fail_if_success (with_reducible (have hx : true = true := hbr))) <;> (fail_if_success (with_reducible (have hx : false = false := hbr))))
end Go.Proofs.Ytojcojanokhnaaa.Ab
namespace Go.Proofs.Ytojcojanokhnaaa.Ab
open Go.RowKit
section
variable {A : Nat → Prop} {W : World}
theorem ls {a : Option Addr} {len cap : Nat} {e : V} (h2 : zy A W [] [e] (fun i => (Value.slice a len cap).cells.toList[i]?)) : Rel A W [] e (.slice a len cap) := by
  obtain ⟨y, h3, h4⟩ := yi h2 (i := 0) (c := e) rfl
  have : y = .slice a len cap := by simpa [Value.cells] using h3.symm
  subst this
  exact h4
end
section
variable {P : Program} {β : Type} {off tot : Nat} {f : Field} {fs : List Field} {eb : β → List V} {okb : β → Prop}
end
section
variable {A : Nat → Prop} {W : World}
end
end Go.Proofs.Ytojcojanokhnaaa.Ab
namespace Go.Proofs.Ytojcojanokhnaaa.Ab
open Go.RowKit
theorem o_u8 : m9 Go.Proofs.Try.prog 22 (fun l : List Int => [wD u8T l]) (okL (okI .u8)) := pc Go.Proofs.Try.underlying22 (by kernel_rfl) (lV Go.Proofs.Try.underlying5)
end Go.Proofs.Ytojcojanokhnaaa.Ab
