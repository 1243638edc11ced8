/- What the row FnExactRunSort leans on, part 4: a walk over abstract values, and contracts proved with it. -/
import Derived.WalkKit
import Derived.Laws.Rows
import Derived.RowKit
import Derived.OrdersHeld
import Derived.Deep.RegionHeld3
import Derived.Deep.Draws
import Derived.BigCall
import Derived.KernelRfl
import Derived.Deep.Slices
import Derived.ChangeArms
import Derived.ChangeShapes
import Derived.WideShapes
import Derived.Laws.StructEq
import Derived.Lib.Overlaps
import Derived.Test.YtojcojanokhnaaaProg
import Derived.Test.YtojcojanokhnaaaZy2
set_option linter.unusedVariables false
set_option linter.unusedSimpArgs false
set_option maxRecDepth 20000
set_option maxHeartbeats 8000000
namespace Go.Proofs.Ytojcojanokhnaaa.Ab
open Go.RowKit
theorem kL (xs : List Rw) (a : Nat) (h2 : a ≤ xs.length) (hl : xs.length ≤ 100000000) : zy Go.Proofs.Try.prog 130 [.sl 0 0 xs.length, I a, I a, .fn 64 []] [rwR xs] (.tup []) [rwR xs] true := by
  refine zw [] Go.Proofs.Try.func130 rfl rfl ?_
  simp only [Go.Proofs.Try.ntmps130, List.length_cons, List.length_nil, Nat.reduceAdd, Nat.reduceSub, List.replicate_succ, List.replicate_zero, List.cons_append, List.nil_append]
  repeat' first | refine zL ?_ | refine zA ?_ | refine zQ [] ?_ | (refine isA ?_; refine zf rfl ?_) | (refine isL ?_; refine zV rfl (by kernel_rfl) rfl rfl ?_) | (refine zc rfl ?_; refine zU rfl (by kernel_rfl) rfl rfl ?_) | refine zD ?_ | refine zB _ rfl (by kernel_rfl) ?_ | refine zW rfl ?_ | refine zX rfl ?_ | refine zC ?_ | with_reducible refine zO ?_ | refine zI ?_ | refine zJ ?_ | (with_reducible first | refine zM ?_ | refine zN ?_ | refine zF ?_ | refine zH ?_ | refine zG ?_) | refine zP ?_
  refine z9 (α := Unit) (fun i => ⟨[.sl 0 0 xs.length, I a, I a, .fn 64 [], .any, .any, .any, .any, I ((a + 1 : Nat) : Int), .any, .any, .any, .any, .any, .any, .any, .any, .any, .any, .any, .any, .any, .any, .any, .any, .any, .any, .any, .any, .any, .any, .any, .any, .any, .any, .any, .any, .any, .any, .any, .any, .any, .any, .any, .any, .any, .any, .any, .any, .any, .any, .any, .any], [rwR xs], 1⟩) (fun i => 0) () ?_ ?_
  · exact xE 1 [0] rfl rfl yo (by decide) (.cons rfl rfl rfl rfl (zY (zE _ _)) .nil) (by
      repeat' first | exact zj | refine zZ ?_ ?_ | exact zp | exact le_refl rfl | exact zm rfl rfl | exact yC (congrArg _ (show ((a + 1 : Nat) : Int) = IntKind.i64.wrap ((a : Int) + 1) by rw [IntKind.wrap_i64]; omega)))
  · rintro ⟨⟩
    repeat' first | refine zL ?_ | refine zA ?_ | refine zQ [] ?_ | (refine isA ?_; refine zf rfl ?_) | (refine isL ?_; refine zV rfl (by kernel_rfl) rfl rfl ?_) | (refine zc rfl ?_; refine zU rfl (by kernel_rfl) rfl rfl ?_) | refine zD ?_ | refine zB _ rfl (by kernel_rfl) ?_ | refine zW rfl ?_ | refine zX rfl ?_ | refine zC ?_ | with_reducible refine zO ?_ | refine zI ?_ | refine zJ ?_ | (with_reducible first | refine zM ?_ | refine zN ?_ | refine zF ?_ | refine zH ?_ | refine zG ?_) | refine zP ?_
    refine zh rfl (fun h => absurd (of_decide_eq_true h) (by omega)) (fun h => ?_)
    repeat' first | refine zL ?_ | refine zA ?_ | refine zQ [] ?_ | (refine isA ?_; refine zf rfl ?_) | (refine isL ?_; refine zV rfl (by kernel_rfl) rfl rfl ?_) | (refine zc rfl ?_; refine zU rfl (by kernel_rfl) rfl rfl ?_) | exact tK 1 [0] yo (by decide) (.cons rfl rfl rfl rfl (zY (zE _ _)) .nil) | refine zD ?_ | refine zB _ rfl (by kernel_rfl) ?_ | refine zW rfl ?_ | refine zX rfl ?_ | refine zC ?_ | with_reducible refine zO ?_ | refine zI ?_ | refine zJ ?_ | (with_reducible first | refine zM ?_ | refine zN ?_ | refine zF ?_ | refine zH ?_ | refine zG ?_) | refine zP ?_
theorem fE {ds rs : List Rw} {L : Nat} {a b : Int} (U X W : List Rw) (hd : ds = U ++ X ++ W) (hL : L = ds.length) (hl : L ≤ 100000000) (ha : a = (U.length : Int)) (hb : b = ((U ++ X).length : Int)) (hr : rs = U ++ yM X ++ W) :
    zy Go.Proofs.Try.prog 130 [.sl 0 0 L, I a, I b, .fn 64 []] [rwR ds] (.tup []) [rwR rs] true := by
  subst hd hL ha hb hr
  rcases Nat.eq_zero_or_pos X.length with h | h
  · rw [List.eq_nil_of_length_eq_zero h]
    have q := kL (U ++ W) U.length (by simp) (by simp at hl ⊢; omega)
    rw [show yM ([] : List Rw) = [] from rfl, List.append_nil]
    exact q
  · have q := fD (U ++ X ++ W) U.length (U ++ X).length (by simp; omega) (by simp) hl
    have e : sZ (U ++ X ++ W) U.length (U ++ X).length = U ++ yM X ++ W := by
      unfold sZ
      rw [show (U ++ X ++ W).take U.length = U by rw [List.append_assoc]; exact List.take_left' rfl, show (U ++ X ++ W).drop U.length = X ++ W by rw [List.append_assoc]; exact List.drop_left' rfl, show (U ++ X).length - U.length = X.length by simp, show (X ++ W).take X.length = X from List.take_left' rfl, show (U ++ X ++ W).drop (U ++ X).length = W from List.drop_left' rfl, List.append_assoc]
    rw [e] at q
    exact q
structure Bkk (s : Nat) (xs : List Rw) (p : List Rw × List Rw) : Prop where
  f : mR s p.1
  p : (p.1 ++ p.2).Perm xs
theorem Bkk.len {s : Nat} {xs : List Rw} {p : List Rw × List Rw} (h : Bkk s xs p) : p.1.length + p.2.length = xs.length := by
  have := h.p.length_eq
  rw [List.length_append] at this
  exact this
theorem ng (xs : List Rw) (hl : xs.length ≤ 100000000) : zy Go.Proofs.Try.prog 129 [.sl 0 0 xs.length, I xs.length, .fn 64 []] [rwR xs] (.tup []) [rwR (yM xs)] true := by
  refine zw [] Go.Proofs.Try.func129 rfl rfl ?_
  simp only [Go.Proofs.Try.ntmps129, List.length_cons, List.length_nil, Nat.reduceAdd, Nat.reduceSub, List.replicate_succ, List.replicate_zero, List.cons_append, List.nil_append]
  repeat' first | refine zL ?_ | refine zA ?_ | refine zQ [] ?_ | (refine isA ?_; refine zf rfl ?_) | (refine isL ?_; refine zV rfl (by kernel_rfl) rfl rfl ?_) | (refine zc rfl ?_; refine zU rfl (by kernel_rfl) rfl rfl ?_) | refine zD ?_ | refine zB _ rfl (by kernel_rfl) ?_ | refine zW rfl ?_ | refine zX rfl ?_ | refine zC ?_ | with_reducible refine zO ?_ | refine zI ?_ | refine zJ ?_ | (with_reducible first | refine zM ?_ | refine zN ?_ | refine zF ?_ | refine zH ?_ | refine zG ?_) | refine zP ?_
  refine z9 (α := { p : List Rw × List Rw // Bkk 20 xs p }) (fun p => ⟨((.sl 0 0 xs.length) :: (I xs.length) :: (.fn 64 []) :: .any :: .any :: .any :: (I 20) :: (I p.1.1.length) :: (I ((p.1.1.length + 20 : Nat) : Int)) :: .any :: .any :: .any :: .any :: .any :: .any :: .any :: .any :: .any :: .any :: .any :: .any :: .any :: .any :: .any :: .any :: .any :: .any :: .any :: .any :: .any :: .any :: .any :: .any :: .any :: .any :: .any :: .any :: .any :: .any :: .any :: .any :: .any :: .any :: .any :: .any :: .any :: .any :: .any :: .any :: .any :: .any :: .any :: .any :: .any :: .any :: .any :: .any :: .any :: .any :: .any :: .any :: .any :: .any :: []), [rwR (p.1.1 ++ p.1.2)], 1⟩) (fun p => p.1.2.length) ⟨([], xs), nS, .refl _⟩ ?_ ?_
  · exact xE 1 [0] rfl rfl yo (by decide) (.cons rfl rfl rfl rfl (zY (zE _ _)) .nil) (by repeat' first | exact zj | refine zZ ?_ ?_ | exact zp | exact le_refl rfl | exact zm rfl rfl | exact zu rfl)
  · rintro ⟨⟨U, V⟩, J⟩
    have j1 : U.length + V.length = xs.length := J.len
    have j2 : (U ++ V).Perm xs := J.p
    have j3 : mR 20 U := J.f
    repeat' first | refine zL ?_ | refine zA ?_ | refine zQ [] ?_ | (refine isA ?_; refine zf rfl ?_) | (refine isL ?_; refine zV rfl (by kernel_rfl) rfl rfl ?_) | (refine zc rfl ?_; refine zU rfl (by kernel_rfl) rfl rfl ?_) | refine zD ?_ | refine zB _ rfl (by kernel_rfl) ?_ | refine zW rfl ?_ | refine zX rfl ?_ | refine zC ?_ | with_reducible refine zO ?_ | refine zI ?_ | refine zJ ?_ | (with_reducible first | refine zM ?_ | refine zN ?_ | refine zF ?_ | refine zH ?_ | refine zG ?_) | refine zP ?_
    refine zh rfl (fun h => ?_) (fun h => ?_)
    · have hlt : 20 ≤ V.length := by have := of_decide_eq_true h; simp only at this; omega
      have t1 : V.take 20 ++ V.drop 20 = V := List.take_append_drop _ _
      have t2 : (V.take 20).length = 20 := by simp; omega
      have t3 := (ya (V.take 20)).length_eq
      have t4 : (V.drop 20).length = V.length - 20 := by simp
      have c1 := fE (ds := U ++ V) (rs := U ++ yM (V.take 20) ++ V.drop 20) (L := xs.length) (a := (U.length : Int)) (b := ((U.length + 20 : Nat) : Int)) U (V.take 20) (V.drop 20) (by rw [List.append_assoc, t1]) (by rw [List.length_append]; omega) hl rfl (by rw [List.length_append]; omega) rfl
      repeat' first | refine zL ?_ | refine zA ?_ | refine zQ [] ?_ | (refine isA ?_; refine zf rfl ?_) | (refine isL ?_; refine zV rfl (by kernel_rfl) rfl rfl ?_) | (refine zc rfl ?_; refine zU rfl (by kernel_rfl) rfl rfl ?_) | (refine zr 130 ?_; refine za rfl (zv (K := []) (Rs' := [_]) [0] (by decide) rfl c1 (.cons rfl rfl rfl (zE _ _) (zE _ _) .nil) (.cons (.sl rfl) (.cons (.same rfl) (.cons (.same rfl) (.cons (.same rfl) .nil)))) (fun q hq => by cases hq) rfl) rfl ?_) | (refine zq 130 rfl ?_; refine zT rfl (by kernel_rfl) rfl (zv (K := []) (Rs' := [_]) [0] (by decide) rfl c1 (.cons rfl rfl rfl (zE _ _) (zE _ _) .nil) (.cons (.sl rfl) (.cons (.same rfl) (.cons (.same rfl) (.cons (.same rfl) .nil)))) (fun q hq => by cases hq) rfl) rfl ?_) | refine zD ?_ | refine zB _ rfl (by kernel_rfl) ?_ | refine zW rfl ?_ | refine zX rfl ?_ | refine zC ?_ | with_reducible refine zO ?_ | refine zI ?_ | refine zJ ?_ | (with_reducible first | refine zM ?_ | refine zN ?_ | refine zF ?_ | refine zH ?_ | refine zG ?_) | refine zP ?_
      refine ⟨⟨(U ++ yM (V.take 20), V.drop 20), qb j3 (by omega) (xV _), ?_⟩, by simp only; omega, ?_⟩
      · refine List.Perm.trans ?_ j2
        rw [List.append_assoc]
        refine List.Perm.append_left _ ?_
        have := (ya (V.take 20)).append_right (V.drop 20)
        rw [t1] at this
        exact this
      · exact xE 1 [0] rfl rfl yo (by decide) (.cons rfl rfl rfl rfl (zY (zE _ _)) .nil) (by
          repeat' first | exact zj | refine zZ ?_ ?_ | exact zp | exact le_refl rfl | exact zm rfl rfl | exact yC (congrArg _ (show (((U ++ yM (V.take 20)).length : Nat) : Int) = ((U.length + 20 : Nat) : Int) by rw [List.length_append]; omega)) | exact yC (congrArg _ (show (((U ++ yM (V.take 20)).length + 20 : Nat) : Int) = IntKind.i64.wrap (((U.length + 20 : Nat) : Int) + 20) by rw [List.length_append, IntKind.wrap_i64]; omega)))
    · have hge : V.length < 20 := by have := of_decide_eq_false h; simp only at this; omega
      have t3 := (ya V).length_eq
      have c1 := fE (ds := U ++ V) (rs := U ++ yM V) (L := xs.length) (a := (U.length : Int)) (b := (xs.length : Int)) U V [] (by simp) (by rw [List.length_append]; omega) hl rfl (by rw [List.length_append]; omega) (by simp)
      have b1 : Blk 20 (U ++ yM V) := ta j3 (by omega) (xV _)
      have p1 : (U ++ yM V).Perm xs := ((ya V).append_left U).trans j2
      repeat' first | refine zL ?_ | refine zA ?_ | refine zQ [] ?_ | (refine isA ?_; refine zf rfl ?_) | (refine isL ?_; refine zV rfl (by kernel_rfl) rfl rfl ?_) | (refine zc rfl ?_; refine zU rfl (by kernel_rfl) rfl rfl ?_) | (refine zr 130 ?_; refine za rfl (zv (K := []) (Rs' := [_]) [0] (by decide) rfl c1 (.cons rfl rfl rfl (zE _ _) (zE _ _) .nil) (.cons (.sl rfl) (.cons (.same rfl) (.cons (.same rfl) (.cons (.same rfl) .nil)))) (fun q hq => by cases hq) rfl) rfl ?_) | (refine zq 130 rfl ?_; refine zT rfl (by kernel_rfl) rfl (zv (K := []) (Rs' := [_]) [0] (by decide) rfl c1 (.cons rfl rfl rfl (zE _ _) (zE _ _) .nil) (.cons (.sl rfl) (.cons (.same rfl) (.cons (.same rfl) (.cons (.same rfl) .nil)))) (fun q hq => by cases hq) rfl) rfl ?_) | refine zD ?_ | refine zB _ rfl (by kernel_rfl) ?_ | refine zW rfl ?_ | refine zX rfl ?_ | refine zC ?_ | with_reducible refine zO ?_ | refine zI ?_ | refine zJ ?_ | (with_reducible first | refine zM ?_ | refine zN ?_ | refine zF ?_ | refine zH ?_ | refine zG ?_) | refine zP ?_
      refine z9 (α := { p : Nat × List Rw // 20 ≤ p.1 ∧ Blk p.1 p.2 ∧ p.2.Perm xs }) (fun p => ⟨((.sl 0 0 xs.length) :: (I xs.length) :: (.fn 64 []) :: .any :: .any :: .any :: (I p.1.1) :: .any :: .any :: .any :: .any :: .any :: .any :: .any :: .any :: .any :: .any :: .any :: .any :: .any :: .any :: .any :: .any :: .any :: .any :: .any :: .any :: .any :: .any :: .any :: .any :: .any :: .any :: .any :: .any :: .any :: .any :: .any :: .any :: .any :: .any :: .any :: .any :: .any :: .any :: .any :: .any :: .any :: .any :: .any :: .any :: .any :: .any :: .any :: .any :: .any :: .any :: .any :: .any :: .any :: .any :: .any :: .any :: []), [rwR p.1.2], 1⟩) (fun p => xs.length - p.1.1) ⟨(20, U ++ yM V), Nat.le_refl _, b1, p1⟩ ?_ ?_
      · exact xE 1 [0] rfl rfl yo (by decide) (.cons rfl rfl rfl rfl (zY (zE _ _)) .nil) (by repeat' first | exact zj | refine zZ ?_ ?_ | exact zp | exact le_refl rfl | exact zm rfl rfl | exact zu rfl)
      · rintro ⟨⟨s, ys⟩, k1, k2, k3⟩
        simp only at k1 k2 k3
        have yl := k3.length_eq
        repeat' first | refine zL ?_ | refine zA ?_ | refine zQ [] ?_ | (refine isA ?_; refine zf rfl ?_) | (refine isL ?_; refine zV rfl (by kernel_rfl) rfl rfl ?_) | (refine zc rfl ?_; refine zU rfl (by kernel_rfl) rfl rfl ?_) | refine zD ?_ | refine zB _ rfl (by kernel_rfl) ?_ | refine zW rfl ?_ | refine zX rfl ?_ | refine zC ?_ | with_reducible refine zO ?_ | refine zI ?_ | refine zJ ?_ | (with_reducible first | refine zM ?_ | refine zN ?_ | refine zF ?_ | refine zH ?_ | refine zG ?_) | refine zP ?_
        refine zh rfl (fun h => ?_) (fun h => ?_)
        · have hlt : s < xs.length := by have := of_decide_eq_true h; simp only at this; omega
          have e2 : IntKind.i64.wrap (2 * (s : Int)) = ((2 * s : Nat) : Int) := by rw [IntKind.wrap_i64]; omega
          have e2' : IntKind.i64.wrap ((s : Int) * 2) = ((2 * s : Nat) : Int) := by rw [IntKind.wrap_i64]; omega
          repeat' first | refine zL ?_ | refine zA ?_ | refine zQ [] ?_ | (refine isA ?_; refine zf rfl ?_) | (refine isL ?_; refine zV rfl (by kernel_rfl) rfl rfl ?_) | (refine zc rfl ?_; refine zU rfl (by kernel_rfl) rfl rfl ?_) | refine zD ?_ | refine zB _ rfl (by kernel_rfl) ?_ | refine zW rfl ?_ | refine zX rfl ?_ | refine zC ?_ | with_reducible refine zO ?_ | refine zI ?_ | refine zJ ?_ | (with_reducible first | refine zM ?_ | refine zN ?_ | refine zF ?_ | refine zH ?_ | refine zG ?_) | refine zP ?_
          refine z9 (α := { p : List Rw × List Rw // Bkk (2 * s) xs p ∧ Blk s p.2 }) (fun p => ⟨((.sl 0 0 xs.length) :: (I xs.length) :: (.fn 64 []) :: .any :: .any :: .any :: (I s) :: (I p.1.1.length) :: (I ((p.1.1.length + 2 * s : Nat) : Int)) :: .any :: .any :: .any :: .any :: .any :: .any :: .any :: .any :: .any :: .any :: .any :: .any :: .any :: .any :: .any :: .any :: .any :: .any :: .any :: .any :: .any :: .any :: .any :: .any :: .any :: .any :: .any :: .any :: .any :: .any :: .any :: .any :: .any :: .any :: .any :: .any :: .any :: .any :: .any :: .any :: .any :: .any :: .any :: .any :: .any :: .any :: .any :: .any :: .any :: .any :: .any :: .any :: .any :: .any :: []), [rwR (p.1.1 ++ p.1.2)], 1⟩) (fun p => p.1.2.length) ⟨([], ys), ⟨nS, k3⟩, k2⟩ ?_ ?_
          · exact xE 1 [0] rfl rfl yo (by decide) (.cons rfl rfl rfl rfl (zY (zE _ _)) .nil) (by
              repeat' first | exact zj | refine zZ ?_ ?_ | exact zp | exact le_refl rfl | exact zm rfl rfl | exact yC (congrArg _ (show (((([] : List Rw).length + 2 * s : Nat)) : Int) = IntKind.i64.wrap (2 * (s : Int)) by rw [e2]; simp)))
          · rintro ⟨⟨U, V⟩, J, j4⟩
            have j1 : U.length + V.length = xs.length := J.len
            have j2 : (U ++ V).Perm xs := J.p
            have j3 : mR (2 * s) U := J.f
            simp only at j4
            have ea : IntKind.i64.wrap ((U.length : Int) + s) = ((U.length + s : Nat) : Int) := by rw [IntKind.wrap_i64]; omega
            repeat' first | refine zL ?_ | refine zA ?_ | refine zQ [] ?_ | (refine isA ?_; refine zf rfl ?_) | (refine isL ?_; refine zV rfl (by kernel_rfl) rfl rfl ?_) | (refine zc rfl ?_; refine zU rfl (by kernel_rfl) rfl rfl ?_) | refine zD ?_ | refine zB _ rfl (by kernel_rfl) ?_ | refine zW rfl ?_ | refine zX rfl ?_ | refine zC ?_ | with_reducible refine zO ?_ | refine zI ?_ | refine zJ ?_ | (with_reducible first | refine zM ?_ | refine zN ?_ | refine zF ?_ | refine zH ?_ | refine zG ?_) | refine zP ?_
            refine zh rfl (fun h => ?_) (fun h => ?_)
            · have hle : 2 * s ≤ V.length := by have := of_decide_eq_true h; simp only at this; omega
              obtain ⟨X, Y, Z, rfl, hX, hY, sX, sY, hZ⟩ := eV (by omega) j4 hle
              simp only [List.length_append] at j1
              have t3 := (ya (X ++ Y)).length_eq
              rw [List.length_append] at t3
              have c1 := (gt _ U X Y Z (Nat.le_refl _) sX sY (by omega) (by omega) (by simp only [List.length_append]; omega)).x (ds := U ++ (X ++ Y ++ Z)) (rs := U ++ yM (X ++ Y) ++ Z) (L := xs.length) (a := (U.length : Int)) (m := IntKind.i64.wrap ((U.length : Int) + s)) (b := ((U.length + 2 * s : Nat) : Int)) (by simp only [List.append_assoc]) (by simp only [List.length_append]; omega) rfl (by rw [ea, List.length_append]; omega) (by simp only [List.length_append]; omega) rfl
              repeat' first | refine zL ?_ | refine zA ?_ | refine zQ [] ?_ | (refine isA ?_; refine zf rfl ?_) | (refine isL ?_; refine zV rfl (by kernel_rfl) rfl rfl ?_) | (refine zc rfl ?_; refine zU rfl (by kernel_rfl) rfl rfl ?_) | (refine zr 131 ?_; refine za rfl (zv (K := []) (Rs' := [_]) [0] (by decide) rfl c1 (.cons rfl rfl rfl (zE _ _) (zE _ _) .nil) (.cons (.sl rfl) (.cons (.same rfl) (.cons (.same rfl) (.cons (.same rfl) (.cons (.same rfl) .nil))))) (fun q hq => by cases hq) rfl) rfl ?_) | (refine zq 131 rfl ?_; refine zT rfl (by kernel_rfl) rfl (zv (K := []) (Rs' := [_]) [0] (by decide) rfl c1 (.cons rfl rfl rfl (zE _ _) (zE _ _) .nil) (.cons (.sl rfl) (.cons (.same rfl) (.cons (.same rfl) (.cons (.same rfl) (.cons (.same rfl) .nil))))) (fun q hq => by cases hq) rfl) rfl ?_) | refine zD ?_ | refine zB _ rfl (by kernel_rfl) ?_ | refine zW rfl ?_ | refine zX rfl ?_ | refine zC ?_ | with_reducible refine zO ?_ | refine zI ?_ | refine zJ ?_ | (with_reducible first | refine zM ?_ | refine zN ?_ | refine zF ?_ | refine zH ?_ | refine zG ?_) | refine zP ?_
              refine ⟨⟨(U ++ yM (X ++ Y), Z), ⟨qb j3 (by omega) (xV _), ?_⟩, hZ⟩, by simp only [List.length_append]; omega, ?_⟩
              · refine List.Perm.trans ?_ j2
                simp only
                rw [List.append_assoc]
                exact List.Perm.append_left _ ((ya (X ++ Y)).append_right Z)
              · exact xE 1 [0] rfl rfl yo (by decide) (.cons rfl rfl rfl rfl (zY (zE _ _)) .nil) (by
                  repeat' first | exact zj | refine zZ ?_ ?_ | exact zp | exact le_refl rfl | exact zm rfl rfl | exact yC (congrArg _ (show (((U ++ yM (X ++ Y)).length : Nat) : Int) = ((U.length + 2 * s : Nat) : Int) by rw [List.length_append]; omega)) | exact yC (congrArg _ (show (((U ++ yM (X ++ Y)).length + 2 * s : Nat) : Int) = IntKind.i64.wrap (((U.length + 2 * s : Nat) : Int) + IntKind.i64.wrap (2 * (s : Int))) by rw [List.length_append, e2, IntKind.wrap_i64]; omega)))
            · have hge : V.length < 2 * s := by have := of_decide_eq_false h; simp only at this; omega
              repeat' first | refine zL ?_ | refine zA ?_ | refine zQ [] ?_ | (refine isA ?_; refine zf rfl ?_) | (refine isL ?_; refine zV rfl (by kernel_rfl) rfl rfl ?_) | (refine zc rfl ?_; refine zU rfl (by kernel_rfl) rfl rfl ?_) | refine zD ?_ | refine zB _ rfl (by kernel_rfl) ?_ | refine zW rfl ?_ | refine zX rfl ?_ | refine zC ?_ | with_reducible refine zO ?_ | refine zI ?_ | refine zJ ?_ | (with_reducible first | refine zM ?_ | refine zN ?_ | refine zF ?_ | refine zH ?_ | refine zG ?_) | refine zP ?_
              refine zh rfl (fun h2 => ?_) (fun h2 => ?_)
              · have hlt2 : s < V.length := by have := of_decide_eq_true h2; simp only [ea] at this; omega
                obtain ⟨X, Y, rfl, hX, sX, sY, hY⟩ := fN j4 hlt2 hge
                simp only [List.length_append] at j1 hge
                have t3 := (ya (X ++ Y)).length_eq
                rw [List.length_append] at t3
                have c1 := (gt _ U X Y [] (Nat.le_refl _) sX sY (by omega) (by omega) (by simp only [List.length_append, List.length_nil]; omega)).x (ds := U ++ (X ++ Y)) (rs := U ++ yM (X ++ Y)) (L := xs.length) (a := (U.length : Int)) (m := IntKind.i64.wrap ((U.length : Int) + s)) (b := (xs.length : Int)) (by simp only [List.append_assoc, List.append_nil]) (by simp only [List.length_append]; omega) rfl (by rw [ea, List.length_append]; omega) (by simp only [List.length_append]; omega) (by simp only [List.append_nil])
                repeat' first | refine zL ?_ | refine zA ?_ | refine zQ [] ?_ | (refine isA ?_; refine zf rfl ?_) | (refine isL ?_; refine zV rfl (by kernel_rfl) rfl rfl ?_) | (refine zc rfl ?_; refine zU rfl (by kernel_rfl) rfl rfl ?_) | (refine zr 131 ?_; refine za rfl (zv (K := []) (Rs' := [_]) [0] (by decide) rfl c1 (.cons rfl rfl rfl (zE _ _) (zE _ _) .nil) (.cons (.sl rfl) (.cons (.same rfl) (.cons (.same rfl) (.cons (.same rfl) (.cons (.same rfl) .nil))))) (fun q hq => by cases hq) rfl) rfl ?_) | (refine zq 131 rfl ?_; refine zT rfl (by kernel_rfl) rfl (zv (K := []) (Rs' := [_]) [0] (by decide) rfl c1 (.cons rfl rfl rfl (zE _ _) (zE _ _) .nil) (.cons (.sl rfl) (.cons (.same rfl) (.cons (.same rfl) (.cons (.same rfl) (.cons (.same rfl) .nil))))) (fun q hq => by cases hq) rfl) rfl ?_) | refine zD ?_ | refine zB _ rfl (by kernel_rfl) ?_ | refine zW rfl ?_ | refine zX rfl ?_ | refine zC ?_ | with_reducible refine zO ?_ | refine zI ?_ | refine zJ ?_ | (with_reducible first | refine zM ?_ | refine zN ?_ | refine zF ?_ | refine zH ?_ | refine zG ?_) | refine zP ?_
                refine ⟨⟨(2 * s, U ++ yM (X ++ Y)), by simp only; omega, ta j3 (by omega) (xV _), ((ya _).append_left U).trans j2⟩, by simp only; omega, ?_⟩
                exact xE 1 [0] rfl rfl yo (by decide) (.cons rfl rfl rfl rfl (zY (zE _ _)) .nil) (by
                  repeat' first | exact zj | refine zZ ?_ ?_ | exact zp | exact le_refl rfl | exact zm rfl rfl | exact yC (congrArg _ e2'.symm))
              · have hge2 : V.length ≤ s := by have := of_decide_eq_false h2; simp only [ea] at this; omega
                repeat' first | refine zL ?_ | refine zA ?_ | refine zQ [] ?_ | (refine isA ?_; refine zf rfl ?_) | (refine isL ?_; refine zV rfl (by kernel_rfl) rfl rfl ?_) | (refine zc rfl ?_; refine zU rfl (by kernel_rfl) rfl rfl ?_) | refine zD ?_ | refine zB _ rfl (by kernel_rfl) ?_ | refine zW rfl ?_ | refine zX rfl ?_ | refine zC ?_ | with_reducible refine zO ?_ | refine zI ?_ | refine zJ ?_ | (with_reducible first | refine zM ?_ | refine zN ?_ | refine zF ?_ | refine zH ?_ | refine zG ?_) | refine zP ?_
                refine ⟨⟨(2 * s, U ++ V), by simp only; omega, ta j3 (by omega) (sJ j4 hge2), j2⟩, by simp only; omega, ?_⟩
                exact xE 1 [0] rfl rfl yo (by decide) (.cons rfl rfl rfl rfl (zY (zE _ _)) .nil) (by
                  repeat' first | exact zj | refine zZ ?_ ?_ | exact zp | exact le_refl rfl | exact zm rfl rfl | exact yC (congrArg _ e2'.symm))
        · have hge : xs.length ≤ s := by have := of_decide_eq_false h; simp only at this; omega
          have e : ys = yM xs := wh (sJ k2 (by omega)) k3
          repeat' first | refine zL ?_ | refine zA ?_ | refine zQ [] ?_ | (refine isA ?_; refine zf rfl ?_) | (refine isL ?_; refine zV rfl (by kernel_rfl) rfl rfl ?_) | (refine zc rfl ?_; refine zU rfl (by kernel_rfl) rfl rfl ?_) | exact tK 1 [0] yo (by decide) (.cons rfl rfl rfl rfl (yd (congrArg rwT.flat e) (zE _ _)) .nil) | refine zD ?_ | refine zB _ rfl (by kernel_rfl) ?_ | refine zW rfl ?_ | refine zX rfl ?_ | refine zC ?_ | with_reducible refine zO ?_ | refine zI ?_ | refine zJ ?_ | (with_reducible first | refine zM ?_ | refine zN ?_ | refine zF ?_ | refine zH ?_ | refine zG ?_) | refine zP ?_
theorem zy.args {P : Program} {f : FuncId} {cargs cargs' : List V} {hs : List Reg} {r : V} {hs' : List Reg} {al : Bool} (h : zy P f cargs hs r hs' al) (hl : cargs'.length = cargs.length) (ha : ∀ A w φ g, zx A w φ cargs' g → zx A w φ cargs g) : zy P f cargs' hs r hs' al :=
  fun A φ w xs hok hr hs => h A φ w xs hok (ha _ _ _ _ hr) (hs.trans hl)
theorem eM (xs : List Rw) (hl : xs.length ≤ 100000000) : zy Go.Proofs.Try.prog 128 [.sl 0 0 xs.length, .fn 64 []] [rwR xs] (.tup []) [rwR (yM xs)] true := by
  refine zw [] Go.Proofs.Try.func128 rfl rfl ?_
  simp only [Go.Proofs.Try.ntmps128, List.length_cons, List.length_nil, Nat.reduceAdd, Nat.reduceSub, List.replicate_succ, List.replicate_zero, List.cons_append, List.nil_append]
  repeat' first | refine zL ?_ | refine zA ?_ | refine zQ [] ?_ | (refine isA ?_; refine zf rfl ?_) | (refine isL ?_; refine zV rfl (by kernel_rfl) rfl rfl ?_) | (refine zc rfl ?_; refine zU rfl (by kernel_rfl) rfl rfl ?_) | (refine zr 129 ?_; refine za rfl (zv (K := []) (Rs' := [_]) [0] (by decide) rfl (ng xs hl) (.cons rfl rfl rfl (zE _ _) (zE _ _) .nil) (.cons (.sl rfl) (.cons (.same rfl) (.cons (.same rfl) .nil))) (fun q hq => by cases hq) rfl) rfl ?_) | (refine zq 129 rfl ?_; refine zT rfl (by kernel_rfl) rfl (zv (K := []) (Rs' := [_]) [0] (by decide) rfl (ng xs hl) (.cons rfl rfl rfl (zE _ _) (zE _ _) .nil) (.cons (.sl rfl) (.cons (.same rfl) (.cons (.same rfl) .nil))) (fun q hq => by cases hq) rfl) rfl ?_) | exact tK 1 [0] yo (by decide) (.cons rfl rfl rfl rfl (zY (zE _ _)) .nil) | refine zD ?_ | refine zB _ rfl (by kernel_rfl) ?_ | refine zW rfl ?_ | refine zX rfl ?_ | refine zC ?_ | with_reducible refine zO ?_ | refine zI ?_ | refine zJ ?_ | (with_reducible first | refine zM ?_ | refine zN ?_ | refine zF ?_ | refine zH ?_ | refine zG ?_) | refine zP ?_
theorem lU (xs : List Rw) (hl : xs.length ≤ 100000000) : zy Go.Proofs.Try.prog 128 [.sl 0 0 xs.length, .k (.func (.func 64) #[] #[])] [rwR xs] (.tup []) [rwR (yM xs)] true :=
  (eM xs hl).args rfl fun A w φ g h => by
    simp only [zx, Rel] at h ⊢
    obtain ⟨h1, ⟨y, h2, rfl⟩, _⟩ := h
    exact ⟨h1, ⟨_, h2, #[], rfl, rfl, trivial⟩, trivial⟩
theorem lX (xs : List Rw) (hl : xs.length ≤ 100000000) : zy Go.Proofs.Try.prog 122 [rwL xs] [] (.sl 0 0 (yM xs).length) [rwR (yM xs)] false := by
  have e := xo xs
  rw [e]
  refine zw [2] Go.Proofs.Try.func122 rfl rfl ?_
  simp only [Go.Proofs.Try.ntmps122, List.length_cons, List.length_nil, Nat.reduceAdd, Nat.reduceSub, List.replicate_succ, List.replicate_zero, List.cons_append, List.nil_append]
  repeat' first | refine zL ?_ | refine zA ?_ | refine zQ [] ?_ | (refine isA ?_; refine zf rfl ?_) | (refine isL ?_; refine zV rfl (by kernel_rfl) rfl rfl ?_) | (refine zc rfl ?_; refine zU rfl (by kernel_rfl) rfl rfl ?_) | (refine zr 114 ?_; refine za rfl (z6 rfl (x5 xs (by omega)) (.cons (.same rfl) .nil) (fun q hq => by simp at hq; subst hq; exact zE _ _) rfl rfl) rfl ?_) | (refine zq 114 rfl ?_; refine zT rfl (by kernel_rfl) rfl (z6 rfl (x5 xs (by omega)) (.cons (.same rfl) .nil) (fun q hq => by simp at hq; subst hq; exact zE _ _) rfl rfl) rfl ?_) | (refine zr 128 ?_; refine za rfl (zv (K := []) (Rs' := [_]) [0] (by decide) rfl (lU xs hl) (.cons rfl rfl rfl (zE _ _) (zE _ _) .nil) (.cons (.sl rfl) (.cons (.same rfl) .nil)) (fun q hq => by cases hq) rfl) rfl ?_) | (refine zq 128 rfl ?_; refine zT rfl (by kernel_rfl) rfl (zv (K := []) (Rs' := [_]) [0] (by decide) rfl (lU xs hl) (.cons rfl rfl rfl (zE _ _) (zE _ _) .nil) (.cons (.sl rfl) (.cons (.same rfl) .nil)) (fun q hq => by cases hq) rfl) rfl ?_) | exact jb [0] rfl (wb (by decide) (.cons rfl rfl rfl rfl (zY (zE _ _)) .nil)) (zm rfl rfl) (Or.inr ⟨rfl, fun q hq => by simp at hq; subst hq; exact ⟨Nat.zero_ne_one, fun _ => (xu _).flatS⟩⟩) | refine zD ?_ | refine zB _ rfl (by kernel_rfl) ?_ | refine zW rfl ?_ | refine zX rfl ?_ | refine zC ?_ | with_reducible refine zO ?_ | refine zI ?_ | refine zJ ?_ | (with_reducible first | refine zM ?_ | refine zN ?_ | refine zF ?_ | refine zH ?_ | refine zG ?_) | refine zP ?_
end Go.Proofs.Ytojcojanokhnaaa.Ab
namespace Go.Proofs.Ytojcojanokhnaaa.Ab
open Go.RowKit
theorem fH (xs ys : List Rw) (h1 : xs.length ≤ 100000000) (h2 : ys.length ≤ 100000000) : zy Go.Proofs.Try.prog 79 [rwL xs, rwL ys] [] (B (eqB xs ys)) [] false := by
  have s1 := (lX xs h1).frozen (zk rfl)
  have s2 := (lX ys h2).frozen (zk rfl)
  have l1 := xo xs
  have l2 := xo ys
  have q := s9 (yM xs) (yM ys) (by omega)
  refine zw [4] Go.Proofs.Try.func79 rfl rfl ?_
  simp only [Go.Proofs.Try.ntmps79, List.length_cons, List.length_nil, Nat.reduceAdd, Nat.reduceSub, List.replicate_succ, List.replicate_zero, List.cons_append, List.nil_append]
  repeat' first | refine zL ?_ | refine zA ?_ | refine zQ [] ?_ | (refine isA ?_; refine zf rfl ?_) | (refine isL ?_; refine zV rfl (by kernel_rfl) rfl rfl ?_) | (refine zc rfl ?_; refine zU rfl (by kernel_rfl) rfl rfl ?_) | refine zD ?_ | refine zB _ rfl (by kernel_rfl) ?_ | refine zW rfl ?_ | refine zX rfl ?_ | refine zC ?_ | with_reducible refine zO ?_ | refine zI ?_ | refine zJ ?_ | (with_reducible first | refine zM ?_ | refine zN ?_ | refine zF ?_ | refine zH ?_ | refine zG ?_) | refine zP ?_
  refine yb rfl rfl (fun h => ?_) (fun h => ?_)
  · repeat' first | refine zL ?_ | refine zA ?_ | refine zQ [] ?_ | (refine isA ?_; refine zf rfl ?_) | (refine isL ?_; refine zV rfl (by kernel_rfl) rfl rfl ?_) | (refine zc rfl ?_; refine zU rfl (by kernel_rfl) rfl rfl ?_) | (refine zr 122 (x := #[.tmp 11]) ?_; refine za rfl (zK rfl s1 (.cons (.same rfl) .nil) rfl) rfl ?_) | (refine zq 122 (x := #[.tmp 11]) rfl ?_; refine zT rfl (by kernel_rfl) rfl (zK rfl s1 (.cons (.same rfl) .nil) rfl) rfl ?_) | (refine zr 122 (x := #[.tmp 13]) ?_; refine za rfl (zK rfl s2 (.cons (.same rfl) .nil) rfl) rfl ?_) | (refine zq 122 (x := #[.tmp 13]) rfl ?_; refine zT rfl (by kernel_rfl) rfl (zK rfl s2 (.cons (.same rfl) .nil) rfl) rfl ?_) | (refine zr 81 ?_; refine za rfl (zK rfl q (.cons (.same rfl) (.cons (.same rfl) .nil)) rfl) rfl ?_) | (refine zq 81 rfl ?_; refine zT rfl (by kernel_rfl) rfl (zK rfl q (.cons (.same rfl) (.cons (.same rfl) .nil)) rfl) rfl ?_) | exact yJ rfl rfl rfl | refine zD ?_ | refine zB _ rfl (by kernel_rfl) ?_ | refine zW rfl ?_ | refine zX rfl ?_ | refine zC ?_ | with_reducible refine zO ?_ | refine zI ?_ | refine zJ ?_ | (with_reducible first | refine zM ?_ | refine zN ?_ | refine zF ?_ | refine zH ?_ | refine zG ?_) | refine zP ?_
  · have e : eqB xs ys = false := tM (by rw [l1, l2]; have := of_decide_eq_false h; omega)
    repeat' first | refine zL ?_ | refine zA ?_ | refine zQ [] ?_ | (refine isA ?_; refine zf rfl ?_) | (refine isL ?_; refine zV rfl (by kernel_rfl) rfl rfl ?_) | (refine zc rfl ?_; refine zU rfl (by kernel_rfl) rfl rfl ?_) | exact yJ rfl rfl (by rw [e]) | refine zD ?_ | refine zB _ rfl (by kernel_rfl) ?_ | refine zW rfl ?_ | refine zX rfl ?_ | refine zC ?_ | with_reducible refine zO ?_ | refine zI ?_ | refine zJ ?_ | (with_reducible first | refine zM ?_ | refine zN ?_ | refine zF ?_ | refine zH ?_ | refine zG ?_) | refine zP ?_
end Go.Proofs.Ytojcojanokhnaaa.Ab
namespace Go.Proofs.Ytojcojanokhnaaa.Ab
open Go.RowKit
theorem cR (xs : List Rw) (hl : xs.length ≤ 1000000000) : zy Go.Proofs.Try.prog 61 [rwL xs] [] (I (mC xs)) [] false := by
  refine zw [2] Go.Proofs.Try.func61 rfl rfl ?_
  simp only [Go.Proofs.Try.ntmps61, List.length_cons, List.length_nil, Nat.reduceAdd, Nat.reduceSub, List.replicate_succ, List.replicate_zero, List.cons_append, List.nil_append]
  repeat' first | refine zL ?_ | refine zA ?_ | refine zQ [] ?_ | (refine isA ?_; refine zf rfl ?_) | (refine isL ?_; refine zV rfl (by kernel_rfl) rfl rfl ?_) | (refine zc rfl ?_; refine zU rfl (by kernel_rfl) rfl rfl ?_) | refine zD ?_ | refine zB _ rfl (by kernel_rfl) ?_ | refine zW rfl ?_ | refine zX rfl ?_ | refine zC ?_ | with_reducible refine zO ?_ | refine zI ?_ | refine zJ ?_ | (with_reducible first | refine zM ?_ | refine zN ?_ | refine zF ?_ | refine zH ?_ | refine zG ?_) | refine zP ?_
  refine z9 (α := { i : Nat // i ≤ xs.length }) (fun i => ⟨[rwL xs, .any, .any, I (uo xs i.1), .any, .any, rwL xs, I xs.length, I i.1, .any, .any, .any, .any, .any, .any, .any, .any, .any, .any, .any, .any, .any, .any, .any, .any, .any, .any], [], 0⟩) (fun i => xs.length - i.1) ⟨0, Nat.zero_le _⟩ ?_ ?_
  · exact yW [] rfl rfl (by decide) .nil (by repeat' first | exact zj | refine zZ ?_ ?_ | exact zp | exact le_refl rfl | exact zm rfl rfl | exact zu rfl)
  · rintro ⟨i, hi⟩
    repeat' first | refine zL ?_ | refine zA ?_ | refine zQ [] ?_ | (refine isA ?_; refine zf rfl ?_) | (refine isL ?_; refine zV rfl (by kernel_rfl) rfl rfl ?_) | (refine zc rfl ?_; refine zU rfl (by kernel_rfl) rfl rfl ?_) | refine zD ?_ | refine zB _ rfl (by kernel_rfl) ?_ | refine zW rfl ?_ | refine zX rfl ?_ | refine zC ?_ | with_reducible refine zO ?_ | refine zI ?_ | refine zJ ?_ | (with_reducible first | refine zM ?_ | refine zN ?_ | refine zF ?_ | refine zH ?_ | refine zG ?_) | refine zP ?_
    refine zh rfl (fun h => ?_) (fun h => ?_)
    · have hlt : i < xs.length := by simpa using h
      obtain ⟨x, hx⟩ : ∃ z, xs[i]? = some z := ⟨_, List.getElem?_eq_getElem hlt⟩
      rcases Nat.eq_zero_or_pos i with rfl | hpos
      · have e1 : uo xs (0 + 1) = ((0 : Nat) : Int) := rfl
        repeat' first | refine zL ?_ | refine zA ?_ | refine zQ [] ?_ | (refine isA ?_; refine zf rfl ?_) | (refine isL ?_; refine zV rfl (by kernel_rfl) rfl rfl ?_) | (refine zc rfl ?_; refine zU rfl (by kernel_rfl) rfl rfl ?_) | (refine yB (x := .tmp 6) ?_; refine za rfl (zz (t := rwT) (z := x) rfl rfl rfl rfl (Int.natCast_nonneg _) hx) rfl ?_) | (refine yA (x := .tmp 6) rfl ?_; refine zT rfl (by kernel_rfl) rfl (zz (t := rwT) (z := x) rfl rfl rfl rfl (Int.natCast_nonneg _) hx) rfl ?_) | refine zD ?_ | refine zB _ rfl (by kernel_rfl) ?_ | refine zW rfl ?_ | refine zX rfl ?_ | refine zC ?_ | with_reducible refine zO ?_ | refine zI ?_ | refine zJ ?_ | (with_reducible first | refine zM ?_ | refine zN ?_ | refine zF ?_ | refine zH ?_ | refine zG ?_) | refine zP ?_
        refine ⟨⟨0 + 1, hlt⟩, by simp only; omega, ?_⟩
        exact yW [] rfl rfl (by decide) .nil (by
          repeat' first | exact zj | refine zZ ?_ ?_ | exact zp | exact le_refl rfl | exact yC (congrArg _ e1) | exact xL (by assumption) (by omega))
      · obtain ⟨k, y, m1, m2, m3, m4⟩ := sB (xs := xs) (n := i) (by omega) hpos
        have e1 : uo xs (i + 1) = cond (decide (yu x y < 0)) (i : Int) (k : Int) := by
          rw [uo, m1, decide_eq_false (show ¬ ((k : Nat) : Int) < 0 from by have := Int.natCast_nonneg k; omega), cond_false, Int.toNat_natCast, hx, m3]
        refine ut (T := ⟨[rwL xs, .any, .any, I ((k : Nat) : Int), .any, .any, rwL xs, I xs.length, I ((i : Nat) : Int), .any, .any, .any, .any, .any, .any, .any, .any, .any, .any, .any, .any, .any, .any, .any, .any, .any, .any], [], 0⟩) (yW [] rfl rfl (by decide) .nil (by
          repeat' first | exact zj | refine zZ ?_ ?_ | exact zp | exact le_refl rfl | exact yC (congrArg _ m1.symm))) ?_
        repeat' first | refine zL ?_ | refine zA ?_ | refine zQ [] ?_ | (refine isA ?_; refine zf rfl ?_) | (refine isL ?_; refine zV rfl (by kernel_rfl) rfl rfl ?_) | (refine zc rfl ?_; refine zU rfl (by kernel_rfl) rfl rfl ?_) | (refine yB (x := .tmp 6) ?_; refine za rfl (zz (t := rwT) (z := x) rfl rfl rfl rfl (Int.natCast_nonneg _) hx) rfl ?_) | (refine yA (x := .tmp 6) rfl ?_; refine zT rfl (by kernel_rfl) rfl (zz (t := rwT) (z := x) rfl rfl rfl rfl (Int.natCast_nonneg _) hx) rfl ?_) | refine zD ?_ | refine zB _ rfl (by kernel_rfl) ?_ | refine zW rfl ?_ | refine zX rfl ?_ | refine zC ?_ | with_reducible refine zO ?_ | refine zI ?_ | refine zJ ?_ | (with_reducible first | refine zM ?_ | refine zN ?_ | refine zF ?_ | refine zH ?_ | refine zG ?_) | refine zP ?_
        refine yK rfl rfl rfl rfl (fun p => absurd (of_decide_eq_true p) (by omega)) (fun p => ?_)
        repeat' first | refine zL ?_ | refine zA ?_ | refine zQ [] ?_ | (refine isA ?_; refine zf rfl ?_) | (refine isL ?_; refine zV rfl (by kernel_rfl) rfl rfl ?_) | (refine zc rfl ?_; refine zU rfl (by kernel_rfl) rfl rfl ?_) | (refine yB (x := .tmp 17) ?_; refine za rfl (zz (t := rwT) (z := y) rfl rfl rfl rfl (Int.natCast_nonneg _) m3) rfl ?_) | (refine yA (x := .tmp 17) rfl ?_; refine zT rfl (by kernel_rfl) rfl (zz (t := rwT) (z := y) rfl rfl rfl rfl (Int.natCast_nonneg _) m3) rfl ?_) | (refine zr 64 ?_; refine za rfl (zK rfl (xO x y) (.cons (.same rfl) (.cons (.same rfl) .nil)) rfl) rfl ?_) | (refine zq 64 rfl ?_; refine zT rfl (by kernel_rfl) rfl (zK rfl (xO x y) (.cons (.same rfl) (.cons (.same rfl) .nil)) rfl) rfl ?_) | refine zD ?_ | refine zB _ rfl (by kernel_rfl) ?_ | refine zW rfl ?_ | refine zX rfl ?_ | refine zC ?_ | with_reducible refine zO ?_ | refine zI ?_ | refine zJ ?_ | (with_reducible first | refine zM ?_ | refine zN ?_ | refine zF ?_ | refine zH ?_ | refine zG ?_) | refine zP ?_
        refine zh rfl (fun p => ?_) (fun p => ?_)
        · rw [p, cond_true] at e1
          repeat' first | refine zL ?_ | refine zA ?_ | refine zQ [] ?_ | (refine isA ?_; refine zf rfl ?_) | (refine isL ?_; refine zV rfl (by kernel_rfl) rfl rfl ?_) | (refine zc rfl ?_; refine zU rfl (by kernel_rfl) rfl rfl ?_) | refine zD ?_ | refine zB _ rfl (by kernel_rfl) ?_ | refine zW rfl ?_ | refine zX rfl ?_ | refine zC ?_ | with_reducible refine zO ?_ | refine zI ?_ | refine zJ ?_ | (with_reducible first | refine zM ?_ | refine zN ?_ | refine zF ?_ | refine zH ?_ | refine zG ?_) | refine zP ?_
          refine ⟨⟨i + 1, hlt⟩, by simp only; omega, ?_⟩
          exact yW [] rfl rfl (by decide) .nil (by
            repeat' first | exact zj | refine zZ ?_ ?_ | exact zp | exact le_refl rfl | exact yC (congrArg _ e1) | exact xL (by assumption) (by omega))
        · rw [p, cond_false] at e1
          repeat' first | refine zL ?_ | refine zA ?_ | refine zQ [] ?_ | (refine isA ?_; refine zf rfl ?_) | (refine isL ?_; refine zV rfl (by kernel_rfl) rfl rfl ?_) | (refine zc rfl ?_; refine zU rfl (by kernel_rfl) rfl rfl ?_) | refine zD ?_ | refine zB _ rfl (by kernel_rfl) ?_ | refine zW rfl ?_ | refine zX rfl ?_ | refine zC ?_ | with_reducible refine zO ?_ | refine zI ?_ | refine zJ ?_ | (with_reducible first | refine zM ?_ | refine zN ?_ | refine zF ?_ | refine zH ?_ | refine zG ?_) | refine zP ?_
          refine ⟨⟨i + 1, hlt⟩, by simp only; omega, ?_⟩
          exact yW [] rfl rfl (by decide) .nil (by
            repeat' first | exact zj | refine zZ ?_ ?_ | exact zp | exact le_refl rfl | exact yC (congrArg _ e1) | exact xL (by assumption) (by omega))
    · have hge : i = xs.length := by
        have : ¬ ((i : Int) < xs.length) := by simpa using h
        omega
      subst hge
      repeat' first | refine zL ?_ | refine zA ?_ | refine zQ [] ?_ | (refine isA ?_; refine zf rfl ?_) | (refine isL ?_; refine zV rfl (by kernel_rfl) rfl rfl ?_) | (refine zc rfl ?_; refine zU rfl (by kernel_rfl) rfl rfl ?_) | exact yJ rfl rfl rfl | refine zD ?_ | refine zB _ rfl (by kernel_rfl) ?_ | refine zW rfl ?_ | refine zX rfl ?_ | refine zC ?_ | with_reducible refine zO ?_ | refine zI ?_ | refine zJ ?_ | (with_reducible first | refine zM ?_ | refine zN ?_ | refine zF ?_ | refine zH ?_ | refine zG ?_) | refine zP ?_
theorem cH (xs : List Rw) (hl : xs.length ≤ 1000000000) : zy Go.Proofs.Try.prog 119 [rwL xs] [] (I (mC xs)) [] false := by
  refine zw [2] Go.Proofs.Try.func119 rfl rfl ?_
  simp only [Go.Proofs.Try.ntmps119, List.length_cons, List.length_nil, Nat.reduceAdd, Nat.reduceSub, List.replicate_succ, List.replicate_zero, List.cons_append, List.nil_append]
  repeat' first | refine zL ?_ | refine zA ?_ | refine zQ [] ?_ | (refine isA ?_; refine zf rfl ?_) | (refine isL ?_; refine zV rfl (by kernel_rfl) rfl rfl ?_) | (refine zc rfl ?_; refine zU rfl (by kernel_rfl) rfl rfl ?_) | refine zD ?_ | refine zB _ rfl (by kernel_rfl) ?_ | refine zW rfl ?_ | refine zX rfl ?_ | refine zC ?_ | with_reducible refine zO ?_ | refine zI ?_ | refine zJ ?_ | (with_reducible first | refine zM ?_ | refine zN ?_ | refine zF ?_ | refine zH ?_ | refine zG ?_) | refine zP ?_
  refine z9 (α := { i : Nat // i ≤ xs.length }) (fun i => ⟨[rwL xs, .any, .any, I (uo xs i.1), I i.1, .any, .any, .any, .any, .any, .any, .any, .any, .any, .any, .any, .any, .any, .any, .any, .any, .any, .any, .any, .any, .any, .any], [], 0⟩) (fun i => xs.length - i.1) ⟨0, Nat.zero_le _⟩ ?_ ?_
  · exact yW [] rfl rfl (by decide) .nil (by repeat' first | exact zj | refine zZ ?_ ?_ | exact zp | exact le_refl rfl | exact zm rfl rfl | exact zu rfl)
  · rintro ⟨i, hi⟩
    repeat' first | refine zL ?_ | refine zA ?_ | refine zQ [] ?_ | (refine isA ?_; refine zf rfl ?_) | (refine isL ?_; refine zV rfl (by kernel_rfl) rfl rfl ?_) | (refine zc rfl ?_; refine zU rfl (by kernel_rfl) rfl rfl ?_) | refine zD ?_ | refine zB _ rfl (by kernel_rfl) ?_ | refine zW rfl ?_ | refine zX rfl ?_ | refine zC ?_ | with_reducible refine zO ?_ | refine zI ?_ | refine zJ ?_ | (with_reducible first | refine zM ?_ | refine zN ?_ | refine zF ?_ | refine zH ?_ | refine zG ?_) | refine zP ?_
    refine zh rfl (fun h => ?_) (fun h => ?_)
    · have hlt : i < xs.length := by simpa using h
      obtain ⟨x, hx⟩ : ∃ z, xs[i]? = some z := ⟨_, List.getElem?_eq_getElem hlt⟩
      rcases Nat.eq_zero_or_pos i with rfl | hpos
      · have e1 : uo xs (0 + 1) = ((0 : Nat) : Int) := rfl
        repeat' first | refine zL ?_ | refine zA ?_ | refine zQ [] ?_ | (refine isA ?_; refine zf rfl ?_) | (refine isL ?_; refine zV rfl (by kernel_rfl) rfl rfl ?_) | (refine zc rfl ?_; refine zU rfl (by kernel_rfl) rfl rfl ?_) | refine zD ?_ | refine zB _ rfl (by kernel_rfl) ?_ | refine zW rfl ?_ | refine zX rfl ?_ | refine zC ?_ | with_reducible refine zO ?_ | refine zI ?_ | refine zJ ?_ | (with_reducible first | refine zM ?_ | refine zN ?_ | refine zF ?_ | refine zH ?_ | refine zG ?_) | refine zP ?_
        refine ⟨⟨0 + 1, hlt⟩, by simp only; omega, ?_⟩
        exact yW [] rfl rfl (by decide) .nil (by
          repeat' first | exact zj | refine zZ ?_ ?_ | exact zp | exact le_refl rfl | exact yC (congrArg _ e1) | exact xL (by assumption) (by omega))
      · obtain ⟨k, y, m1, m2, m3, m4⟩ := sB (xs := xs) (n := i) (by omega) hpos
        have e1 : uo xs (i + 1) = cond (decide (yu x y < 0)) (i : Int) (k : Int) := by
          rw [uo, m1, decide_eq_false (show ¬ ((k : Nat) : Int) < 0 from by have := Int.natCast_nonneg k; omega), cond_false, Int.toNat_natCast, hx, m3]
        refine ut (T := ⟨[rwL xs, .any, .any, I ((k : Nat) : Int), I ((i : Nat) : Int), .any, .any, .any, .any, .any, .any, .any, .any, .any, .any, .any, .any, .any, .any, .any, .any, .any, .any, .any, .any, .any, .any], [], 0⟩) (yW [] rfl rfl (by decide) .nil (by
          repeat' first | exact zj | refine zZ ?_ ?_ | exact zp | exact le_refl rfl | exact yC (congrArg _ m1.symm))) ?_
        repeat' first | refine zL ?_ | refine zA ?_ | refine zQ [] ?_ | (refine isA ?_; refine zf rfl ?_) | (refine isL ?_; refine zV rfl (by kernel_rfl) rfl rfl ?_) | (refine zc rfl ?_; refine zU rfl (by kernel_rfl) rfl rfl ?_) | refine zD ?_ | refine zB _ rfl (by kernel_rfl) ?_ | refine zW rfl ?_ | refine zX rfl ?_ | refine zC ?_ | with_reducible refine zO ?_ | refine zI ?_ | refine zJ ?_ | (with_reducible first | refine zM ?_ | refine zN ?_ | refine zF ?_ | refine zH ?_ | refine zG ?_) | refine zP ?_
        refine yK rfl rfl rfl rfl (fun p => absurd (of_decide_eq_true p) (by omega)) (fun p => ?_)
        repeat' first | refine zL ?_ | refine zA ?_ | refine zQ [] ?_ | (refine isA ?_; refine zf rfl ?_) | (refine isL ?_; refine zV rfl (by kernel_rfl) rfl rfl ?_) | (refine zc rfl ?_; refine zU rfl (by kernel_rfl) rfl rfl ?_) | (refine yB (x := .tmp 14) ?_; refine za rfl (zz (t := rwT) (z := x) rfl rfl rfl rfl (Int.natCast_nonneg _) hx) rfl ?_) | (refine yA (x := .tmp 14) rfl ?_; refine zT rfl (by kernel_rfl) rfl (zz (t := rwT) (z := x) rfl rfl rfl rfl (Int.natCast_nonneg _) hx) rfl ?_) | (refine yB (x := .tmp 18) ?_; refine za rfl (zz (t := rwT) (z := y) rfl rfl rfl rfl (Int.natCast_nonneg _) m3) rfl ?_) | (refine yA (x := .tmp 18) rfl ?_; refine zT rfl (by kernel_rfl) rfl (zz (t := rwT) (z := y) rfl rfl rfl rfl (Int.natCast_nonneg _) m3) rfl ?_) | (refine zr 68 ?_; refine za rfl (zK rfl (xz x y) (.cons (.same rfl) (.cons (.same rfl) .nil)) rfl) rfl ?_) | (refine zq 68 rfl ?_; refine zT rfl (by kernel_rfl) rfl (zK rfl (xz x y) (.cons (.same rfl) (.cons (.same rfl) .nil)) rfl) rfl ?_) | refine zD ?_ | refine zB _ rfl (by kernel_rfl) ?_ | refine zW rfl ?_ | refine zX rfl ?_ | refine zC ?_ | with_reducible refine zO ?_ | refine zI ?_ | refine zJ ?_ | (with_reducible first | refine zM ?_ | refine zN ?_ | refine zF ?_ | refine zH ?_ | refine zG ?_) | refine zP ?_
        refine zh rfl (fun p => ?_) (fun p => ?_)
        · rw [p, cond_true] at e1
          repeat' first | refine zL ?_ | refine zA ?_ | refine zQ [] ?_ | (refine isA ?_; refine zf rfl ?_) | (refine isL ?_; refine zV rfl (by kernel_rfl) rfl rfl ?_) | (refine zc rfl ?_; refine zU rfl (by kernel_rfl) rfl rfl ?_) | refine zD ?_ | refine zB _ rfl (by kernel_rfl) ?_ | refine zW rfl ?_ | refine zX rfl ?_ | refine zC ?_ | with_reducible refine zO ?_ | refine zI ?_ | refine zJ ?_ | (with_reducible first | refine zM ?_ | refine zN ?_ | refine zF ?_ | refine zH ?_ | refine zG ?_) | refine zP ?_
          refine ⟨⟨i + 1, hlt⟩, by simp only; omega, ?_⟩
          exact yW [] rfl rfl (by decide) .nil (by
            repeat' first | exact zj | refine zZ ?_ ?_ | exact zp | exact le_refl rfl | exact yC (congrArg _ e1) | exact xL (by assumption) (by omega))
        · rw [p, cond_false] at e1
          repeat' first | refine zL ?_ | refine zA ?_ | refine zQ [] ?_ | (refine isA ?_; refine zf rfl ?_) | (refine isL ?_; refine zV rfl (by kernel_rfl) rfl rfl ?_) | (refine zc rfl ?_; refine zU rfl (by kernel_rfl) rfl rfl ?_) | refine zD ?_ | refine zB _ rfl (by kernel_rfl) ?_ | refine zW rfl ?_ | refine zX rfl ?_ | refine zC ?_ | with_reducible refine zO ?_ | refine zI ?_ | refine zJ ?_ | (with_reducible first | refine zM ?_ | refine zN ?_ | refine zF ?_ | refine zH ?_ | refine zG ?_) | refine zP ?_
          refine ⟨⟨i + 1, hlt⟩, by simp only; omega, ?_⟩
          exact yW [] rfl rfl (by decide) .nil (by
            repeat' first | exact zj | refine zZ ?_ ?_ | exact zp | exact le_refl rfl | exact yC (congrArg _ e1) | exact xL (by assumption) (by omega))
    · have hge : i = xs.length := by
        have : ¬ ((i : Int) < xs.length) := by simpa using h
        omega
      subst hge
      repeat' first | refine zL ?_ | refine zA ?_ | refine zQ [] ?_ | (refine isA ?_; refine zf rfl ?_) | (refine isL ?_; refine zV rfl (by kernel_rfl) rfl rfl ?_) | (refine zc rfl ?_; refine zU rfl (by kernel_rfl) rfl rfl ?_) | exact yJ rfl rfl rfl | refine zD ?_ | refine zB _ rfl (by kernel_rfl) ?_ | refine zW rfl ?_ | refine zX rfl ?_ | refine zC ?_ | with_reducible refine zO ?_ | refine zI ?_ | refine zJ ?_ | (with_reducible first | refine zM ?_ | refine zN ?_ | refine zF ?_ | refine zH ?_ | refine zG ?_) | refine zP ?_
theorem lR (xs : List Rw) (k : Nat) (hk : k < xs.length) (hl : xs.length ≤ 100000000) : zy Go.Proofs.Try.prog 62 [rwL xs, I k] [] (.sl 0 0 (xs.take k ++ xs.drop (k + 1)).length) [rwR (xs.take k ++ xs.drop (k + 1))] false := by
  have ew : IntKind.i64.wrap ((k : Int) + 1) = ((k + 1 : Nat) : Int) := by rw [IntKind.wrap_i64]; omega
  refine zw [4] Go.Proofs.Try.func62 rfl rfl ?_
  simp only [Go.Proofs.Try.ntmps62, List.length_cons, List.length_nil, Nat.reduceAdd, Nat.reduceSub, List.replicate_succ, List.replicate_zero, List.cons_append, List.nil_append]
  repeat' first | refine zL ?_ | refine zA ?_ | refine zQ [] ?_ | (refine isA ?_; refine zf rfl ?_) | (refine isL ?_; refine zV rfl (by kernel_rfl) rfl rfl ?_) | (refine zc rfl ?_; refine zU rfl (by kernel_rfl) rfl rfl ?_) | (refine uF (x := .tmp 6) ?_; refine za rfl (ym rfl rfl rfl (by omega)) rfl ?_) | (refine uE (x := .tmp 6) rfl ?_; refine zT rfl (by kernel_rfl) rfl (ym rfl rfl rfl (by omega)) rfl ?_) | (refine uF (x := .tmp 11) ?_; refine za rfl (xn (k := k + 1) rfl rfl rfl ew (by omega)) rfl ?_) | (refine uE (x := .tmp 11) rfl ?_; refine zT rfl (by kernel_rfl) rfl (xn (k := k + 1) rfl rfl rfl ew (by omega)) rfl ?_) | (refine zr 114 ?_; refine za rfl (z6 rfl (x5 (xs.take k) (by simp; omega)) (.cons (.same rfl) .nil) (fun q hq => by simp at hq; subst hq; exact zE _ _) rfl rfl) rfl ?_) | (refine zq 114 rfl ?_; refine zT rfl (by kernel_rfl) rfl (z6 rfl (x5 (xs.take k) (by simp; omega)) (.cons (.same rfl) .nil) (fun q hq => by simp at hq; subst hq; exact zE _ _) rfl rfl) rfl ?_) | (refine xd ?_; refine za rfl (yX (t := rwT) (xs := xs.take k) (ys := xs.drop (k + 1)) rfl rfl rfl rfl (.lst _ _) (by simp; omega) rfl) rfl ?_) | (refine xH rfl ?_; refine zT rfl (by kernel_rfl) rfl (yX (t := rwT) (xs := xs.take k) (ys := xs.drop (k + 1)) rfl rfl rfl rfl (.lst _ _) (by simp; omega) rfl) rfl ?_) | exact jb [1] rfl (wb (by decide) (.cons rfl rfl rfl rfl (zY (zE _ _)) .nil)) (zm rfl rfl) (Or.inr ⟨rfl, fun q hq => by simp at hq; subst hq; exact ⟨Nat.zero_ne_one, fun _ => (xu _).flatS⟩⟩) | refine zD ?_ | refine zB _ rfl (by kernel_rfl) ?_ | refine zW rfl ?_ | refine zX rfl ?_ | refine zC ?_ | with_reducible refine zO ?_ | refine zI ?_ | refine zJ ?_ | (with_reducible first | refine zM ?_ | refine zN ?_ | refine zF ?_ | refine zH ?_ | refine zG ?_) | refine zP ?_
theorem fJ (xs : List Rw) (k : Nat) (hk : k < xs.length) (hl : xs.length ≤ 100000000) : zy Go.Proofs.Try.prog 120 [rwL xs, I k] [] (.sl 0 0 (xs.take k ++ xs.drop (k + 1)).length) [rwR (xs.take k ++ xs.drop (k + 1))] false := by
  have ew : IntKind.i64.wrap ((k : Int) + 1) = ((k + 1 : Nat) : Int) := by rw [IntKind.wrap_i64]; omega
  refine zw [4] Go.Proofs.Try.func120 rfl rfl ?_
  simp only [Go.Proofs.Try.ntmps120, List.length_cons, List.length_nil, Nat.reduceAdd, Nat.reduceSub, List.replicate_succ, List.replicate_zero, List.cons_append, List.nil_append]
  repeat' first | refine zL ?_ | refine zA ?_ | (refine isA ?_; refine zf rfl ?_) | (refine isL ?_; refine zV rfl (by kernel_rfl) rfl rfl ?_) | (refine zc rfl ?_; refine zU rfl (by kernel_rfl) rfl rfl ?_) | refine zD ?_ | refine zB _ rfl (by kernel_rfl) ?_ | refine zW rfl ?_ | refine zX rfl ?_ | refine zC ?_ | with_reducible refine zO ?_ | refine zI ?_ | refine zJ ?_ | (with_reducible first | refine zM ?_ | refine zN ?_ | refine zF ?_ | refine zH ?_ | refine zG ?_) | refine zP ?_
  refine tP (fun _ => True) 11 rfl ?_
  refine yZ 1 trivial rfl (by kernel_rfl) rfl (fun _ => rfl) rfl ?_
  refine yZ 2 trivial rfl (by kernel_rfl) rfl (fun _ => rfl) rfl ?_
  refine xC 3 trivial rfl (by kernel_rfl) rfl (fun _ _ => ym rfl rfl rfl (by omega)) rfl ?_
  refine yZ 5 trivial rfl (by kernel_rfl) rfl (fun _ => rfl) rfl ?_
  refine yZ 6 trivial rfl (by kernel_rfl) rfl (fun _ => rfl) rfl ?_
  refine yZ 7 trivial rfl (by kernel_rfl) rfl (fun _ => rfl) rfl ?_
  refine xC 8 trivial rfl (by kernel_rfl) rfl (fun _ _ => xn (k := k + 1) rfl rfl rfl ew (by omega)) rfl ?_
  refine wY 0 (by kernel_rfl) ?_
  refine fM rfl rfl rfl trivial rfl ?_
  refine wY 4 (by kernel_rfl) ?_
  refine qA rfl rfl (yX (t := rwT) (xs := []) (ys := xs.take k) rfl rfl rfl rfl (.lst _ _) (by simp; omega) rfl) trivial rfl ?_
  refine wY 9 (by kernel_rfl) ?_
  refine qA rfl rfl (yX (t := rwT) (xs := [] ++ xs.take k) (ys := xs.drop (k + 1)) rfl rfl rfl rfl (.lst _ _) (by simp; omega) rfl) trivial rfl ?_
  refine yZ 10 trivial rfl (by kernel_rfl) rfl (fun _ => rfl) rfl ?_
  refine vG (by kernel_rfl) ?_
  repeat' first | refine zL ?_ | refine zA ?_ | refine zQ [] ?_ | (refine isA ?_; refine zf rfl ?_) | (refine isL ?_; refine zV rfl (by kernel_rfl) rfl rfl ?_) | (refine zc rfl ?_; refine zU rfl (by kernel_rfl) rfl rfl ?_) | exact jb [2] rfl (wb (by decide) (.cons rfl rfl rfl rfl (zY (zE _ _)) .nil)) (zm rfl rfl) (Or.inr ⟨rfl, fun q hq => by simp at hq; subst hq; exact ⟨Nat.zero_ne_one, fun _ => (xu _).flatS⟩⟩) | refine zD ?_ | refine zB _ rfl (by kernel_rfl) ?_ | refine zW rfl ?_ | refine zX rfl ?_ | refine zC ?_ | with_reducible refine zO ?_ | refine zI ?_ | refine zJ ?_ | (with_reducible first | refine zM ?_ | refine zN ?_ | refine zF ?_ | refine zH ?_ | refine zG ?_) | refine zP ?_
end Go.Proofs.Ytojcojanokhnaaa.Ab
namespace Go.Proofs.Ytojcojanokhnaaa.Ab
open Go.RowKit
theorem vf (rs : List Rn) : rs.flatten.length = tot rs := by rw [List.length_flatten]; rfl
theorem vI {rs : List Rn} {i : Nat} {z : Rn} (hz : rs[i]? = some z) : (rs.take (i + 1)).flatten = (rs.take i).flatten ++ z := by
  rw [yw hz]; simp
theorem lV (rs : List Rn) (hok : t5 rs) (ht : tot rs ≤ 100000000) : zy Go.Proofs.Try.prog 85 [rnL rs] [] (.sl 0 0 rs.flatten.length) [rwR rs.flatten] false := by
  have hl := hok.1
  refine zw [2] Go.Proofs.Try.func85 rfl rfl ?_
  simp only [Go.Proofs.Try.ntmps85, List.length_cons, List.length_nil, Nat.reduceAdd, Nat.reduceSub, List.replicate_succ, List.replicate_zero, List.cons_append, List.nil_append]
  repeat' first | refine zL ?_ | refine zA ?_ | refine zQ [] ?_ | (refine isA ?_; refine zf rfl ?_) | (refine isL ?_; refine zV rfl (by kernel_rfl) rfl rfl ?_) | (refine zc rfl ?_; refine zU rfl (by kernel_rfl) rfl rfl ?_) | refine zD ?_ | refine zB _ rfl (by kernel_rfl) ?_ | refine zW rfl ?_ | refine zX rfl ?_ | refine zC ?_ | with_reducible refine zO ?_ | refine zI ?_ | refine zJ ?_ | (with_reducible first | refine zM ?_ | refine zN ?_ | refine zF ?_ | refine zH ?_ | refine zG ?_) | refine zP ?_
  refine z9 (α := { i : Nat // i ≤ rs.length }) (fun i => ⟨[rnL rs, .any, .any, .sl 0 0 (rs.take i.1).flatten.length, I i.1, .any, .any, .any, .any, .any, .any, .any, .any, .any, .any, .any, .any, .any, .any, .any], [rwR (rs.take i.1).flatten], 0⟩) (fun i => rs.length - i.1) ⟨0, Nat.zero_le _⟩ ?_ ?_
  · exact xl rfl (by repeat' first | exact EqS.nil | refine EqS.any ?_ | refine EqS.same rfl ?_)
  · rintro ⟨i, hi⟩
    repeat' first | refine zL ?_ | refine zA ?_ | refine zQ [] ?_ | (refine isA ?_; refine zf rfl ?_) | (refine isL ?_; refine zV rfl (by kernel_rfl) rfl rfl ?_) | (refine zc rfl ?_; refine zU rfl (by kernel_rfl) rfl rfl ?_) | refine zD ?_ | refine zB _ rfl (by kernel_rfl) ?_ | refine zW rfl ?_ | refine zX rfl ?_ | refine zC ?_ | with_reducible refine zO ?_ | refine zI ?_ | refine zJ ?_ | (with_reducible first | refine zM ?_ | refine zN ?_ | refine zF ?_ | refine zH ?_ | refine zG ?_) | refine zP ?_
    refine zh rfl (fun h => ?_) (fun h => ?_)
    · have hlt : i < rs.length := by simpa using h
      obtain ⟨z, hz⟩ : ∃ z, rs[i]? = some z := ⟨_, List.getElem?_eq_getElem hlt⟩
      have h1 := nr rs (i + 1)
      rw [sN hz] at h1
      have h2 := vf (rs.take i)
      repeat' first | refine zL ?_ | refine zA ?_ | refine zQ [] ?_ | (refine isA ?_; refine zf rfl ?_) | (refine isL ?_; refine zV rfl (by kernel_rfl) rfl rfl ?_) | (refine zc rfl ?_; refine zU rfl (by kernel_rfl) rfl rfl ?_) | (refine yB ?_; refine za rfl (zz (t := rnT) (z := z) rfl rfl rfl rfl (Int.natCast_nonneg i) hz) rfl ?_) | (refine yA rfl ?_; refine zT rfl (by kernel_rfl) rfl (zz (t := rnT) (z := z) rfl rfl rfl rfl (Int.natCast_nonneg i) hz) rfl ?_) | (refine xd ?_; refine za rfl (yX (t := rwT) (xs := (rs.take i).flatten) (ys := z) rfl rfl rfl rfl (.lst _ _) (by omega) rfl) rfl ?_) | (refine xH rfl ?_; refine zT rfl (by kernel_rfl) rfl (yX (t := rwT) (xs := (rs.take i).flatten) (ys := z) rfl rfl rfl rfl (.lst _ _) (by omega) rfl) rfl ?_) | refine zD ?_ | refine zB _ rfl (by kernel_rfl) ?_ | refine zW rfl ?_ | refine zX rfl ?_ | refine zC ?_ | with_reducible refine zO ?_ | refine zI ?_ | refine zJ ?_ | (with_reducible first | refine zM ?_ | refine zN ?_ | refine zF ?_ | refine zH ?_ | refine zG ?_) | refine zP ?_
      refine ⟨⟨i + 1, hlt⟩, by simp only; omega, ?_⟩
      exact yW [1] rfl rfl (by decide) (.cons rfl rfl rfl rfl (yd (by rw [vI hz]) (zE _ _)) .nil) (by
        repeat' first | exact zj | refine zZ ?_ ?_ | exact zp | exact le_refl rfl | exact zm rfl rfl | exact zm rfl (by rw [vI hz, List.length_append]) | exact xL (by assumption) (by omega))
    · have hge : i = rs.length := by
        have : ¬ ((i : Int) < rs.length) := by simpa using h
        omega
      subst hge
      repeat' first | refine zL ?_ | refine zA ?_ | refine zQ [] ?_ | (refine isA ?_; refine zf rfl ?_) | (refine isL ?_; refine zV rfl (by kernel_rfl) rfl rfl ?_) | (refine zc rfl ?_; refine zU rfl (by kernel_rfl) rfl rfl ?_) | exact kI (ty := rwT) rfl rfl rfl rfl (by simp) (by simp) (xu _) | refine zD ?_ | refine zB _ rfl (by kernel_rfl) ?_ | refine zW rfl ?_ | refine zX rfl ?_ | refine zC ?_ | with_reducible refine zO ?_ | refine zI ?_ | refine zJ ?_ | (with_reducible first | refine zM ?_ | refine zN ?_ | refine zF ?_ | refine zH ?_ | refine zG ?_) | refine zP ?_
theorem eS (rs : List Rn) (hok : t5 rs) (ht : tot rs ≤ 100000000) : zy Go.Proofs.Try.prog 78 [rnL rs] [] (.sl 0 0 rs.flatten.length) [rwR rs.flatten] false := by
  have hl := hok.1
  refine zw [2] Go.Proofs.Try.func78 rfl rfl ?_
  simp only [Go.Proofs.Try.ntmps78, List.length_cons, List.length_nil, Nat.reduceAdd, Nat.reduceSub, List.replicate_succ, List.replicate_zero, List.cons_append, List.nil_append]
  repeat' first | refine zL ?_ | refine zA ?_ | refine zQ [] ?_ | (refine isA ?_; refine zf rfl ?_) | (refine isL ?_; refine zV rfl (by kernel_rfl) rfl rfl ?_) | (refine zc rfl ?_; refine zU rfl (by kernel_rfl) rfl rfl ?_) | refine zD ?_ | refine zB _ rfl (by kernel_rfl) ?_ | refine zW rfl ?_ | refine zX rfl ?_ | refine zC ?_ | with_reducible refine zO ?_ | refine zI ?_ | refine zJ ?_ | (with_reducible first | refine zM ?_ | refine zN ?_ | refine zF ?_ | refine zH ?_ | refine zG ?_) | refine zP ?_
  refine z9 (α := { i : Nat // i ≤ rs.length }) (fun i => ⟨[rnL rs, .any, .any, .sl 0 0 (rs.take i.1).flatten.length, .any, .any, .any, rnL rs, I rs.length, I i.1, .any, .any, .any, .any, .any, .any, .any, .any, .any], [rwR (rs.take i.1).flatten], 0⟩) (fun i => rs.length - i.1) ⟨0, Nat.zero_le _⟩ ?_ ?_
  · exact xl rfl (by repeat' first | exact EqS.nil | refine EqS.any ?_ | refine EqS.same rfl ?_)
  · rintro ⟨i, hi⟩
    repeat' first | refine zL ?_ | refine zA ?_ | refine zQ [] ?_ | (refine isA ?_; refine zf rfl ?_) | (refine isL ?_; refine zV rfl (by kernel_rfl) rfl rfl ?_) | (refine zc rfl ?_; refine zU rfl (by kernel_rfl) rfl rfl ?_) | refine zD ?_ | refine zB _ rfl (by kernel_rfl) ?_ | refine zW rfl ?_ | refine zX rfl ?_ | refine zC ?_ | with_reducible refine zO ?_ | refine zI ?_ | refine zJ ?_ | (with_reducible first | refine zM ?_ | refine zN ?_ | refine zF ?_ | refine zH ?_ | refine zG ?_) | refine zP ?_
    refine zh rfl (fun h => ?_) (fun h => ?_)
    · have hlt : i < rs.length := by simpa using h
      obtain ⟨z, hz⟩ : ∃ z, rs[i]? = some z := ⟨_, List.getElem?_eq_getElem hlt⟩
      have h1 := nr rs (i + 1)
      rw [sN hz] at h1
      have h2 := vf (rs.take i)
      repeat' first | refine zL ?_ | refine zA ?_ | refine zQ [] ?_ | (refine isA ?_; refine zf rfl ?_) | (refine isL ?_; refine zV rfl (by kernel_rfl) rfl rfl ?_) | (refine zc rfl ?_; refine zU rfl (by kernel_rfl) rfl rfl ?_) | (refine yB ?_; refine za rfl (zz (t := rnT) (z := z) rfl rfl rfl rfl (Int.natCast_nonneg i) hz) rfl ?_) | (refine yA rfl ?_; refine zT rfl (by kernel_rfl) rfl (zz (t := rnT) (z := z) rfl rfl rfl rfl (Int.natCast_nonneg i) hz) rfl ?_) | (refine xd ?_; refine za rfl (yX (t := rwT) (xs := (rs.take i).flatten) (ys := z) rfl rfl rfl rfl (.lst _ _) (by omega) rfl) rfl ?_) | (refine xH rfl ?_; refine zT rfl (by kernel_rfl) rfl (yX (t := rwT) (xs := (rs.take i).flatten) (ys := z) rfl rfl rfl rfl (.lst _ _) (by omega) rfl) rfl ?_) | refine zD ?_ | refine zB _ rfl (by kernel_rfl) ?_ | refine zW rfl ?_ | refine zX rfl ?_ | refine zC ?_ | with_reducible refine zO ?_ | refine zI ?_ | refine zJ ?_ | (with_reducible first | refine zM ?_ | refine zN ?_ | refine zF ?_ | refine zH ?_ | refine zG ?_) | refine zP ?_
      refine ⟨⟨i + 1, hlt⟩, by simp only; omega, ?_⟩
      exact yW [2] rfl rfl (by decide) (.cons rfl rfl rfl rfl (yd (by rw [vI hz]) (zE _ _)) .nil) (by
        repeat' first | exact zj | refine zZ ?_ ?_ | exact zp | exact le_refl rfl | exact zm rfl rfl | exact zm rfl (by rw [vI hz, List.length_append]) | exact xL (by assumption) (by omega))
    · have hge : i = rs.length := by
        have : ¬ ((i : Int) < rs.length) := by simpa using h
        omega
      subst hge
      repeat' first | refine zL ?_ | refine zA ?_ | refine zQ [] ?_ | (refine isA ?_; refine zf rfl ?_) | (refine isL ?_; refine zV rfl (by kernel_rfl) rfl rfl ?_) | (refine zc rfl ?_; refine zU rfl (by kernel_rfl) rfl rfl ?_) | exact kI (ty := rwT) rfl rfl rfl rfl (by simp) (by simp) (xu _) | refine zD ?_ | refine zB _ rfl (by kernel_rfl) ?_ | refine zW rfl ?_ | refine zX rfl ?_ | refine zC ?_ | with_reducible refine zO ?_ | refine zI ?_ | refine zJ ?_ | (with_reducible first | refine zM ?_ | refine zN ?_ | refine zF ?_ | refine zH ?_ | refine zG ?_) | refine zP ?_
end Go.Proofs.Ytojcojanokhnaaa.Ab
namespace Go.Proofs.Ytojcojanokhnaaa.Ab
open Go.RowKit
theorem jI {rs : List Rn} {k : Nat} {p : Int} (h : p < 0) : rcV rs k p = 0 := by unfold rcV; rw [decide_eq_true h, cond_true]
theorem dt {rs : List Rn} {k : Nat} {p : Int} (h : rs.length ≤ k) : rcV rs k p = 0 := by
  unfold rcV
  rw [List.getD_eq_getElem?_getD, List.getElem?_eq_none h]
  cases decide (p < 0) <;> rfl
theorem du {rs : List Rn} {k p : Nat} {z : Rn} (hz : rs[k]? = some z) (h : z.length ≤ p) : rcV rs k p = 0 := by
  unfold rcV
  rw [List.getD_eq_getElem?_getD, hz, Option.getD_some, Int.toNat_natCast, List.getElem?_eq_none h]
  cases decide ((p : Int) < 0) <;> rfl
theorem rc_at {rs : List Rn} {k p : Nat} {z : Rn} {x : Rw} (hz : rs[k]? = some z) (hx : z[p]? = some x) : rcV rs k p = y3 x := by
  unfold rcV
  rw [List.getD_eq_getElem?_getD, hz, Option.getD_some, Int.toNat_natCast, hx, decide_eq_false (by omega), cond_false]
  show y3 x + 0 = y3 x
  omega
theorem qd (s : So) (k : Nat) (p : Int) (hok : t5 s.runs) (hk : k ≤ 1) : zy Go.Proofs.Try.prog 89 [.agg (soE s), I k, I p] [] (I (rcV s.runs k p)) [] false := by
  have hl := hok.1
  rcases Nat.lt_or_ge k s.runs.length with h1 | h1
  · obtain ⟨z, hz⟩ : ∃ z, s.runs[k]? = some z := ⟨_, List.getElem?_eq_getElem h1⟩
    have zl := hok.at hz
    rcases Int.lt_or_le p 0 with h2 | h2
    · have e := jI (rs := s.runs) (k := k) h2
      refine zw [6] Go.Proofs.Try.func89 rfl rfl ?_
      simp only [Go.Proofs.Try.ntmps89, List.length_cons, List.length_nil, Nat.reduceAdd, Nat.reduceSub, List.replicate_succ, List.replicate_zero, List.cons_append, List.nil_append]
      repeat' first | refine zL ?_ | refine zA ?_ | refine zQ [] ?_ | (refine isA ?_; refine zf rfl ?_) | (refine isL ?_; refine zV rfl (by kernel_rfl) rfl rfl ?_) | (refine zc rfl ?_; refine zU rfl (by kernel_rfl) rfl rfl ?_) | refine zD ?_ | refine zB _ rfl (by kernel_rfl) ?_ | refine zW rfl ?_ | refine zX rfl ?_ | refine zC ?_ | with_reducible refine zO ?_ | refine zI ?_ | refine zJ ?_ | (with_reducible first | refine zM ?_ | refine zN ?_ | refine zF ?_ | refine zH ?_ | refine zG ?_) | refine zP ?_
      refine yb rfl rfl (fun h => absurd (of_decide_eq_true h) (by omega)) (fun h => ?_)
      repeat' first | refine zL ?_ | refine zA ?_ | refine zQ [] ?_ | (refine isA ?_; refine zf rfl ?_) | (refine isL ?_; refine zV rfl (by kernel_rfl) rfl rfl ?_) | (refine zc rfl ?_; refine zU rfl (by kernel_rfl) rfl rfl ?_) | refine zD ?_ | refine zB _ rfl (by kernel_rfl) ?_ | refine zW rfl ?_ | refine zX rfl ?_ | refine zC ?_ | with_reducible refine zO ?_ | refine zI ?_ | refine zJ ?_ | (with_reducible first | refine zM ?_ | refine zN ?_ | refine zF ?_ | refine zH ?_ | refine zG ?_) | refine zP ?_
      refine yb rfl rfl (fun h => ?_) (fun h => absurd h2 (of_decide_eq_false h))
      repeat' first | refine zL ?_ | refine zA ?_ | refine zQ [] ?_ | (refine isA ?_; refine zf rfl ?_) | (refine isL ?_; refine zV rfl (by kernel_rfl) rfl rfl ?_) | (refine zc rfl ?_; refine zU rfl (by kernel_rfl) rfl rfl ?_) | exact yJ rfl rfl (by rw [e]) | refine zD ?_ | refine zB _ rfl (by kernel_rfl) ?_ | refine zW rfl ?_ | refine zX rfl ?_ | refine zC ?_ | with_reducible refine zO ?_ | refine zI ?_ | refine zJ ?_ | (with_reducible first | refine zM ?_ | refine zN ?_ | refine zF ?_ | refine zH ?_ | refine zG ?_) | refine zP ?_
    · obtain ⟨q, rfl⟩ := Int.eq_ofNat_of_zero_le h2
      rcases Nat.lt_or_ge q z.length with h3 | h3
      · obtain ⟨x, hx⟩ : ∃ y, z[q]? = some y := ⟨_, List.getElem?_eq_getElem h3⟩
        have e := rc_at hz hx
        refine zw [6] Go.Proofs.Try.func89 rfl rfl ?_
        simp only [Go.Proofs.Try.ntmps89, List.length_cons, List.length_nil, Nat.reduceAdd, Nat.reduceSub, List.replicate_succ, List.replicate_zero, List.cons_append, List.nil_append]
        repeat' first | refine zL ?_ | refine zA ?_ | refine zQ [] ?_ | (refine isA ?_; refine zf rfl ?_) | (refine isL ?_; refine zV rfl (by kernel_rfl) rfl rfl ?_) | (refine zc rfl ?_; refine zU rfl (by kernel_rfl) rfl rfl ?_) | refine zD ?_ | refine zB _ rfl (by kernel_rfl) ?_ | refine zW rfl ?_ | refine zX rfl ?_ | refine zC ?_ | with_reducible refine zO ?_ | refine zI ?_ | refine zJ ?_ | (with_reducible first | refine zM ?_ | refine zN ?_ | refine zF ?_ | refine zH ?_ | refine zG ?_) | refine zP ?_
        refine yb rfl rfl (fun h => absurd (of_decide_eq_true h) (by omega)) (fun h => ?_)
        repeat' first | refine zL ?_ | refine zA ?_ | refine zQ [] ?_ | (refine isA ?_; refine zf rfl ?_) | (refine isL ?_; refine zV rfl (by kernel_rfl) rfl rfl ?_) | (refine zc rfl ?_; refine zU rfl (by kernel_rfl) rfl rfl ?_) | refine zD ?_ | refine zB _ rfl (by kernel_rfl) ?_ | refine zW rfl ?_ | refine zX rfl ?_ | refine zC ?_ | with_reducible refine zO ?_ | refine zI ?_ | refine zJ ?_ | (with_reducible first | refine zM ?_ | refine zN ?_ | refine zF ?_ | refine zH ?_ | refine zG ?_) | refine zP ?_
        refine yb rfl rfl (fun h => absurd (of_decide_eq_true h) (by omega)) (fun h => ?_)
        repeat' first | refine zL ?_ | refine zA ?_ | refine zQ [] ?_ | (refine isA ?_; refine zf rfl ?_) | (refine isL ?_; refine zV rfl (by kernel_rfl) rfl rfl ?_) | (refine zc rfl ?_; refine zU rfl (by kernel_rfl) rfl rfl ?_) | (refine yB (x := .tmp 19) ?_; refine za rfl (zz (t := rnT) (z := z) rfl rfl rfl rfl (Int.natCast_nonneg k) hz) rfl ?_) | (refine yA (x := .tmp 19) rfl ?_; refine zT rfl (by kernel_rfl) rfl (zz (t := rnT) (z := z) rfl rfl rfl rfl (Int.natCast_nonneg k) hz) rfl ?_) | (refine yB (x := .tmp 28) ?_; refine za rfl (zz (t := rnT) (z := z) rfl rfl rfl rfl (Int.natCast_nonneg k) hz) rfl ?_) | (refine yA (x := .tmp 28) rfl ?_; refine zT rfl (by kernel_rfl) rfl (zz (t := rnT) (z := z) rfl rfl rfl rfl (Int.natCast_nonneg k) hz) rfl ?_) | (refine yB (x := .tmp 32) ?_; refine za rfl (zz (t := rwT) (z := x) rfl rfl rfl rfl (Int.natCast_nonneg q) hx) rfl ?_) | (refine yA (x := .tmp 32) rfl ?_; refine zT rfl (by kernel_rfl) rfl (zz (t := rwT) (z := x) rfl rfl rfl rfl (Int.natCast_nonneg q) hx) rfl ?_) | (refine zr 58 ?_; refine za rfl (zK rfl (w7 x) (.cons (.same rfl) .nil) rfl) rfl ?_) | (refine zq 58 rfl ?_; refine zT rfl (by kernel_rfl) rfl (zK rfl (w7 x) (.cons (.same rfl) .nil) rfl) rfl ?_) | refine zD ?_ | refine zB _ rfl (by kernel_rfl) ?_ | refine zW rfl ?_ | refine zX rfl ?_ | refine zC ?_ | with_reducible refine zO ?_ | refine zI ?_ | refine zJ ?_ | (with_reducible first | refine zM ?_ | refine zN ?_ | refine zF ?_ | refine zH ?_ | refine zG ?_) | refine zP ?_
        refine zh rfl (fun h => absurd (of_decide_eq_true h) (by omega)) (fun h => ?_)
        repeat' first | refine zL ?_ | refine zA ?_ | refine zQ [] ?_ | (refine isA ?_; refine zf rfl ?_) | (refine isL ?_; refine zV rfl (by kernel_rfl) rfl rfl ?_) | (refine zc rfl ?_; refine zU rfl (by kernel_rfl) rfl rfl ?_) | (refine yB (x := .tmp 19) ?_; refine za rfl (zz (t := rnT) (z := z) rfl rfl rfl rfl (Int.natCast_nonneg k) hz) rfl ?_) | (refine yA (x := .tmp 19) rfl ?_; refine zT rfl (by kernel_rfl) rfl (zz (t := rnT) (z := z) rfl rfl rfl rfl (Int.natCast_nonneg k) hz) rfl ?_) | (refine yB (x := .tmp 28) ?_; refine za rfl (zz (t := rnT) (z := z) rfl rfl rfl rfl (Int.natCast_nonneg k) hz) rfl ?_) | (refine yA (x := .tmp 28) rfl ?_; refine zT rfl (by kernel_rfl) rfl (zz (t := rnT) (z := z) rfl rfl rfl rfl (Int.natCast_nonneg k) hz) rfl ?_) | (refine yB (x := .tmp 32) ?_; refine za rfl (zz (t := rwT) (z := x) rfl rfl rfl rfl (Int.natCast_nonneg q) hx) rfl ?_) | (refine yA (x := .tmp 32) rfl ?_; refine zT rfl (by kernel_rfl) rfl (zz (t := rwT) (z := x) rfl rfl rfl rfl (Int.natCast_nonneg q) hx) rfl ?_) | (refine zr 58 ?_; refine za rfl (zK rfl (w7 x) (.cons (.same rfl) .nil) rfl) rfl ?_) | (refine zq 58 rfl ?_; refine zT rfl (by kernel_rfl) rfl (zK rfl (w7 x) (.cons (.same rfl) .nil) rfl) rfl ?_) | exact yJ rfl rfl (by rw [e]) | refine zD ?_ | refine zB _ rfl (by kernel_rfl) ?_ | refine zW rfl ?_ | refine zX rfl ?_ | refine zC ?_ | with_reducible refine zO ?_ | refine zI ?_ | refine zJ ?_ | (with_reducible first | refine zM ?_ | refine zN ?_ | refine zF ?_ | refine zH ?_ | refine zG ?_) | refine zP ?_
      · have e := du hz h3
        refine zw [6] Go.Proofs.Try.func89 rfl rfl ?_
        simp only [Go.Proofs.Try.ntmps89, List.length_cons, List.length_nil, Nat.reduceAdd, Nat.reduceSub, List.replicate_succ, List.replicate_zero, List.cons_append, List.nil_append]
        repeat' first | refine zL ?_ | refine zA ?_ | refine zQ [] ?_ | (refine isA ?_; refine zf rfl ?_) | (refine isL ?_; refine zV rfl (by kernel_rfl) rfl rfl ?_) | (refine zc rfl ?_; refine zU rfl (by kernel_rfl) rfl rfl ?_) | refine zD ?_ | refine zB _ rfl (by kernel_rfl) ?_ | refine zW rfl ?_ | refine zX rfl ?_ | refine zC ?_ | with_reducible refine zO ?_ | refine zI ?_ | refine zJ ?_ | (with_reducible first | refine zM ?_ | refine zN ?_ | refine zF ?_ | refine zH ?_ | refine zG ?_) | refine zP ?_
        refine yb rfl rfl (fun h => absurd (of_decide_eq_true h) (by omega)) (fun h => ?_)
        repeat' first | refine zL ?_ | refine zA ?_ | refine zQ [] ?_ | (refine isA ?_; refine zf rfl ?_) | (refine isL ?_; refine zV rfl (by kernel_rfl) rfl rfl ?_) | (refine zc rfl ?_; refine zU rfl (by kernel_rfl) rfl rfl ?_) | refine zD ?_ | refine zB _ rfl (by kernel_rfl) ?_ | refine zW rfl ?_ | refine zX rfl ?_ | refine zC ?_ | with_reducible refine zO ?_ | refine zI ?_ | refine zJ ?_ | (with_reducible first | refine zM ?_ | refine zN ?_ | refine zF ?_ | refine zH ?_ | refine zG ?_) | refine zP ?_
        refine yb rfl rfl (fun h => absurd (of_decide_eq_true h) (by omega)) (fun h => ?_)
        repeat' first | refine zL ?_ | refine zA ?_ | refine zQ [] ?_ | (refine isA ?_; refine zf rfl ?_) | (refine isL ?_; refine zV rfl (by kernel_rfl) rfl rfl ?_) | (refine zc rfl ?_; refine zU rfl (by kernel_rfl) rfl rfl ?_) | (refine yB (x := .tmp 19) ?_; refine za rfl (zz (t := rnT) (z := z) rfl rfl rfl rfl (Int.natCast_nonneg k) hz) rfl ?_) | (refine yA (x := .tmp 19) rfl ?_; refine zT rfl (by kernel_rfl) rfl (zz (t := rnT) (z := z) rfl rfl rfl rfl (Int.natCast_nonneg k) hz) rfl ?_) | refine zD ?_ | refine zB _ rfl (by kernel_rfl) ?_ | refine zW rfl ?_ | refine zX rfl ?_ | refine zC ?_ | with_reducible refine zO ?_ | refine zI ?_ | refine zJ ?_ | (with_reducible first | refine zM ?_ | refine zN ?_ | refine zF ?_ | refine zH ?_ | refine zG ?_) | refine zP ?_
        refine zh rfl (fun h => ?_) (fun h => absurd (of_decide_eq_false h) (by omega))
        repeat' first | refine zL ?_ | refine zA ?_ | refine zQ [] ?_ | (refine isA ?_; refine zf rfl ?_) | (refine isL ?_; refine zV rfl (by kernel_rfl) rfl rfl ?_) | (refine zc rfl ?_; refine zU rfl (by kernel_rfl) rfl rfl ?_) | exact yJ rfl rfl (by rw [e]) | refine zD ?_ | refine zB _ rfl (by kernel_rfl) ?_ | refine zW rfl ?_ | refine zX rfl ?_ | refine zC ?_ | with_reducible refine zO ?_ | refine zI ?_ | refine zJ ?_ | (with_reducible first | refine zM ?_ | refine zN ?_ | refine zF ?_ | refine zH ?_ | refine zG ?_) | refine zP ?_
  · have e := dt (p := p) h1
    refine zw [6] Go.Proofs.Try.func89 rfl rfl ?_
    simp only [Go.Proofs.Try.ntmps89, List.length_cons, List.length_nil, Nat.reduceAdd, Nat.reduceSub, List.replicate_succ, List.replicate_zero, List.cons_append, List.nil_append]
    repeat' first | refine zL ?_ | refine zA ?_ | refine zQ [] ?_ | (refine isA ?_; refine zf rfl ?_) | (refine isL ?_; refine zV rfl (by kernel_rfl) rfl rfl ?_) | (refine zc rfl ?_; refine zU rfl (by kernel_rfl) rfl rfl ?_) | refine zD ?_ | refine zB _ rfl (by kernel_rfl) ?_ | refine zW rfl ?_ | refine zX rfl ?_ | refine zC ?_ | with_reducible refine zO ?_ | refine zI ?_ | refine zJ ?_ | (with_reducible first | refine zM ?_ | refine zN ?_ | refine zF ?_ | refine zH ?_ | refine zG ?_) | refine zP ?_
    refine yb rfl rfl (fun h => ?_) (fun h => absurd (of_decide_eq_false h) (by omega))
    repeat' first | refine zL ?_ | refine zA ?_ | refine zQ [] ?_ | (refine isA ?_; refine zf rfl ?_) | (refine isL ?_; refine zV rfl (by kernel_rfl) rfl rfl ?_) | (refine zc rfl ?_; refine zU rfl (by kernel_rfl) rfl rfl ?_) | exact yJ rfl rfl (by rw [e]) | refine zD ?_ | refine zB _ rfl (by kernel_rfl) ?_ | refine zW rfl ?_ | refine zX rfl ?_ | refine zC ?_ | with_reducible refine zO ?_ | refine zI ?_ | refine zJ ?_ | (with_reducible first | refine zM ?_ | refine zN ?_ | refine zF ?_ | refine zH ?_ | refine zG ?_) | refine zP ?_
def wX (rs : List Rn) (k p : Nat) : List Rw := ((rs.getD k [])[p]?).toList
theorem qy (rs : List Rn) (k p : Nat) : (wX rs k p).length ≤ 1 := by
  unfold wX; cases (rs.getD k [])[p]? <;> simp
theorem n8 (rs : List Rn) (k p : Nat) : rcV rs k p = yR (wX rs k p) := by
  unfold rcV wX
  rw [decide_eq_false (by omega), cond_false, Int.toNat_natCast]
theorem wT (rs : List Rn) (k p : Nat) (hok : t5 rs) (hk : k ≤ 1) : zy Go.Proofs.Try.prog 71 [rnL rs, I k, I p] [] (rwL (wX rs k p)) [] true := by
  have hl := hok.1
  rcases Nat.lt_or_ge k rs.length with h1 | h1
  · obtain ⟨z, hz⟩ : ∃ z, rs[k]? = some z := ⟨_, List.getElem?_eq_getElem h1⟩
    have zl := hok.at hz
    rcases Nat.lt_or_ge p z.length with h3 | h3
    · obtain ⟨x, hx⟩ : ∃ y, z[p]? = some y := ⟨_, List.getElem?_eq_getElem h3⟩
      have e : wX rs k p = [x] := by unfold wX; rw [List.getD_eq_getElem?_getD, hz, Option.getD_some, hx]; rfl
      rw [e]
      refine zw [6] Go.Proofs.Try.func71 rfl rfl ?_
      simp only [Go.Proofs.Try.ntmps71, List.length_cons, List.length_nil, Nat.reduceAdd, Nat.reduceSub, List.replicate_succ, List.replicate_zero, List.cons_append, List.nil_append]
      repeat' first | refine zL ?_ | refine zA ?_ | refine zQ [] ?_ | (refine isA ?_; refine zf rfl ?_) | (refine isL ?_; refine zV rfl (by kernel_rfl) rfl rfl ?_) | (refine zc rfl ?_; refine zU rfl (by kernel_rfl) rfl rfl ?_) | refine zD ?_ | refine zB _ rfl (by kernel_rfl) ?_ | refine zW rfl ?_ | refine zX rfl ?_ | refine zC ?_ | with_reducible refine zO ?_ | refine zI ?_ | refine zJ ?_ | (with_reducible first | refine zM ?_ | refine zN ?_ | refine zF ?_ | refine zH ?_ | refine zG ?_) | refine zP ?_
      refine yb rfl rfl (fun h => ?_) (fun h => absurd (of_decide_eq_false h) (by omega))
      repeat' first | refine zL ?_ | refine zA ?_ | refine zQ [] ?_ | (refine isA ?_; refine zf rfl ?_) | (refine isL ?_; refine zV rfl (by kernel_rfl) rfl rfl ?_) | (refine zc rfl ?_; refine zU rfl (by kernel_rfl) rfl rfl ?_) | (refine yB (x := .tmp 13) ?_; refine za rfl (zz (t := rnT) (z := z) rfl rfl rfl rfl (Int.natCast_nonneg k) hz) rfl ?_) | (refine yA (x := .tmp 13) rfl ?_; refine zT rfl (by kernel_rfl) rfl (zz (t := rnT) (z := z) rfl rfl rfl rfl (Int.natCast_nonneg k) hz) rfl ?_) | refine zD ?_ | refine zB _ rfl (by kernel_rfl) ?_ | refine zW rfl ?_ | refine zX rfl ?_ | refine zC ?_ | with_reducible refine zO ?_ | refine zI ?_ | refine zJ ?_ | (with_reducible first | refine zM ?_ | refine zN ?_ | refine zF ?_ | refine zH ?_ | refine zG ?_) | refine zP ?_
      refine zh rfl (fun h => ?_) (fun h => absurd (of_decide_eq_false h) (by omega))
      repeat' first | (refine isA ?_; refine za rfl (yh rfl rfl rfl rfl rfl) rfl ?_) | refine zL ?_ | refine zA ?_ | refine zQ [] ?_ | (refine isA ?_; refine zf rfl ?_) | (refine isL ?_; refine zV rfl (by kernel_rfl) rfl rfl ?_) | (refine zc rfl ?_; refine zU rfl (by kernel_rfl) rfl rfl ?_) | (refine yB (x := .tmp 21) ?_; refine za rfl (zz (t := rnT) (z := z) rfl rfl rfl rfl (Int.natCast_nonneg k) hz) rfl ?_) | (refine yA (x := .tmp 21) rfl ?_; refine zT rfl (by kernel_rfl) rfl (zz (t := rnT) (z := z) rfl rfl rfl rfl (Int.natCast_nonneg k) hz) rfl ?_) | (refine yB (x := .tmp 25) ?_; refine za rfl (zz (t := rwT) (z := x) rfl rfl rfl rfl (Int.natCast_nonneg p) hx) rfl ?_) | (refine yA (x := .tmp 25) rfl ?_; refine zT rfl (by kernel_rfl) rfl (zz (t := rwT) (z := x) rfl rfl rfl rfl (Int.natCast_nonneg p) hx) rfl ?_) | exact eD rfl (.same rfl) | refine zD ?_ | refine zB _ rfl (by kernel_rfl) ?_ | refine zW rfl ?_ | refine zX rfl ?_ | refine zC ?_ | with_reducible refine zO ?_ | refine zI ?_ | refine zJ ?_ | (with_reducible first | refine zM ?_ | refine zN ?_ | refine zF ?_ | refine zH ?_ | refine zG ?_) | refine zP ?_
    · have e : wX rs k p = [] := by unfold wX; rw [List.getD_eq_getElem?_getD, hz, Option.getD_some, List.getElem?_eq_none h3]; rfl
      rw [e]
      refine zw [6] Go.Proofs.Try.func71 rfl rfl ?_
      simp only [Go.Proofs.Try.ntmps71, List.length_cons, List.length_nil, Nat.reduceAdd, Nat.reduceSub, List.replicate_succ, List.replicate_zero, List.cons_append, List.nil_append]
      repeat' first | refine zL ?_ | refine zA ?_ | refine zQ [] ?_ | (refine isA ?_; refine zf rfl ?_) | (refine isL ?_; refine zV rfl (by kernel_rfl) rfl rfl ?_) | (refine zc rfl ?_; refine zU rfl (by kernel_rfl) rfl rfl ?_) | refine zD ?_ | refine zB _ rfl (by kernel_rfl) ?_ | refine zW rfl ?_ | refine zX rfl ?_ | refine zC ?_ | with_reducible refine zO ?_ | refine zI ?_ | refine zJ ?_ | (with_reducible first | refine zM ?_ | refine zN ?_ | refine zF ?_ | refine zH ?_ | refine zG ?_) | refine zP ?_
      refine yb rfl rfl (fun h => ?_) (fun h => absurd (of_decide_eq_false h) (by omega))
      repeat' first | refine zL ?_ | refine zA ?_ | refine zQ [] ?_ | (refine isA ?_; refine zf rfl ?_) | (refine isL ?_; refine zV rfl (by kernel_rfl) rfl rfl ?_) | (refine zc rfl ?_; refine zU rfl (by kernel_rfl) rfl rfl ?_) | (refine yB (x := .tmp 13) ?_; refine za rfl (zz (t := rnT) (z := z) rfl rfl rfl rfl (Int.natCast_nonneg k) hz) rfl ?_) | (refine yA (x := .tmp 13) rfl ?_; refine zT rfl (by kernel_rfl) rfl (zz (t := rnT) (z := z) rfl rfl rfl rfl (Int.natCast_nonneg k) hz) rfl ?_) | refine zD ?_ | refine zB _ rfl (by kernel_rfl) ?_ | refine zW rfl ?_ | refine zX rfl ?_ | refine zC ?_ | with_reducible refine zO ?_ | refine zI ?_ | refine zJ ?_ | (with_reducible first | refine zM ?_ | refine zN ?_ | refine zF ?_ | refine zH ?_ | refine zG ?_) | refine zP ?_
      refine zh rfl (fun h => absurd (of_decide_eq_true h) (by omega)) (fun h => ?_)
      repeat' first | (refine isA ?_; refine za rfl (yh rfl rfl rfl rfl rfl) rfl ?_) | refine zL ?_ | refine zA ?_ | refine zQ [] ?_ | (refine isA ?_; refine zf rfl ?_) | (refine isL ?_; refine zV rfl (by kernel_rfl) rfl rfl ?_) | (refine zc rfl ?_; refine zU rfl (by kernel_rfl) rfl rfl ?_) | exact eD rfl (.same rfl) | refine zD ?_ | refine zB _ rfl (by kernel_rfl) ?_ | refine zW rfl ?_ | refine zX rfl ?_ | refine zC ?_ | with_reducible refine zO ?_ | refine zI ?_ | refine zJ ?_ | (with_reducible first | refine zM ?_ | refine zN ?_ | refine zF ?_ | refine zH ?_ | refine zG ?_) | refine zP ?_
  · have e : wX rs k p = [] := by unfold wX; rw [List.getD_eq_getElem?_getD, List.getElem?_eq_none h1]; rfl
    rw [e]
    refine zw [6] Go.Proofs.Try.func71 rfl rfl ?_
    simp only [Go.Proofs.Try.ntmps71, List.length_cons, List.length_nil, Nat.reduceAdd, Nat.reduceSub, List.replicate_succ, List.replicate_zero, List.cons_append, List.nil_append]
    repeat' first | refine zL ?_ | refine zA ?_ | refine zQ [] ?_ | (refine isA ?_; refine zf rfl ?_) | (refine isL ?_; refine zV rfl (by kernel_rfl) rfl rfl ?_) | (refine zc rfl ?_; refine zU rfl (by kernel_rfl) rfl rfl ?_) | refine zD ?_ | refine zB _ rfl (by kernel_rfl) ?_ | refine zW rfl ?_ | refine zX rfl ?_ | refine zC ?_ | with_reducible refine zO ?_ | refine zI ?_ | refine zJ ?_ | (with_reducible first | refine zM ?_ | refine zN ?_ | refine zF ?_ | refine zH ?_ | refine zG ?_) | refine zP ?_
    refine yb rfl rfl (fun h => absurd (of_decide_eq_true h) (by omega)) (fun h => ?_)
    repeat' first | (refine isA ?_; refine za rfl (yh rfl rfl rfl rfl rfl) rfl ?_) | refine zL ?_ | refine zA ?_ | refine zQ [] ?_ | (refine isA ?_; refine zf rfl ?_) | (refine isL ?_; refine zV rfl (by kernel_rfl) rfl rfl ?_) | (refine zc rfl ?_; refine zU rfl (by kernel_rfl) rfl rfl ?_) | exact eD rfl (.same rfl) | refine zD ?_ | refine zB _ rfl (by kernel_rfl) ?_ | refine zW rfl ?_ | refine zX rfl ?_ | refine zC ?_ | with_reducible refine zO ?_ | refine zI ?_ | refine zJ ?_ | (with_reducible first | refine zM ?_ | refine zN ?_ | refine zF ?_ | refine zH ?_ | refine zG ?_) | refine zP ?_
theorem dO {s : So} (h : s.ph = 2) : yj s = cond (decide (s.lp < 0) || decide (s.rp < 0)) 0 (rcV s.runs 0 s.lp + rcV s.runs 1 s.rp) := by
  unfold yj; rw [decide_eq_false (by rw [h]; decide), cond_false, decide_eq_true h, cond_true]
theorem dN {s : So} (h : s.ph = 3) : yj s = rcV s.runs 0 s.lp := by
  unfold yj; rw [decide_eq_false (by rw [h]; decide), cond_false, decide_eq_false (by rw [h]; decide), cond_false, decide_eq_true h, cond_true]
theorem dP {s : So} (h1 : s.ph ≠ 1) (h2 : s.ph ≠ 2) (h3 : s.ph ≠ 3) : yj s = 0 := by
  unfold yj; rw [decide_eq_false h1, cond_false, decide_eq_false h2, cond_false, decide_eq_false h3, cond_false]
theorem uw {a b : Int} (h : 0 ≤ a ∧ a ≤ 4000000000) (k : 0 ≤ b ∧ b ≤ 4000000000) : IntKind.i64.wrap (a + b) = a + b := by rw [IntKind.wrap_i64]; omega
theorem s8 (s : So) (hok : okSo s) : zy Go.Proofs.Try.prog 19 [.agg (soE s)] [] (I (yj s)) [] false := by
  have g2 := hok.heap
  have g3 := hok.dfr
  have t2 := ua s.heap
  have t3 := ua s.dfr
  have r0 := l6 s.runs 0 s.lp
  have r1 := l6 s.runs 1 s.rp
  have c0 := qd s 0 s.lp hok.rn (by omega)
  have c1 := qd s 1 s.rp hok.rn (by omega)
  refine zw [2] Go.Proofs.Try.func19 rfl rfl ?_
  simp only [Go.Proofs.Try.ntmps19, List.length_cons, List.length_nil, Nat.reduceAdd, Nat.reduceSub, List.replicate_succ, List.replicate_zero, List.cons_append, List.nil_append]
  repeat' first | refine zL ?_ | refine zA ?_ | refine zQ [] ?_ | (refine isA ?_; refine zf rfl ?_) | (refine isL ?_; refine zV rfl (by kernel_rfl) rfl rfl ?_) | (refine zc rfl ?_; refine zU rfl (by kernel_rfl) rfl rfl ?_) | refine zD ?_ | refine zB _ rfl (by kernel_rfl) ?_ | refine zW rfl ?_ | refine zX rfl ?_ | refine zC ?_ | with_reducible refine zO ?_ | refine zI ?_ | refine zJ ?_ | (with_reducible first | refine zM ?_ | refine zN ?_ | refine zF ?_ | refine zH ?_ | refine zG ?_) | refine zP ?_
  refine zh rfl (fun h => ?_) (fun h => ?_)
  · have e := vL (of_decide_eq_true h)
    repeat' first | refine zL ?_ | refine zA ?_ | refine zQ [] ?_ | (refine isA ?_; refine zf rfl ?_) | (refine isL ?_; refine zV rfl (by kernel_rfl) rfl rfl ?_) | (refine zc rfl ?_; refine zU rfl (by kernel_rfl) rfl rfl ?_) | (refine zr 88 (x := #[.tmp 8]) ?_; refine za rfl (zK rfl (pU s.heap (by omega)) (.cons (.same rfl) .nil) rfl) rfl ?_) | (refine zq 88 (x := #[.tmp 8]) rfl ?_; refine zT rfl (by kernel_rfl) rfl (zK rfl (pU s.heap (by omega)) (.cons (.same rfl) .nil) rfl) rfl ?_) | (refine zr 88 (x := #[.tmp 11]) ?_; refine za rfl (zK rfl (pU s.dfr (by omega)) (.cons (.same rfl) .nil) rfl) rfl ?_) | (refine zq 88 (x := #[.tmp 11]) rfl ?_; refine zT rfl (by kernel_rfl) rfl (zK rfl (pU s.dfr (by omega)) (.cons (.same rfl) .nil) rfl) rfl ?_) | exact yJ rfl rfl (by rw [e, uw (by omega) (by omega)]) | refine zD ?_ | refine zB _ rfl (by kernel_rfl) ?_ | refine zW rfl ?_ | refine zX rfl ?_ | refine zC ?_ | with_reducible refine zO ?_ | refine zI ?_ | refine zJ ?_ | (with_reducible first | refine zM ?_ | refine zN ?_ | refine zF ?_ | refine zH ?_ | refine zG ?_) | refine zP ?_
  have h1 := of_decide_eq_false h
  repeat' first | refine zL ?_ | refine zA ?_ | refine zQ [] ?_ | (refine isA ?_; refine zf rfl ?_) | (refine isL ?_; refine zV rfl (by kernel_rfl) rfl rfl ?_) | (refine zc rfl ?_; refine zU rfl (by kernel_rfl) rfl rfl ?_) | refine zD ?_ | refine zB _ rfl (by kernel_rfl) ?_ | refine zW rfl ?_ | refine zX rfl ?_ | refine zC ?_ | with_reducible refine zO ?_ | refine zI ?_ | refine zJ ?_ | (with_reducible first | refine zM ?_ | refine zN ?_ | refine zF ?_ | refine zH ?_ | refine zG ?_) | refine zP ?_
  refine zh rfl (fun h => ?_) (fun h => ?_)
  · have e := dO (of_decide_eq_true h)
    repeat' first | refine zL ?_ | refine zA ?_ | refine zQ [] ?_ | (refine isA ?_; refine zf rfl ?_) | (refine isL ?_; refine zV rfl (by kernel_rfl) rfl rfl ?_) | (refine zc rfl ?_; refine zU rfl (by kernel_rfl) rfl rfl ?_) | (refine zr 89 ?_; refine za rfl (zK rfl c0 (.cons (.same rfl) (.cons (.same rfl) (.cons (.same rfl) .nil))) rfl) rfl ?_) | (refine zq 89 rfl ?_; refine zT rfl (by kernel_rfl) rfl (zK rfl c0 (.cons (.same rfl) (.cons (.same rfl) (.cons (.same rfl) .nil))) rfl) rfl ?_) | (refine zr 89 ?_; refine za rfl (zK rfl c1 (.cons (.same rfl) (.cons (.same rfl) (.cons (.same rfl) .nil))) rfl) rfl ?_) | (refine zq 89 rfl ?_; refine zT rfl (by kernel_rfl) rfl (zK rfl c1 (.cons (.same rfl) (.cons (.same rfl) (.cons (.same rfl) .nil))) rfl) rfl ?_) | refine zD ?_ | refine zB _ rfl (by kernel_rfl) ?_ | refine zW rfl ?_ | refine zX rfl ?_ | refine zC ?_ | with_reducible refine zO ?_ | refine zI ?_ | refine zJ ?_ | (with_reducible first | refine zM ?_ | refine zN ?_ | refine zF ?_ | refine zH ?_ | refine zG ?_) | refine zP ?_ | refine zh rfl (fun hbr => ?_) (fun hbr => ?_) | (refine wy ?_; refine yb rfl rfl (fun hbr => ?_) (fun hbr => ?_) <;> (fail_if_success (with_reducible (have hx : true = true := hbr))) <;> (fail_if_success (with_reducible (have hx : false = false := hbr)))) | (refine zc rfl ?_; refine yK rfl rfl rfl rfl (fun hbr => ?_) (fun hbr => ?_) <;> (fail_if_success (with_reducible (have hx : true = true := hbr))) <;> (fail_if_success (with_reducible (have hx : false = false := hbr))))
    all_goals exact yJ rfl rfl (by simp_all; try exact uw (by omega) (by omega))
  have h2 := of_decide_eq_false h
  repeat' first | refine zL ?_ | refine zA ?_ | refine zQ [] ?_ | (refine isA ?_; refine zf rfl ?_) | (refine isL ?_; refine zV rfl (by kernel_rfl) rfl rfl ?_) | (refine zc rfl ?_; refine zU rfl (by kernel_rfl) rfl rfl ?_) | refine zD ?_ | refine zB _ rfl (by kernel_rfl) ?_ | refine zW rfl ?_ | refine zX rfl ?_ | refine zC ?_ | with_reducible refine zO ?_ | refine zI ?_ | refine zJ ?_ | (with_reducible first | refine zM ?_ | refine zN ?_ | refine zF ?_ | refine zH ?_ | refine zG ?_) | refine zP ?_
  refine zh rfl (fun h => ?_) (fun h => ?_)
  · have e := dN (of_decide_eq_true h)
    repeat' first | refine zL ?_ | refine zA ?_ | refine zQ [] ?_ | (refine isA ?_; refine zf rfl ?_) | (refine isL ?_; refine zV rfl (by kernel_rfl) rfl rfl ?_) | (refine zc rfl ?_; refine zU rfl (by kernel_rfl) rfl rfl ?_) | (refine zr 89 ?_; refine za rfl (zK rfl c0 (.cons (.same rfl) (.cons (.same rfl) (.cons (.same rfl) .nil))) rfl) rfl ?_) | (refine zq 89 rfl ?_; refine zT rfl (by kernel_rfl) rfl (zK rfl c0 (.cons (.same rfl) (.cons (.same rfl) (.cons (.same rfl) .nil))) rfl) rfl ?_) | exact yJ rfl rfl (by rw [e]) | refine zD ?_ | refine zB _ rfl (by kernel_rfl) ?_ | refine zW rfl ?_ | refine zX rfl ?_ | refine zC ?_ | with_reducible refine zO ?_ | refine zI ?_ | refine zJ ?_ | (with_reducible first | refine zM ?_ | refine zN ?_ | refine zF ?_ | refine zH ?_ | refine zG ?_) | refine zP ?_
  · have e := dP h1 h2 (of_decide_eq_false h)
    repeat' first | refine zL ?_ | refine zA ?_ | refine zQ [] ?_ | (refine isA ?_; refine zf rfl ?_) | (refine isL ?_; refine zV rfl (by kernel_rfl) rfl rfl ?_) | (refine zc rfl ?_; refine zU rfl (by kernel_rfl) rfl rfl ?_) | exact yJ rfl rfl (by rw [e]) | refine zD ?_ | refine zB _ rfl (by kernel_rfl) ?_ | refine zW rfl ?_ | refine zX rfl ?_ | refine zC ?_ | with_reducible refine zO ?_ | refine zI ?_ | refine zJ ?_ | (with_reducible first | refine zM ?_ | refine zN ?_ | refine zF ?_ | refine zH ?_ | refine zG ?_) | refine zP ?_
theorem pS (s : So) (hok : okSo s) : zy Go.Proofs.Try.prog 20 [.agg (soE s)] [] (I (yj s)) [] false := by
  have g2 := hok.heap
  have g3 := hok.dfr
  have t2 := ua s.heap
  have t3 := ua s.dfr
  have r0 := l6 s.runs 0 s.lp
  have r1 := l6 s.runs 1 s.rp
  refine zw [2] Go.Proofs.Try.func20 rfl rfl ?_
  simp only [Go.Proofs.Try.ntmps20, List.length_cons, List.length_nil, Nat.reduceAdd, Nat.reduceSub, List.replicate_succ, List.replicate_zero, List.cons_append, List.nil_append]
  repeat' first | refine zL ?_ | refine zA ?_ | refine zQ [] ?_ | (refine isA ?_; refine zf rfl ?_) | (refine isL ?_; refine zV rfl (by kernel_rfl) rfl rfl ?_) | (refine zc rfl ?_; refine zU rfl (by kernel_rfl) rfl rfl ?_) | refine zD ?_ | refine zB _ rfl (by kernel_rfl) ?_ | refine zW rfl ?_ | refine zX rfl ?_ | refine zC ?_ | with_reducible refine zO ?_ | refine zI ?_ | refine zJ ?_ | (with_reducible first | refine zM ?_ | refine zN ?_ | refine zF ?_ | refine zH ?_ | refine zG ?_) | refine zP ?_
  refine zh rfl (fun h => ?_) (fun h => ?_)
  · have e := vL (of_decide_eq_true h)
    repeat' first | refine zL ?_ | refine zA ?_ | refine zQ [] ?_ | (refine isA ?_; refine zf rfl ?_) | (refine isL ?_; refine zV rfl (by kernel_rfl) rfl rfl ?_) | (refine zc rfl ?_; refine zU rfl (by kernel_rfl) rfl rfl ?_) | (refine zr 90 (x := #[.tmp 8]) ?_; refine za rfl (zK rfl (va s.heap (by omega)) (.cons (.same rfl) .nil) rfl) rfl ?_) | (refine zq 90 (x := #[.tmp 8]) rfl ?_; refine zT rfl (by kernel_rfl) rfl (zK rfl (va s.heap (by omega)) (.cons (.same rfl) .nil) rfl) rfl ?_) | (refine zr 90 (x := #[.tmp 11]) ?_; refine za rfl (zK rfl (va s.dfr (by omega)) (.cons (.same rfl) .nil) rfl) rfl ?_) | (refine zq 90 (x := #[.tmp 11]) rfl ?_; refine zT rfl (by kernel_rfl) rfl (zK rfl (va s.dfr (by omega)) (.cons (.same rfl) .nil) rfl) rfl ?_) | exact yJ rfl rfl (by rw [e, uw (by omega) (by omega)]) | refine zD ?_ | refine zB _ rfl (by kernel_rfl) ?_ | refine zW rfl ?_ | refine zX rfl ?_ | refine zC ?_ | with_reducible refine zO ?_ | refine zI ?_ | refine zJ ?_ | (with_reducible first | refine zM ?_ | refine zN ?_ | refine zF ?_ | refine zH ?_ | refine zG ?_) | refine zP ?_
  have h1 := of_decide_eq_false h
  repeat' first | refine zL ?_ | refine zA ?_ | refine zQ [] ?_ | (refine isA ?_; refine zf rfl ?_) | (refine isL ?_; refine zV rfl (by kernel_rfl) rfl rfl ?_) | (refine zc rfl ?_; refine zU rfl (by kernel_rfl) rfl rfl ?_) | refine zD ?_ | refine zB _ rfl (by kernel_rfl) ?_ | refine zW rfl ?_ | refine zX rfl ?_ | refine zC ?_ | with_reducible refine zO ?_ | refine zI ?_ | refine zJ ?_ | (with_reducible first | refine zM ?_ | refine zN ?_ | refine zF ?_ | refine zH ?_ | refine zG ?_) | refine zP ?_
  refine zh rfl (fun h => ?_) (fun h => ?_)
  · have e := dO (of_decide_eq_true h)
    repeat' first | refine zL ?_ | refine zA ?_ | refine zQ [] ?_ | (refine isA ?_; refine zf rfl ?_) | (refine isL ?_; refine zV rfl (by kernel_rfl) rfl rfl ?_) | (refine zc rfl ?_; refine zU rfl (by kernel_rfl) rfl rfl ?_) | refine zD ?_ | refine zB _ rfl (by kernel_rfl) ?_ | refine zW rfl ?_ | refine zX rfl ?_ | refine zC ?_ | with_reducible refine zO ?_ | refine zI ?_ | refine zJ ?_ | (with_reducible first | refine zM ?_ | refine zN ?_ | refine zF ?_ | refine zH ?_ | refine zG ?_) | refine zP ?_
    refine yb rfl rfl (fun p => ?_) (fun p => ?_)
    · repeat' first | refine zL ?_ | refine zA ?_ | refine zQ [] ?_ | (refine isA ?_; refine zf rfl ?_) | (refine isL ?_; refine zV rfl (by kernel_rfl) rfl rfl ?_) | (refine zc rfl ?_; refine zU rfl (by kernel_rfl) rfl rfl ?_) | exact yJ rfl rfl (by rw [e, p]; rfl) | refine zD ?_ | refine zB _ rfl (by kernel_rfl) ?_ | refine zW rfl ?_ | refine zX rfl ?_ | refine zC ?_ | with_reducible refine zO ?_ | refine zI ?_ | refine zJ ?_ | (with_reducible first | refine zM ?_ | refine zN ?_ | refine zF ?_ | refine zH ?_ | refine zG ?_) | refine zP ?_
    · repeat' first | refine zL ?_ | refine zA ?_ | refine zQ [] ?_ | (refine isA ?_; refine zf rfl ?_) | (refine isL ?_; refine zV rfl (by kernel_rfl) rfl rfl ?_) | (refine zc rfl ?_; refine zU rfl (by kernel_rfl) rfl rfl ?_) | refine zD ?_ | refine zB _ rfl (by kernel_rfl) ?_ | refine zW rfl ?_ | refine zX rfl ?_ | refine zC ?_ | with_reducible refine zO ?_ | refine zI ?_ | refine zJ ?_ | (with_reducible first | refine zM ?_ | refine zN ?_ | refine zF ?_ | refine zH ?_ | refine zG ?_) | refine zP ?_
      refine zh rfl (fun q => ?_) (fun q => ?_)
      · repeat' first | refine zL ?_ | refine zA ?_ | refine zQ [] ?_ | (refine isA ?_; refine zf rfl ?_) | (refine isL ?_; refine zV rfl (by kernel_rfl) rfl rfl ?_) | (refine zc rfl ?_; refine zU rfl (by kernel_rfl) rfl rfl ?_) | exact yJ rfl rfl (by rw [e, p, q]; rfl) | refine zD ?_ | refine zB _ rfl (by kernel_rfl) ?_ | refine zW rfl ?_ | refine zX rfl ?_ | refine zC ?_ | with_reducible refine zO ?_ | refine zI ?_ | refine zJ ?_ | (with_reducible first | refine zM ?_ | refine zN ?_ | refine zF ?_ | refine zH ?_ | refine zG ?_) | refine zP ?_
      · obtain ⟨i, hi⟩ := Int.eq_ofNat_of_zero_le (show 0 ≤ s.lp from Int.not_lt.1 (of_decide_eq_false p))
        obtain ⟨j, hj⟩ := Int.eq_ofNat_of_zero_le (show 0 ≤ s.rp from Int.not_lt.1 (of_decide_eq_false q))
        have e' : yj s = yR (wX s.runs 0 i) + yR (wX s.runs 1 j) := by rw [e, p, q, hi, hj]; rw [← n8, ← n8]; try rfl
        have c0 := wT s.runs 0 i hok.rn (by omega)
        have c1 := wT s.runs 1 j hok.rn (by omega)
        rw [← hi] at c0
        rw [← hj] at c1
        have b0 := qy s.runs 0 i
        have b1 := qy s.runs 1 j
        have u0 := ua (wX s.runs 0 i)
        have u1 := ua (wX s.runs 1 j)
        generalize wX s.runs 0 i = x0 at *
        generalize wX s.runs 1 j = x1 at *
        repeat' first | refine zL ?_ | refine zA ?_ | refine zQ [] ?_ | (refine isA ?_; refine zf rfl ?_) | (refine isL ?_; refine zV rfl (by kernel_rfl) rfl rfl ?_) | (refine zc rfl ?_; refine zU rfl (by kernel_rfl) rfl rfl ?_) | (refine zr 71 ?_; refine za rfl (zK rfl c0 (.cons (.same rfl) (.cons (.same rfl) (.cons (.same rfl) .nil))) rfl) rfl ?_) | (refine zq 71 rfl ?_; refine zT rfl (by kernel_rfl) rfl (zK rfl c0 (.cons (.same rfl) (.cons (.same rfl) (.cons (.same rfl) .nil))) rfl) rfl ?_) | (refine zr 71 ?_; refine za rfl (zK rfl c1 (.cons (.same rfl) (.cons (.same rfl) (.cons (.same rfl) .nil))) rfl) rfl ?_) | (refine zq 71 rfl ?_; refine zT rfl (by kernel_rfl) rfl (zK rfl c1 (.cons (.same rfl) (.cons (.same rfl) (.cons (.same rfl) .nil))) rfl) rfl ?_) | (refine zr 90 (x := #[.tmp 28]) ?_; refine za rfl (zK rfl (va x0 (by omega)) (.cons (.same rfl) .nil) rfl) rfl ?_) | (refine zq 90 (x := #[.tmp 28]) rfl ?_; refine zT rfl (by kernel_rfl) rfl (zK rfl (va x0 (by omega)) (.cons (.same rfl) .nil) rfl) rfl ?_) | (refine zr 90 (x := #[.tmp 34]) ?_; refine za rfl (zK rfl (va x1 (by omega)) (.cons (.same rfl) .nil) rfl) rfl ?_) | (refine zq 90 (x := #[.tmp 34]) rfl ?_; refine zT rfl (by kernel_rfl) rfl (zK rfl (va x1 (by omega)) (.cons (.same rfl) .nil) rfl) rfl ?_) | exact yJ rfl rfl (by rw [e', uw (by omega) (by omega)]) | refine zD ?_ | refine zB _ rfl (by kernel_rfl) ?_ | refine zW rfl ?_ | refine zX rfl ?_ | refine zC ?_ | with_reducible refine zO ?_ | refine zI ?_ | refine zJ ?_ | (with_reducible first | refine zM ?_ | refine zN ?_ | refine zF ?_ | refine zH ?_ | refine zG ?_) | refine zP ?_
  have h2 := of_decide_eq_false h
  repeat' first | refine zL ?_ | refine zA ?_ | refine zQ [] ?_ | (refine isA ?_; refine zf rfl ?_) | (refine isL ?_; refine zV rfl (by kernel_rfl) rfl rfl ?_) | (refine zc rfl ?_; refine zU rfl (by kernel_rfl) rfl rfl ?_) | refine zD ?_ | refine zB _ rfl (by kernel_rfl) ?_ | refine zW rfl ?_ | refine zX rfl ?_ | refine zC ?_ | with_reducible refine zO ?_ | refine zI ?_ | refine zJ ?_ | (with_reducible first | refine zM ?_ | refine zN ?_ | refine zF ?_ | refine zH ?_ | refine zG ?_) | refine zP ?_
  refine zh rfl (fun h => ?_) (fun h => ?_)
  · have e := dN (of_decide_eq_true h)
    repeat' first | refine zL ?_ | refine zA ?_ | refine zQ [] ?_ | (refine isA ?_; refine zf rfl ?_) | (refine isL ?_; refine zV rfl (by kernel_rfl) rfl rfl ?_) | (refine zc rfl ?_; refine zU rfl (by kernel_rfl) rfl rfl ?_) | refine zD ?_ | refine zB _ rfl (by kernel_rfl) ?_ | refine zW rfl ?_ | refine zX rfl ?_ | refine zC ?_ | with_reducible refine zO ?_ | refine zI ?_ | refine zJ ?_ | (with_reducible first | refine zM ?_ | refine zN ?_ | refine zF ?_ | refine zH ?_ | refine zG ?_) | refine zP ?_
    refine zh rfl (fun q => ?_) (fun q => ?_)
    · have e' := jI (rs := s.runs) (k := 0) (of_decide_eq_true q)
      repeat' first | refine zL ?_ | refine zA ?_ | refine zQ [] ?_ | (refine isA ?_; refine zf rfl ?_) | (refine isL ?_; refine zV rfl (by kernel_rfl) rfl rfl ?_) | (refine zc rfl ?_; refine zU rfl (by kernel_rfl) rfl rfl ?_) | exact yJ rfl rfl (by rw [e, e']) | refine zD ?_ | refine zB _ rfl (by kernel_rfl) ?_ | refine zW rfl ?_ | refine zX rfl ?_ | refine zC ?_ | with_reducible refine zO ?_ | refine zI ?_ | refine zJ ?_ | (with_reducible first | refine zM ?_ | refine zN ?_ | refine zF ?_ | refine zH ?_ | refine zG ?_) | refine zP ?_
    · obtain ⟨i, hi⟩ := Int.eq_ofNat_of_zero_le (show 0 ≤ s.lp from Int.not_lt.1 (of_decide_eq_false q))
      have e' : yj s = yR (wX s.runs 0 i) := by rw [e, hi]; rw [← n8]; try rfl
      have c0 := wT s.runs 0 i hok.rn (by omega)
      rw [← hi] at c0
      have b0 := qy s.runs 0 i
      generalize wX s.runs 0 i = x0 at *
      repeat' first | refine zL ?_ | refine zA ?_ | refine zQ [] ?_ | (refine isA ?_; refine zf rfl ?_) | (refine isL ?_; refine zV rfl (by kernel_rfl) rfl rfl ?_) | (refine zc rfl ?_; refine zU rfl (by kernel_rfl) rfl rfl ?_) | (refine zr 71 ?_; refine za rfl (zK rfl c0 (.cons (.same rfl) (.cons (.same rfl) (.cons (.same rfl) .nil))) rfl) rfl ?_) | (refine zq 71 rfl ?_; refine zT rfl (by kernel_rfl) rfl (zK rfl c0 (.cons (.same rfl) (.cons (.same rfl) (.cons (.same rfl) .nil))) rfl) rfl ?_) | (refine zr 90 ?_; refine za rfl (zK rfl (va x0 (by omega)) (.cons (.same rfl) .nil) rfl) rfl ?_) | (refine zq 90 rfl ?_; refine zT rfl (by kernel_rfl) rfl (zK rfl (va x0 (by omega)) (.cons (.same rfl) .nil) rfl) rfl ?_) | exact yJ rfl rfl (by rw [e']) | refine zD ?_ | refine zB _ rfl (by kernel_rfl) ?_ | refine zW rfl ?_ | refine zX rfl ?_ | refine zC ?_ | with_reducible refine zO ?_ | refine zI ?_ | refine zJ ?_ | (with_reducible first | refine zM ?_ | refine zN ?_ | refine zF ?_ | refine zH ?_ | refine zG ?_) | refine zP ?_
  · have e := dP h1 h2 (of_decide_eq_false h)
    repeat' first | refine zL ?_ | refine zA ?_ | refine zQ [] ?_ | (refine isA ?_; refine zf rfl ?_) | (refine isL ?_; refine zV rfl (by kernel_rfl) rfl rfl ?_) | (refine zc rfl ?_; refine zU rfl (by kernel_rfl) rfl rfl ?_) | exact yJ rfl rfl (by rw [e]) | refine zD ?_ | refine zB _ rfl (by kernel_rfl) ?_ | refine zW rfl ?_ | refine zX rfl ?_ | refine zC ?_ | with_reducible refine zO ?_ | refine zI ?_ | refine zJ ?_ | (with_reducible first | refine zM ?_ | refine zN ?_ | refine zF ?_ | refine zH ?_ | refine zG ?_) | refine zP ?_
theorem mN (rs : List Rn) (hok : t5 rs) (ht : tot rs ≤ 100000000) : zy Go.Proofs.Try.prog 80 [rnL rs] [] (.sl 0 0 rs.flatten.length) [rwR rs.flatten] false := by
  have hl := hok.1
  refine zw [2] Go.Proofs.Try.func80 rfl rfl ?_
  simp only [Go.Proofs.Try.ntmps80, List.length_cons, List.length_nil, Nat.reduceAdd, Nat.reduceSub, List.replicate_succ, List.replicate_zero, List.cons_append, List.nil_append]
  repeat' first | refine zL ?_ | refine zA ?_ | refine zQ [] ?_ | (refine isA ?_; refine zf rfl ?_) | (refine isL ?_; refine zV rfl (by kernel_rfl) rfl rfl ?_) | (refine zc rfl ?_; refine zU rfl (by kernel_rfl) rfl rfl ?_) | refine zD ?_ | refine zB _ rfl (by kernel_rfl) ?_ | refine zW rfl ?_ | refine zX rfl ?_ | refine zC ?_ | with_reducible refine zO ?_ | refine zI ?_ | refine zJ ?_ | (with_reducible first | refine zM ?_ | refine zN ?_ | refine zF ?_ | refine zH ?_ | refine zG ?_) | refine zP ?_
  refine z9 (α := { i : Nat // i ≤ rs.length }) (fun i => ⟨[.any, .any, .any, .sl 0 0 (rs.take i.1).flatten.length, .any, .any, .any, rnL rs, I rs.length, I i.1, .any, .any, .any, .any, .any, .any, .any, .any], [rwR (rs.take i.1).flatten], 0⟩) (fun i => rs.length - i.1) ⟨0, Nat.zero_le _⟩ ?_ ?_
  · exact xl rfl (by repeat' first | exact EqS.nil | refine EqS.any ?_ | refine EqS.same rfl ?_)
  · rintro ⟨i, hi⟩
    repeat' first | refine zL ?_ | refine zA ?_ | refine zQ [] ?_ | (refine isA ?_; refine zf rfl ?_) | (refine isL ?_; refine zV rfl (by kernel_rfl) rfl rfl ?_) | (refine zc rfl ?_; refine zU rfl (by kernel_rfl) rfl rfl ?_) | refine zD ?_ | refine zB _ rfl (by kernel_rfl) ?_ | refine zW rfl ?_ | refine zX rfl ?_ | refine zC ?_ | with_reducible refine zO ?_ | refine zI ?_ | refine zJ ?_ | (with_reducible first | refine zM ?_ | refine zN ?_ | refine zF ?_ | refine zH ?_ | refine zG ?_) | refine zP ?_
    refine zh rfl (fun h => ?_) (fun h => ?_)
    · have hlt : i < rs.length := by simpa using h
      obtain ⟨z, hz⟩ : ∃ z, rs[i]? = some z := ⟨_, List.getElem?_eq_getElem hlt⟩
      have h1 := nr rs (i + 1)
      rw [sN hz] at h1
      have h2 := vf (rs.take i)
      repeat' first | refine zL ?_ | refine zA ?_ | refine zQ [] ?_ | (refine isA ?_; refine zf rfl ?_) | (refine isL ?_; refine zV rfl (by kernel_rfl) rfl rfl ?_) | (refine zc rfl ?_; refine zU rfl (by kernel_rfl) rfl rfl ?_) | (refine yB ?_; refine za rfl (zz (t := rnT) (z := z) rfl rfl rfl rfl (Int.natCast_nonneg i) hz) rfl ?_) | (refine yA rfl ?_; refine zT rfl (by kernel_rfl) rfl (zz (t := rnT) (z := z) rfl rfl rfl rfl (Int.natCast_nonneg i) hz) rfl ?_) | (refine xd ?_; refine za rfl (yX (t := rwT) (xs := (rs.take i).flatten) (ys := z) rfl rfl rfl rfl (.lst _ _) (by omega) rfl) rfl ?_) | (refine xH rfl ?_; refine zT rfl (by kernel_rfl) rfl (yX (t := rwT) (xs := (rs.take i).flatten) (ys := z) rfl rfl rfl rfl (.lst _ _) (by omega) rfl) rfl ?_) | refine zD ?_ | refine zB _ rfl (by kernel_rfl) ?_ | refine zW rfl ?_ | refine zX rfl ?_ | refine zC ?_ | with_reducible refine zO ?_ | refine zI ?_ | refine zJ ?_ | (with_reducible first | refine zM ?_ | refine zN ?_ | refine zF ?_ | refine zH ?_ | refine zG ?_) | refine zP ?_
      refine ⟨⟨i + 1, hlt⟩, by simp only; omega, ?_⟩
      exact yW [1] rfl rfl (by decide) (.cons rfl rfl rfl rfl (yd (by rw [vI hz]) (zE _ _)) .nil) (by
        repeat' first | exact zj | refine zZ ?_ ?_ | exact zp | exact le_refl rfl | exact zm rfl rfl | exact zm rfl (by rw [vI hz, List.length_append]) | exact xL (by assumption) (by omega))
    · have hge : i = rs.length := by
        have : ¬ ((i : Int) < rs.length) := by simpa using h
        omega
      subst hge
      repeat' first | refine zL ?_ | refine zA ?_ | refine zQ [] ?_ | (refine isA ?_; refine zf rfl ?_) | (refine isL ?_; refine zV rfl (by kernel_rfl) rfl rfl ?_) | (refine zc rfl ?_; refine zU rfl (by kernel_rfl) rfl rfl ?_) | exact kI (ty := rwT) rfl rfl rfl rfl (by simp) (by simp) (xu _) | refine zD ?_ | refine zB _ rfl (by kernel_rfl) ?_ | refine zW rfl ?_ | refine zX rfl ?_ | refine zC ?_ | with_reducible refine zO ?_ | refine zI ?_ | refine zJ ?_ | (with_reducible first | refine zM ?_ | refine zN ?_ | refine zF ?_ | refine zH ?_ | refine zG ?_) | refine zP ?_
end Go.Proofs.Ytojcojanokhnaaa.Ab
namespace Go.Proofs.Ytojcojanokhnaaa.Ab
open Go.RowKit
theorem ql (s : So) : v4 s = (avR s.input && (inV s.pos 0 s.input.length && (avS s.runs && (!decide (s.wr < 0) && (v2 s.out && s.heap.all fun r => !bel r s.out))))) := by
  unfold v4
  congr 4
  rw [Bool.eq_iff_iff]
  simp
theorem mT {s : So} (h : v4 s = false) : vS s = false := by unfold vS; rw [h, Bool.false_and]
theorem ez {s : So} (h : v4 s = true) (k : decide (s.ph = 1) = true) : vS s = sM s := by unfold vS; rw [h, Bool.true_and, k, cond_true]
theorem ey {s : So} (h : v4 s = true) (k : decide (s.ph = 1) = false) : vS s = (vc s && cond (decide (s.ph = 2)) (vV s) (cond (decide (s.ph = 3)) (uY s) (cond (decide (s.ph = 4)) (uZ s) false))) := by unfold vS; rw [h, Bool.true_and, k, cond_false]
theorem lC {s : So} {i : Nat} {z : Rw} (hz : s.heap[i]? = some z) (h : bel z s.out = true) : v4 s = false := by
  have e : (s.heap.all fun r => !bel r s.out) = false := by
    rw [List.all_eq_false]
    exact ⟨z, List.mem_of_getElem? hz, by simp [h]⟩
  rw [ql, e]
  simp
theorem nQ {s : So} (hb : (avR s.input && (inV s.pos 0 s.input.length && (avS s.runs && (!decide (s.wr < 0) && v2 s.out)))) = true) (h : ∀ j z, j < s.heap.length → s.heap[j]? = some z → bel z s.out = false) : v4 s = true := by
  have e : (s.heap.all fun r => !bel r s.out) = true := List.all_eq_true.2 fun z hz => by
    obtain ⟨j, hj⟩ := List.getElem?_of_mem hz
    simp [h j z (List.getElem?_eq_some_iff.1 hj).1 hj]
  rw [ql, e]
  simp only [Bool.and_eq_true] at hb ⊢
  obtain ⟨a, b, c, d, e⟩ := hb
  exact ⟨a, b, c, d, e, trivial⟩
theorem tZ {xs out : List Rw} {i : Nat} {z : Rw} (hb : ∀ j z, j < i → xs[j]? = some z → bel z out = false) (hz : xs[i]? = some z) (h : bel z out = false) : ∀ j z, j < i + 1 → xs[j]? = some z → bel z out = false := fun j y hj hy => by
  rcases Nat.lt_or_ge j i with hlt | hge
  · exact hb j y hlt hy
  · obtain rfl : j = i := by omega
    rw [hz] at hy
    cases hy
    exact h
theorem mV (s : So) : sM s = (decide (s.lp = 0) && (decide (s.rp = 0) && ((decide ((0 : Int) < (s.out.length : Int)) || decide ((s.dfr.length : Int) = 0)) && (decide (yj s ≤ 60) && eqB (s.runs.flatten ++ s.out ++ s.heap ++ s.dfr) (s.input.take s.pos.toNat))))) := by
  unfold sM
  rw [show decide (0 < s.out.length) = decide ((0 : Int) < (s.out.length : Int)) from decide_eq_decide.2 (by omega), show decide (s.dfr.length = 0) = decide ((s.dfr.length : Int) = 0) from decide_eq_decide.2 (by omega)]
theorem fV (s : So) : vc s = (decide (s.pos = s.input.length) && (decide ((s.heap.length : Int) = 0) && (decide ((s.dfr.length : Int) = 0) && eqB s.runs.flatten s.input))) := by
  unfold vc
  rw [show decide (s.heap.length = 0) = decide ((s.heap.length : Int) = 0) from decide_eq_decide.2 (by omega), show decide (s.dfr.length = 0) = decide ((s.dfr.length : Int) = 0) from decide_eq_decide.2 (by omega)]
theorem mW (s : So) : v4 s = (!(!avR s.input || (!inV s.pos 0 s.input.length || (!avS s.runs || (decide (s.wr < 0) || !v2 s.out)))) && s.heap.all fun r => !bel r s.out) := by
  rw [ql]
  cases avR s.input <;> cases inV s.pos 0 s.input.length <;> cases avS s.runs <;> cases decide (s.wr < 0) <;> cases v2 s.out <;> rfl
theorem mU (s : So) : vc s = !(!decide (s.pos = s.input.length) || (decide ((0 : Int) < (s.heap.length : Int)) || (decide ((0 : Int) < (s.dfr.length : Int)) || !eqB s.runs.flatten s.input))) := by
  rw [fV, show decide ((s.heap.length : Int) = 0) = !decide ((0 : Int) < (s.heap.length : Int)) from by rw [← decide_not]; exact decide_eq_decide.2 (by omega), show decide ((s.dfr.length : Int) = 0) = !decide ((0 : Int) < (s.dfr.length : Int)) from by rw [← decide_not]; exact decide_eq_decide.2 (by omega)]
  cases decide (s.pos = s.input.length) <;> cases decide ((0 : Int) < (s.heap.length : Int)) <;> cases decide ((0 : Int) < (s.dfr.length : Int)) <;> cases eqB s.runs.flatten s.input <;> rfl
theorem fY (s : So) (h : s.input.length ≤ 1000000000) : uY s = (decide ((s.runs.length : Int) = 1) && (inV s.lp 0 (IntKind.i64.wrap ((s.input.length : Int) - 1)) && (decide (s.rp = 0) && decide ((s.out.length : Int) = 0)))) := by
  unfold uY
  rw [show IntKind.i64.wrap ((s.input.length : Int) - 1) = (s.input.length : Int) - 1 by rw [IntKind.wrap_i64]; omega, show decide (s.runs.length = 1) = decide ((s.runs.length : Int) = 1) from decide_eq_decide.2 (by omega), show decide (s.out.length = 0) = decide ((s.out.length : Int) = 0) from decide_eq_decide.2 (by omega)]
theorem fZ (s : So) : uZ s = (decide ((s.runs.length : Int) ≤ 1) && (decide (s.lp = s.input.length) && (decide (s.rp = 0) && decide ((s.out.length : Int) = 0)))) := by
  unfold uZ
  rw [show decide (s.runs.length ≤ 1) = decide ((s.runs.length : Int) ≤ 1) from decide_eq_decide.2 (by omega), show decide (s.out.length = 0) = decide ((s.out.length : Int) = 0) from decide_eq_decide.2 (by omega)]
theorem pa {s : So} (h : decide ((s.runs.length : Int) < 2) = true) : vV s = false := by
  have := of_decide_eq_true h
  unfold vV
  match hr : s.runs with
  | [] => rfl
  | [x] => rfl
  | x :: y :: rest => rw [hr] at this; simp at this; omega
theorem pc {rs : List Rn} (h : decide ((rs.length : Int) < 2) = false) : ∃ a b rest, rs = a :: b :: rest := by
  have := of_decide_eq_false h
  match rs with
  | [] => simp at this
  | [x] => simp at this
  | x :: y :: rest => exact ⟨x, y, rest, rfl⟩
theorem pb {s : So} {a b : Rn} {rest : List Rn} (hr : s.runs = a :: b :: rest) : vV s = (!(!inV s.lp 0 a.length || !inV s.rp 0 b.length) && (xj s.out (mgV (a.take s.lp.toNat) (b.take s.rp.toNat)) && xj s.out ((mgV a b).take (s.lp.toNat + s.rp.toNat)))) := by
  unfold vV
  rw [hr, Bool.eq_iff_iff]
  simp only [Bool.and_eq_true, Bool.not_eq_true', Bool.or_eq_false_iff, Bool.not_eq_false', and_assoc]
theorem tog4 (s : So) : [s.runs.flatten, s.out, s.heap, s.dfr].flatten = s.runs.flatten ++ s.out ++ s.heap ++ s.dfr := by simp
theorem c_ivS (s : So) (hok : okSo s) : zy Go.Proofs.Try.prog 17 [.agg (soE s)] [] (B (vS s)) [] false := by
  have g1 := hok.input
  have g2 := hok.heap
  have g3 := hok.dfr
  have g4 := hok.out
  have g5 := hok.rn
  have g6 := hok.tot
  have g7 := vf s.runs
  have a1 := th s.input (by omega)
  have a2 := cS s.runs g5
  have a3 := fF s.out (by omega)
  have a4 := s8 s hok
  have a5 := (eS s.runs g5 (by omega)).frozen (zk rfl)
  have a6 := fH s.runs.flatten s.input (by omega) (by omega)
  refine zw [2] Go.Proofs.Try.func17 rfl rfl ?_
  simp only [Go.Proofs.Try.ntmps17, List.length_cons, List.length_nil, Nat.reduceAdd, Nat.reduceSub, List.replicate_succ, List.replicate_zero, List.cons_append, List.nil_append]
  repeat' first | refine zL ?_ | refine zA ?_ | refine zQ [] ?_ | (refine isA ?_; refine zf rfl ?_) | (refine isL ?_; refine zV rfl (by kernel_rfl) rfl rfl ?_) | (refine zc rfl ?_; refine zU rfl (by kernel_rfl) rfl rfl ?_) | (refine zr 74 ?_; refine za rfl (zK rfl a1 (.cons (.same rfl) .nil) rfl) rfl ?_) | (refine zq 74 rfl ?_; refine zT rfl (by kernel_rfl) rfl (zK rfl a1 (.cons (.same rfl) .nil) rfl) rfl ?_) | (refine zr 75 ?_; refine za rfl (zK rfl (x3 _ _ _) (.cons (.same rfl) (.cons (.same rfl) (.cons (.same rfl) .nil))) rfl) rfl ?_) | (refine zq 75 rfl ?_; refine zT rfl (by kernel_rfl) rfl (zK rfl (x3 _ _ _) (.cons (.same rfl) (.cons (.same rfl) (.cons (.same rfl) .nil))) rfl) rfl ?_) | (refine zr 76 ?_; refine za rfl (zK rfl a2 (.cons (.same rfl) .nil) rfl) rfl ?_) | (refine zq 76 rfl ?_; refine zT rfl (by kernel_rfl) rfl (zK rfl a2 (.cons (.same rfl) .nil) rfl) rfl ?_) | (refine zr 77 ?_; refine za rfl (zK rfl a3 (.cons (.same rfl) .nil) rfl) rfl ?_) | (refine zq 77 rfl ?_; refine zT rfl (by kernel_rfl) rfl (zK rfl a3 (.cons (.same rfl) .nil) rfl) rfl ?_) | refine zD ?_ | refine zB _ rfl (by kernel_rfl) ?_ | refine zW rfl ?_ | refine zX rfl ?_ | refine zC ?_ | with_reducible refine zO ?_ | refine zI ?_ | refine zJ ?_ | (with_reducible first | refine zM ?_ | refine zN ?_ | refine zF ?_ | refine zH ?_ | refine zG ?_) | refine zP ?_ | refine zh rfl (fun hbr => ?_) (fun hbr => ?_) | (refine wy ?_; refine yb rfl rfl (fun hbr => ?_) (fun hbr => ?_) <;> (fail_if_success (with_reducible (have hx : true = true := hbr))) <;> (fail_if_success (with_reducible (have hx : false = false := hbr)))) | (refine zc rfl ?_; refine yK rfl rfl rfl rfl (fun hbr => ?_) (fun hbr => ?_) <;> (fail_if_success (with_reducible (have hx : true = true := hbr))) <;> (fail_if_success (with_reducible (have hx : false = false := hbr))))
  all_goals first
    | exact yJ rfl rfl (congrArg B (mT (by rw [mW]; simp only [*, Bool.true_or, Bool.false_or, Bool.or_true, Bool.or_false, Bool.true_and, Bool.false_and, Bool.and_true, Bool.and_false, Bool.not_true, Bool.not_false, cond_true, cond_false])).symm)
    | skip
  have hq : (avR s.input && (inV s.pos 0 s.input.length && (avS s.runs && (!decide (s.wr < 0) && v2 s.out)))) = true := by
    simp only [Bool.not_eq_false'] at *
    simp only [*, Bool.true_and, Bool.not_false]
  refine z9 (α := { i : Nat // i ≤ s.heap.length ∧ ∀ j z, j < i → s.heap[j]? = some z → bel z s.out = false }) (fun i => ⟨(.any :: .any :: .any :: (.ptr 1 0) :: .any :: .any :: .any :: .any :: .any :: .any :: .any :: .any :: .any :: .any :: .any :: .any :: .any :: .any :: .any :: .any :: .any :: .any :: .any :: .any :: .any :: .any :: .any :: .any :: .any :: .any :: .any :: .any :: .any :: .any :: .any :: .any :: .any :: .any :: .any :: .any :: .any :: (rwL s.heap) :: (I s.heap.length) :: (I i.1) :: .any :: .any :: .any :: .any :: .any :: .any :: .any :: .any :: .any :: .any :: .any :: .any :: .any :: .any :: .any :: .any :: .any :: .any :: .any :: .any :: .any :: .any :: .any :: .any :: .any :: .any :: .any :: .any :: .any :: .any :: .any :: .any :: .any :: .any :: .any :: .any :: .any :: .any :: .any :: .any :: .any :: .any :: .any :: .any :: .any :: .any :: .any :: .any :: .any :: .any :: .any :: .any :: .any :: .any :: .any :: .any :: .any :: .any :: .any :: .any :: .any :: .any :: .any :: .any :: .any :: .any :: .any :: .any :: .any :: .any :: .any :: .any :: .any :: .any :: .any :: .any :: .any :: .any :: .any :: .any :: .any :: .any :: .any :: .any :: .any :: .any :: .any :: .any :: .any :: .any :: .any :: .any :: .any :: .any :: .any :: .any :: .any :: .any :: .any :: .any :: .any :: .any :: .any :: .any :: .any :: .any :: .any :: .any :: .any :: .any :: .any :: .any :: .any :: .any :: .any :: .any :: .any :: .any :: .any :: .any :: .any :: .any :: .any :: .any :: .any :: .any :: .any :: .any :: .any :: .any :: .any :: .any :: .any :: .any :: .any :: .any :: .any :: .any :: .any :: .any :: .any :: .any :: .any :: .any :: .any :: .any :: .any :: .any :: .any :: .any :: .any :: .any :: .any :: .any :: .any :: .any :: .any :: .any :: .any :: .any :: .any :: .any :: .any :: .any :: .any :: .any :: .any :: .any :: .any :: .any :: .any :: .any :: .any :: .any :: .any :: .any :: .any :: .any :: .any :: .any :: .any :: .any :: .any :: .any :: .any :: .any :: .any :: .any :: .any :: .any :: []), [⟨27, 10, soE s, 0⟩, ⟨27, 10, soE s, 0⟩], 0⟩) (fun i => s.heap.length - i.1) ⟨0, Nat.zero_le _, fun j z h => absurd h (Nat.not_lt_zero j)⟩ ?_ ?_
  · exact yW [0, 1] rfl rfl (by decide) (by repeat' first | exact HLes.nil | refine HLes.cons rfl rfl rfl rfl ?_ ?_ | exact zj | refine zZ ?_ ?_ | exact zp | exact le_refl rfl | exact zm rfl rfl | exact zu rfl) (by repeat' first | exact zj | refine zZ ?_ ?_ | exact zp | exact le_refl rfl | exact zm rfl rfl | exact zu rfl)
  · rintro ⟨i, hi, hb⟩
    repeat' first | refine zL ?_ | refine zA ?_ | refine zQ [] ?_ | (refine isA ?_; refine zf rfl ?_) | (refine isL ?_; refine zV rfl (by kernel_rfl) rfl rfl ?_) | (refine zc rfl ?_; refine zU rfl (by kernel_rfl) rfl rfl ?_) | refine zD ?_ | refine zB _ rfl (by kernel_rfl) ?_ | refine zW rfl ?_ | refine zX rfl ?_ | refine zC ?_ | with_reducible refine zO ?_ | refine zI ?_ | refine zJ ?_ | (with_reducible first | refine zM ?_ | refine zN ?_ | refine zF ?_ | refine zH ?_ | refine zG ?_) | refine zP ?_
    refine zh rfl (fun h => ?_) (fun h => ?_)
    · have hlt : i < s.heap.length := by simpa using h
      obtain ⟨z, hz⟩ : ∃ z, s.heap[i]? = some z := ⟨_, List.getElem?_eq_getElem hlt⟩
      repeat' first | refine zL ?_ | refine zA ?_ | refine zQ [] ?_ | (refine isA ?_; refine zf rfl ?_) | (refine isL ?_; refine zV rfl (by kernel_rfl) rfl rfl ?_) | (refine zc rfl ?_; refine zU rfl (by kernel_rfl) rfl rfl ?_) | (refine yB ?_; refine za rfl (zz (t := rwT) (z := z) rfl rfl rfl rfl (Int.natCast_nonneg i) hz) rfl ?_) | (refine yA rfl ?_; refine zT rfl (by kernel_rfl) rfl (zz (t := rwT) (z := z) rfl rfl rfl rfl (Int.natCast_nonneg i) hz) rfl ?_) | (refine zr 59 ?_; refine za rfl (zK rfl (pV z s.out (by omega)) (.cons (.same rfl) (.cons (.same rfl) .nil)) rfl) rfl ?_) | (refine zq 59 rfl ?_; refine zT rfl (by kernel_rfl) rfl (zK rfl (pV z s.out (by omega)) (.cons (.same rfl) (.cons (.same rfl) .nil)) rfl) rfl ?_) | refine zD ?_ | refine zB _ rfl (by kernel_rfl) ?_ | refine zW rfl ?_ | refine zX rfl ?_ | refine zC ?_ | with_reducible refine zO ?_ | refine zI ?_ | refine zJ ?_ | (with_reducible first | refine zM ?_ | refine zN ?_ | refine zF ?_ | refine zH ?_ | refine zG ?_) | refine zP ?_
      refine zh rfl (fun p => ?_) (fun p => ?_)
      · repeat' first | refine zL ?_ | refine zA ?_ | refine zQ [] ?_ | (refine isA ?_; refine zf rfl ?_) | (refine isL ?_; refine zV rfl (by kernel_rfl) rfl rfl ?_) | (refine zc rfl ?_; refine zU rfl (by kernel_rfl) rfl rfl ?_) | exact yJ rfl rfl (congrArg B (mT (lC hz p)).symm) | refine zD ?_ | refine zB _ rfl (by kernel_rfl) ?_ | refine zW rfl ?_ | refine zX rfl ?_ | refine zC ?_ | with_reducible refine zO ?_ | refine zI ?_ | refine zJ ?_ | (with_reducible first | refine zM ?_ | refine zN ?_ | refine zF ?_ | refine zH ?_ | refine zG ?_) | refine zP ?_
      · repeat' first | refine zL ?_ | refine zA ?_ | refine zQ [] ?_ | (refine isA ?_; refine zf rfl ?_) | (refine isL ?_; refine zV rfl (by kernel_rfl) rfl rfl ?_) | (refine zc rfl ?_; refine zU rfl (by kernel_rfl) rfl rfl ?_) | refine zD ?_ | refine zB _ rfl (by kernel_rfl) ?_ | refine zW rfl ?_ | refine zX rfl ?_ | refine zC ?_ | with_reducible refine zO ?_ | refine zI ?_ | refine zJ ?_ | (with_reducible first | refine zM ?_ | refine zN ?_ | refine zF ?_ | refine zH ?_ | refine zG ?_) | refine zP ?_
        refine ⟨⟨i + 1, hlt, tZ hb hz p⟩, by simp only; omega, ?_⟩
        exact yW [0, 1] rfl rfl (by decide) (by repeat' first | exact HLes.nil | refine HLes.cons rfl rfl rfl rfl ?_ ?_ | exact zj | refine zZ ?_ ?_ | exact zp | exact le_refl rfl | exact zm rfl rfl | exact zu rfl) (by repeat' first | exact zj | refine zZ ?_ ?_ | exact zp | exact le_refl rfl | exact zm rfl rfl | exact zu rfl | exact xL (by assumption) (by omega))
    · have hge : i = s.heap.length := by
        have : ¬ ((i : Int) < s.heap.length) := by simpa using h
        omega
      subst hge
      have hB := nQ hq hb
      have e1 := ez hB
      have e2 := ey hB
      simp only [Bool.and_eq_true, xS] at hq
      obtain ⟨hv0, ⟨hp0, hp1⟩, hv1, hv2, hv3⟩ := hq
      repeat' first | refine zL ?_ | refine zA ?_ | refine zQ [] ?_ | (refine isA ?_; refine zf rfl ?_) | (refine isL ?_; refine zV rfl (by kernel_rfl) rfl rfl ?_) | (refine zc rfl ?_; refine zU rfl (by kernel_rfl) rfl rfl ?_) | (refine zr 78 ?_; refine za rfl (zK rfl a5 (.cons (.same rfl) .nil) rfl) rfl ?_) | (refine zq 78 rfl ?_; refine zT rfl (by kernel_rfl) rfl (zK rfl a5 (.cons (.same rfl) .nil) rfl) rfl ?_) | refine zD ?_ | refine zB _ rfl (by kernel_rfl) ?_ | refine zW rfl ?_ | refine zX rfl ?_ | refine zC ?_ | with_reducible refine zO ?_ | refine zI ?_ | refine zJ ?_ | (with_reducible first | refine zM ?_ | refine zN ?_ | refine zF ?_ | refine zH ?_ | refine zG ?_) | refine zP ?_
      refine zh rfl (fun h => ?_) (fun h => ?_)
      · have e1 := e1 h
        rw [mV] at e1
        have hp : s.pos = ((s.pos.toNat : Nat) : Int) := by omega
        have t4 := tog4 s
        have a7 := (mN [s.runs.flatten, s.out, s.heap, s.dfr] ⟨by simp, fun x hx => by simp at hx; rcases hx with rfl | rfl | rfl | rfl <;> omega⟩ (by show ([s.runs.flatten, s.out, s.heap, s.dfr].map List.length).sum ≤ _; simp only [List.map_cons, List.map_nil, List.sum_cons, List.sum_nil]; omega)).frozen (zk rfl)
        rw [t4] at a7
        have a8 := fH (s.runs.flatten ++ s.out ++ s.heap ++ s.dfr) (s.input.take s.pos.toNat) (by rw [List.length_append, List.length_append, List.length_append]; omega) (by simp; omega)
        repeat' first | refine zL ?_ | refine zA ?_ | refine zQ [] ?_ | (refine isA ?_; refine zf rfl ?_) | (refine isL ?_; refine zV rfl (by kernel_rfl) rfl rfl ?_) | (refine zc rfl ?_; refine zU rfl (by kernel_rfl) rfl rfl ?_) | refine za rfl (yh rfl rfl rfl rfl rfl) rfl ?_ | refine zT rfl (by kernel_rfl) rfl (yh rfl rfl rfl rfl rfl) rfl ?_ | (refine zr 19 ?_; refine za rfl (zK rfl a4 (.cons (.same rfl) .nil) rfl) rfl ?_) | (refine zq 19 rfl ?_; refine zT rfl (by kernel_rfl) rfl (zK rfl a4 (.cons (.same rfl) .nil) rfl) rfl ?_) | (refine zr 80 ?_; refine za rfl (zK rfl a7 (.cons (.same rfl) .nil) rfl) rfl ?_) | (refine zq 80 rfl ?_; refine zT rfl (by kernel_rfl) rfl (zK rfl a7 (.cons (.same rfl) .nil) rfl) rfl ?_) | (refine zr 79 ?_; refine za rfl (zK rfl a8 (.cons (.same rfl) (.cons (.same rfl) .nil)) rfl) rfl ?_) | (refine zq 79 rfl ?_; refine zT rfl (by kernel_rfl) rfl (zK rfl a8 (.cons (.same rfl) (.cons (.same rfl) .nil)) rfl) rfl ?_) | (refine uF (x := .tmp 94) ?_; refine za rfl (ym rfl rfl (congrArg I hp) (by omega)) rfl ?_) | (refine uE (x := .tmp 94) rfl ?_; refine zT rfl (by kernel_rfl) rfl (ym rfl rfl (congrArg I hp) (by omega)) rfl ?_) | refine zD ?_ | refine zB _ rfl (by kernel_rfl) ?_ | refine zW rfl ?_ | refine zX rfl ?_ | refine zC ?_ | with_reducible refine zO ?_ | refine zI ?_ | refine zJ ?_ | (with_reducible first | refine zM ?_ | refine zN ?_ | refine zF ?_ | refine zH ?_ | refine zG ?_) | refine zP ?_ | refine zh rfl (fun hbr => ?_) (fun hbr => ?_) | (refine wy ?_; refine yb rfl rfl (fun hbr => ?_) (fun hbr => ?_) <;> (fail_if_success (with_reducible (have hx : true = true := hbr))) <;> (fail_if_success (with_reducible (have hx : false = false := hbr)))) | (refine zc rfl ?_; refine yK rfl rfl rfl rfl (fun hbr => ?_) (fun hbr => ?_) <;> (fail_if_success (with_reducible (have hx : true = true := hbr))) <;> (fail_if_success (with_reducible (have hx : false = false := hbr))))
        all_goals exact yJ rfl rfl (congrArg B (by rw [e1]; clear e1 e2 hp; simp only [*, Bool.true_or, Bool.false_or, Bool.or_true, Bool.or_false, Bool.true_and, Bool.false_and, Bool.and_true, Bool.and_false, Bool.not_true, Bool.not_false, cond_true, cond_false]))
      · have e2 := e2 h
        rw [mU] at e2
        repeat' first | refine zL ?_ | refine zA ?_ | refine zQ [] ?_ | (refine isA ?_; refine zf rfl ?_) | (refine isL ?_; refine zV rfl (by kernel_rfl) rfl rfl ?_) | (refine zc rfl ?_; refine zU rfl (by kernel_rfl) rfl rfl ?_) | (refine zr 79 ?_; refine za rfl (zK rfl a6 (.cons (.same rfl) (.cons (.same rfl) .nil)) rfl) rfl ?_) | (refine zq 79 rfl ?_; refine zT rfl (by kernel_rfl) rfl (zK rfl a6 (.cons (.same rfl) (.cons (.same rfl) .nil)) rfl) rfl ?_) | refine zD ?_ | refine zB _ rfl (by kernel_rfl) ?_ | refine zW rfl ?_ | refine zX rfl ?_ | refine zC ?_ | with_reducible refine zO ?_ | refine zI ?_ | refine zJ ?_ | (with_reducible first | refine zM ?_ | refine zN ?_ | refine zF ?_ | refine zH ?_ | refine zG ?_) | refine zP ?_ | (refine wy ?_; refine yb rfl rfl (fun hbr => ?_) (fun hbr => ?_) <;> (fail_if_success (with_reducible (have hx : true = true := hbr))) <;> (fail_if_success (with_reducible (have hx : false = false := hbr)))) | (refine zc rfl ?_; refine yK rfl rfl rfl rfl (fun hbr => ?_) (fun hbr => ?_) <;> (fail_if_success (with_reducible (have hx : true = true := hbr))) <;> (fail_if_success (with_reducible (have hx : false = false := hbr))))
        all_goals first
          | exact yJ rfl rfl (congrArg B (by rw [e2]; clear e1 e2; simp only [*, Bool.true_or, Bool.false_or, Bool.or_true, Bool.or_false, Bool.true_and, Bool.false_and, Bool.and_true, Bool.and_false, Bool.not_true, Bool.not_false, cond_true, cond_false]))
          | skip
        refine zh rfl (fun q => ?_) (fun q => ?_)
        · repeat' first | refine zL ?_ | refine zA ?_ | refine zQ [] ?_ | (refine isA ?_; refine zf rfl ?_) | (refine isL ?_; refine zV rfl (by kernel_rfl) rfl rfl ?_) | (refine zc rfl ?_; refine zU rfl (by kernel_rfl) rfl rfl ?_) | exact yJ rfl rfl (congrArg B (by rw [e2]; clear e1 e2; simp only [*, Bool.true_or, Bool.false_or, Bool.or_true, Bool.or_false, Bool.true_and, Bool.false_and, Bool.and_true, Bool.and_false, Bool.not_true, Bool.not_false, cond_true, cond_false])) | refine zD ?_ | refine zB _ rfl (by kernel_rfl) ?_ | refine zW rfl ?_ | refine zX rfl ?_ | refine zC ?_ | with_reducible refine zO ?_ | refine zI ?_ | refine zJ ?_ | (with_reducible first | refine zM ?_ | refine zN ?_ | refine zF ?_ | refine zH ?_ | refine zG ?_) | refine zP ?_
        have e3 : vS s = cond (decide (s.ph = 2)) (vV s) (cond (decide (s.ph = 3)) (uY s) (cond (decide (s.ph = 4)) (uZ s) false)) := by
          rw [e2]
          clear e1 e2
          simp only [*, Bool.true_or, Bool.false_or, Bool.or_true, Bool.or_false, Bool.true_and, Bool.false_and, Bool.and_true, Bool.and_false, Bool.not_true, Bool.not_false, cond_true, cond_false]
        clear e1 e2
        repeat' first | refine zL ?_ | refine zA ?_ | refine zQ [] ?_ | (refine isA ?_; refine zf rfl ?_) | (refine isL ?_; refine zV rfl (by kernel_rfl) rfl rfl ?_) | (refine zc rfl ?_; refine zU rfl (by kernel_rfl) rfl rfl ?_) | refine zD ?_ | refine zB _ rfl (by kernel_rfl) ?_ | refine zW rfl ?_ | refine zX rfl ?_ | refine zC ?_ | with_reducible refine zO ?_ | refine zI ?_ | refine zJ ?_ | (with_reducible first | refine zM ?_ | refine zN ?_ | refine zF ?_ | refine zH ?_ | refine zG ?_) | refine zP ?_
        refine zh rfl (fun h2 => ?_) (fun h2 => ?_)
        · rw [h2, cond_true] at e3
          repeat' first | refine zL ?_ | refine zA ?_ | refine zQ [] ?_ | (refine isA ?_; refine zf rfl ?_) | (refine isL ?_; refine zV rfl (by kernel_rfl) rfl rfl ?_) | (refine zc rfl ?_; refine zU rfl (by kernel_rfl) rfl rfl ?_) | refine zD ?_ | refine zB _ rfl (by kernel_rfl) ?_ | refine zW rfl ?_ | refine zX rfl ?_ | refine zC ?_ | with_reducible refine zO ?_ | refine zI ?_ | refine zJ ?_ | (with_reducible first | refine zM ?_ | refine zN ?_ | refine zF ?_ | refine zH ?_ | refine zG ?_) | refine zP ?_
          refine zh rfl (fun h3 => ?_) (fun h3 => ?_)
          · repeat' first | refine zL ?_ | refine zA ?_ | refine zQ [] ?_ | (refine isA ?_; refine zf rfl ?_) | (refine isL ?_; refine zV rfl (by kernel_rfl) rfl rfl ?_) | (refine zc rfl ?_; refine zU rfl (by kernel_rfl) rfl rfl ?_) | exact yJ rfl rfl (congrArg B (by rw [e3, pa h3])) | refine zD ?_ | refine zB _ rfl (by kernel_rfl) ?_ | refine zW rfl ?_ | refine zX rfl ?_ | refine zC ?_ | with_reducible refine zO ?_ | refine zI ?_ | refine zJ ?_ | (with_reducible first | refine zM ?_ | refine zN ?_ | refine zF ?_ | refine zH ?_ | refine zG ?_) | refine zP ?_
          · obtain ⟨a, b, rest, hr⟩ := pc h3
            rw [pb hr] at e3
            have ra : s.runs[0]? = some a := by rw [hr]; rfl
            have rb : s.runs[1]? = some b := by rw [hr]; rfl
            have la := g5.at ra
            have lb := g5.at rb
            have lab : a.length + b.length ≤ 10000000 := by rw [hr] at g6; simp only [tot, List.map_cons, List.sum_cons] at g6; omega
            repeat' first | refine zL ?_ | refine zA ?_ | refine zQ [] ?_ | (refine isA ?_; refine zf rfl ?_) | (refine isL ?_; refine zV rfl (by kernel_rfl) rfl rfl ?_) | (refine zc rfl ?_; refine zU rfl (by kernel_rfl) rfl rfl ?_) | (refine zr 75 ?_; refine za rfl (zK rfl (x3 _ _ _) (.cons (.same rfl) (.cons (.same rfl) (.cons (.same rfl) .nil))) rfl) rfl ?_) | (refine zq 75 rfl ?_; refine zT rfl (by kernel_rfl) rfl (zK rfl (x3 _ _ _) (.cons (.same rfl) (.cons (.same rfl) (.cons (.same rfl) .nil))) rfl) rfl ?_) | (refine yB (x := .tmp 134) ?_; refine za rfl (zz (t := rnT) (z := a) rfl rfl rfl rfl (Int.natCast_nonneg 0) ra) rfl ?_) | (refine yA (x := .tmp 134) rfl ?_; refine zT rfl (by kernel_rfl) rfl (zz (t := rnT) (z := a) rfl rfl rfl rfl (Int.natCast_nonneg 0) ra) rfl ?_) | (refine yB (x := .tmp 139) ?_; refine za rfl (zz (t := rnT) (z := b) rfl rfl rfl rfl (Int.natCast_nonneg 1) rb) rfl ?_) | (refine yA (x := .tmp 139) rfl ?_; refine zT rfl (by kernel_rfl) rfl (zz (t := rnT) (z := b) rfl rfl rfl rfl (Int.natCast_nonneg 1) rb) rfl ?_) | refine zD ?_ | refine zB _ rfl (by kernel_rfl) ?_ | refine zW rfl ?_ | refine zX rfl ?_ | refine zC ?_ | with_reducible refine zO ?_ | refine zI ?_ | refine zJ ?_ | (with_reducible first | refine zM ?_ | refine zN ?_ | refine zF ?_ | refine zH ?_ | refine zG ?_) | refine zP ?_ | (refine wy ?_; refine yb rfl rfl (fun hbr => ?_) (fun hbr => ?_) <;> (fail_if_success (with_reducible (have hx : true = true := hbr))) <;> (fail_if_success (with_reducible (have hx : false = false := hbr)))) | (refine zc rfl ?_; refine yK rfl rfl rfl rfl (fun hbr => ?_) (fun hbr => ?_) <;> (fail_if_success (with_reducible (have hx : true = true := hbr))) <;> (fail_if_success (with_reducible (have hx : false = false := hbr))))
            all_goals first
              | exact yJ rfl rfl (congrArg B (by rw [e3]; simp only [*, Bool.true_or, Bool.false_or, Bool.or_true, Bool.or_false, Bool.true_and, Bool.false_and, Bool.and_true, Bool.and_false, Bool.not_true, Bool.not_false, cond_true, cond_false]))
              | skip
            refine zh rfl (fun p => ?_) (fun p => ?_)
            · repeat' first | refine zL ?_ | refine zA ?_ | refine zQ [] ?_ | (refine isA ?_; refine zf rfl ?_) | (refine isL ?_; refine zV rfl (by kernel_rfl) rfl rfl ?_) | (refine zc rfl ?_; refine zU rfl (by kernel_rfl) rfl rfl ?_) | exact yJ rfl rfl (congrArg B (by rw [e3]; simp only [*, Bool.true_or, Bool.false_or, Bool.or_true, Bool.or_false, Bool.true_and, Bool.false_and, Bool.and_true, Bool.and_false, Bool.not_true, Bool.not_false, cond_true, cond_false])) | refine zD ?_ | refine zB _ rfl (by kernel_rfl) ?_ | refine zW rfl ?_ | refine zX rfl ?_ | refine zC ?_ | with_reducible refine zO ?_ | refine zI ?_ | refine zJ ?_ | (with_reducible first | refine zM ?_ | refine zN ?_ | refine zF ?_ | refine zH ?_ | refine zG ?_) | refine zP ?_
            have p1 : (!inV s.lp 0 a.length) = false := by assumption
            have p1 : inV s.lp 0 a.length = true := by simpa using p1
            have p2 : inV s.rp 0 b.length = true := by simpa using p
            rw [p1, p2] at e3
            simp only [Bool.true_or, Bool.false_or, Bool.or_true, Bool.or_false, Bool.true_and, Bool.false_and, Bool.and_true, Bool.and_false, Bool.not_true, Bool.not_false, cond_true, cond_false] at e3
            obtain ⟨q1, q2⟩ := xS.1 p1
            obtain ⟨q3, q4⟩ := xS.1 p2
            obtain ⟨i, hi⟩ := Int.eq_ofNat_of_zero_le q1
            obtain ⟨j, hj⟩ := Int.eq_ofNat_of_zero_le q3
            have ei : s.lp.toNat = i := by omega
            have ej : s.rp.toNat = j := by omega
            rw [ei, ej] at e3
            have w1 : IntKind.i64.wrap (s.lp + s.rp) = ((i + j : Nat) : Int) := by rw [hi, hj, IntKind.wrap_i64]; omega
            have li : (a.take i).length ≤ 100000000 := by simp; omega
            have lj : (b.take j).length ≤ 100000000 := by simp; omega
            have m1 := (da (a.take i) (b.take j) li lj).frozen (zk rfl)
            have m2 := (da a b (by omega) (by omega)).frozen (zk rfl)
            have n2 := tW a b
            have x1 := s9 s.out (mgV (a.take i) (b.take j)) (by omega)
            have x2 := s9 s.out ((mgV a b).take (i + j)) (by omega)
            generalize mgV (a.take i) (b.take j) = M1 at m1 x1 e3
            generalize mgV a b = M2 at m2 x2 e3 n2
            repeat' first | refine zL ?_ | refine zA ?_ | refine zQ [] ?_ | (refine isA ?_; refine zf rfl ?_) | (refine isL ?_; refine zV rfl (by kernel_rfl) rfl rfl ?_) | (refine zc rfl ?_; refine zU rfl (by kernel_rfl) rfl rfl ?_) | (refine uF (x := .tmp 159) ?_; refine za rfl (ym rfl rfl (congrArg I hi) (by omega)) rfl ?_) | (refine uE (x := .tmp 159) rfl ?_; refine zT rfl (by kernel_rfl) rfl (ym rfl rfl (congrArg I hi) (by omega)) rfl ?_) | (refine uF (x := .tmp 163) ?_; refine za rfl (ym rfl rfl (congrArg I hj) (by omega)) rfl ?_) | (refine uE (x := .tmp 163) rfl ?_; refine zT rfl (by kernel_rfl) rfl (ym rfl rfl (congrArg I hj) (by omega)) rfl ?_) | (refine uF (x := .tmp 174) ?_; refine za rfl (ym rfl rfl (congrArg I w1) (by omega)) rfl ?_) | (refine uE (x := .tmp 174) rfl ?_; refine zT rfl (by kernel_rfl) rfl (ym rfl rfl (congrArg I w1) (by omega)) rfl ?_) | (refine zr 82 (x := #[.tmp 162, .tmp 166]) ?_; refine za rfl (zK rfl m1 (.cons (.same rfl) (.cons (.same rfl) .nil)) rfl) rfl ?_) | (refine zq 82 (x := #[.tmp 162, .tmp 166]) rfl ?_; refine zT rfl (by kernel_rfl) rfl (zK rfl m1 (.cons (.same rfl) (.cons (.same rfl) .nil)) rfl) rfl ?_) | (refine zr 82 (x := #[.tmp 172, .tmp 173]) ?_; refine za rfl (zK rfl m2 (.cons (.same rfl) (.cons (.same rfl) .nil)) rfl) rfl ?_) | (refine zq 82 (x := #[.tmp 172, .tmp 173]) rfl ?_; refine zT rfl (by kernel_rfl) rfl (zK rfl m2 (.cons (.same rfl) (.cons (.same rfl) .nil)) rfl) rfl ?_) | (refine zr 81 (x := #[.tmp 158, .tmp 167]) ?_; refine za rfl (zK rfl x1 (.cons (.same rfl) (.cons (.same rfl) .nil)) rfl) rfl ?_) | (refine zq 81 (x := #[.tmp 158, .tmp 167]) rfl ?_; refine zT rfl (by kernel_rfl) rfl (zK rfl x1 (.cons (.same rfl) (.cons (.same rfl) .nil)) rfl) rfl ?_) | (refine zr 81 (x := #[.tmp 171, .tmp 180]) ?_; refine za rfl (zK rfl x2 (.cons (.same rfl) (.cons (.same rfl) .nil)) rfl) rfl ?_) | (refine zq 81 (x := #[.tmp 171, .tmp 180]) rfl ?_; refine zT rfl (by kernel_rfl) rfl (zK rfl x2 (.cons (.same rfl) (.cons (.same rfl) .nil)) rfl) rfl ?_) | refine zD ?_ | refine zB _ rfl (by kernel_rfl) ?_ | refine zW rfl ?_ | refine zX rfl ?_ | refine zC ?_ | with_reducible refine zO ?_ | refine zI ?_ | refine zJ ?_ | (with_reducible first | refine zM ?_ | refine zN ?_ | refine zF ?_ | refine zH ?_ | refine zG ?_) | refine zP ?_ | (refine wy ?_; refine yb rfl rfl (fun hbr => ?_) (fun hbr => ?_) <;> (fail_if_success (with_reducible (have hx : true = true := hbr))) <;> (fail_if_success (with_reducible (have hx : false = false := hbr)))) | (refine zc rfl ?_; refine yK rfl rfl rfl rfl (fun hbr => ?_) (fun hbr => ?_) <;> (fail_if_success (with_reducible (have hx : true = true := hbr))) <;> (fail_if_success (with_reducible (have hx : false = false := hbr))))
            all_goals exact yJ rfl rfl (congrArg B (by rw [e3]; clear hi hj q1 q2 q3 q4; simp only [*, Bool.true_or, Bool.false_or, Bool.or_true, Bool.or_false, Bool.true_and, Bool.false_and, Bool.and_true, Bool.and_false, Bool.not_true, Bool.not_false, cond_true, cond_false]))
        · rw [h2, cond_false] at e3
          repeat' first | refine zL ?_ | refine zA ?_ | refine zQ [] ?_ | (refine isA ?_; refine zf rfl ?_) | (refine isL ?_; refine zV rfl (by kernel_rfl) rfl rfl ?_) | (refine zc rfl ?_; refine zU rfl (by kernel_rfl) rfl rfl ?_) | refine zD ?_ | refine zB _ rfl (by kernel_rfl) ?_ | refine zW rfl ?_ | refine zX rfl ?_ | refine zC ?_ | with_reducible refine zO ?_ | refine zI ?_ | refine zJ ?_ | (with_reducible first | refine zM ?_ | refine zN ?_ | refine zF ?_ | refine zH ?_ | refine zG ?_) | refine zP ?_
          refine zh rfl (fun h3 => ?_) (fun h3 => ?_)
          · rw [h3, cond_true, fY s (by omega)] at e3
            repeat' first | refine zL ?_ | refine zA ?_ | refine zQ [] ?_ | (refine isA ?_; refine zf rfl ?_) | (refine isL ?_; refine zV rfl (by kernel_rfl) rfl rfl ?_) | (refine zc rfl ?_; refine zU rfl (by kernel_rfl) rfl rfl ?_) | (refine zr 75 ?_; refine za rfl (zK rfl (x3 _ _ _) (.cons (.same rfl) (.cons (.same rfl) (.cons (.same rfl) .nil))) rfl) rfl ?_) | (refine zq 75 rfl ?_; refine zT rfl (by kernel_rfl) rfl (zK rfl (x3 _ _ _) (.cons (.same rfl) (.cons (.same rfl) (.cons (.same rfl) .nil))) rfl) rfl ?_) | refine zD ?_ | refine zB _ rfl (by kernel_rfl) ?_ | refine zW rfl ?_ | refine zX rfl ?_ | refine zC ?_ | with_reducible refine zO ?_ | refine zI ?_ | refine zJ ?_ | (with_reducible first | refine zM ?_ | refine zN ?_ | refine zF ?_ | refine zH ?_ | refine zG ?_) | refine zP ?_ | (refine wy ?_; refine yb rfl rfl (fun hbr => ?_) (fun hbr => ?_) <;> (fail_if_success (with_reducible (have hx : true = true := hbr))) <;> (fail_if_success (with_reducible (have hx : false = false := hbr)))) | (refine zc rfl ?_; refine yK rfl rfl rfl rfl (fun hbr => ?_) (fun hbr => ?_) <;> (fail_if_success (with_reducible (have hx : true = true := hbr))) <;> (fail_if_success (with_reducible (have hx : false = false := hbr))))
            all_goals exact yJ rfl rfl (congrArg B (by rw [e3]; simp only [*, Bool.true_or, Bool.false_or, Bool.or_true, Bool.or_false, Bool.true_and, Bool.false_and, Bool.and_true, Bool.and_false, Bool.not_true, Bool.not_false, cond_true, cond_false]))
          · rw [h3, cond_false] at e3
            repeat' first | refine zL ?_ | refine zA ?_ | refine zQ [] ?_ | (refine isA ?_; refine zf rfl ?_) | (refine isL ?_; refine zV rfl (by kernel_rfl) rfl rfl ?_) | (refine zc rfl ?_; refine zU rfl (by kernel_rfl) rfl rfl ?_) | refine zD ?_ | refine zB _ rfl (by kernel_rfl) ?_ | refine zW rfl ?_ | refine zX rfl ?_ | refine zC ?_ | with_reducible refine zO ?_ | refine zI ?_ | refine zJ ?_ | (with_reducible first | refine zM ?_ | refine zN ?_ | refine zF ?_ | refine zH ?_ | refine zG ?_) | refine zP ?_
            refine zh rfl (fun h4 => ?_) (fun h4 => ?_)
            · rw [h4, cond_true, fZ s] at e3
              repeat' first | refine zL ?_ | refine zA ?_ | refine zQ [] ?_ | (refine isA ?_; refine zf rfl ?_) | (refine isL ?_; refine zV rfl (by kernel_rfl) rfl rfl ?_) | (refine zc rfl ?_; refine zU rfl (by kernel_rfl) rfl rfl ?_) | refine zD ?_ | refine zB _ rfl (by kernel_rfl) ?_ | refine zW rfl ?_ | refine zX rfl ?_ | refine zC ?_ | with_reducible refine zO ?_ | refine zI ?_ | refine zJ ?_ | (with_reducible first | refine zM ?_ | refine zN ?_ | refine zF ?_ | refine zH ?_ | refine zG ?_) | refine zP ?_ | (refine wy ?_; refine yb rfl rfl (fun hbr => ?_) (fun hbr => ?_) <;> (fail_if_success (with_reducible (have hx : true = true := hbr))) <;> (fail_if_success (with_reducible (have hx : false = false := hbr)))) | (refine zc rfl ?_; refine yK rfl rfl rfl rfl (fun hbr => ?_) (fun hbr => ?_) <;> (fail_if_success (with_reducible (have hx : true = true := hbr))) <;> (fail_if_success (with_reducible (have hx : false = false := hbr))))
              all_goals exact yJ rfl rfl (congrArg B (by rw [e3]; simp only [*, Bool.true_or, Bool.false_or, Bool.or_true, Bool.or_false, Bool.true_and, Bool.false_and, Bool.and_true, Bool.and_false, Bool.not_true, Bool.not_false, cond_true, cond_false]))
            · rw [h4, cond_false] at e3
              repeat' first | refine zL ?_ | refine zA ?_ | refine zQ [] ?_ | (refine isA ?_; refine zf rfl ?_) | (refine isL ?_; refine zV rfl (by kernel_rfl) rfl rfl ?_) | (refine zc rfl ?_; refine zU rfl (by kernel_rfl) rfl rfl ?_) | exact yJ rfl rfl (congrArg B (by rw [e3])) | refine zD ?_ | refine zB _ rfl (by kernel_rfl) ?_ | refine zW rfl ?_ | refine zX rfl ?_ | refine zC ?_ | with_reducible refine zO ?_ | refine zI ?_ | refine zJ ?_ | (with_reducible first | refine zM ?_ | refine zN ?_ | refine zF ?_ | refine zH ?_ | refine zG ?_) | refine zP ?_
end Go.Proofs.Ytojcojanokhnaaa.Ab
namespace Go.Proofs.Ytojcojanokhnaaa.Ab
open Go.RowKit
theorem fX (s : So) (h : s.out.length ≤ 1000000000) : sM s = (decide (s.lp = 0) && (decide (s.rp = 0) && ((decide ((s.dfr.length : Int) = 0) || decide ((0 : Int) ≤ IntKind.i64.wrap ((s.out.length : Int) - 1))) && (decide (yj s ≤ 60) && eqB (s.runs.flatten ++ s.out ++ s.heap ++ s.dfr) (s.input.take s.pos.toNat))))) := by
  rw [mV, Bool.or_comm, show decide ((0 : Int) < (s.out.length : Int)) = decide ((0 : Int) ≤ IntKind.i64.wrap ((s.out.length : Int) - 1)) from decide_eq_decide.2 (by rw [IntKind.wrap_i64]; omega)]
theorem fW (s : So) (h1 : s.heap.length ≤ 1000000000) (h2 : s.dfr.length ≤ 1000000000) : vc s = (!(!decide (s.pos = s.input.length) || decide ((0 : Int) < IntKind.i64.wrap ((s.heap.length : Int) + (s.dfr.length : Int)))) && eqB s.runs.flatten s.input) := by
  rw [mU, show decide ((0 : Int) < IntKind.i64.wrap ((s.heap.length : Int) + (s.dfr.length : Int))) = (decide ((0 : Int) < (s.heap.length : Int)) || decide ((0 : Int) < (s.dfr.length : Int))) from by rw [← Bool.decide_or]; exact decide_eq_decide.2 (by rw [IntKind.wrap_i64]; omega)]
  generalize decide (s.pos = s.input.length) = p
  generalize decide ((0 : Int) < (s.heap.length : Int)) = q
  generalize decide ((0 : Int) < (s.dfr.length : Int)) = r
  generalize eqB s.runs.flatten s.input = t
  cases p <;> cases q <;> cases r <;> cases t <;> rfl
theorem vTail (s : So) : cond (decide (s.ph = 3)) (uY s) (cond (decide (s.ph = 4)) (uZ s) false) = (!(decide ((1 : Int) < (s.runs.length : Int)) || (!decide (s.rp = 0) || decide ((0 : Int) < (s.out.length : Int)))) && cond (decide (s.ph = 3)) (decide ((s.runs.length : Int) = 1) && inV s.lp 0 ((s.input.length : Int) - 1)) (decide (s.ph = 4) && decide (s.lp = s.input.length))) := by
  unfold uY uZ
  rw [show decide (s.out.length = 0) = !decide ((0 : Int) < (s.out.length : Int)) from by rw [← decide_not]; exact decide_eq_decide.2 (by omega), show decide (s.runs.length ≤ 1) = !decide ((1 : Int) < (s.runs.length : Int)) from by rw [← decide_not]; exact decide_eq_decide.2 (by omega), show decide (s.runs.length = 1) = decide ((s.runs.length : Int) = 1) from decide_eq_decide.2 (by omega)]
  rcases Classical.em ((s.runs.length : Int) = 1) with h | h
  · rw [decide_eq_true h, decide_eq_false (show ¬ (1 : Int) < (s.runs.length : Int) by omega)]
    generalize decide ((0 : Int) < (s.out.length : Int)) = q
    generalize decide (s.rp = 0) = r
    generalize inV s.lp 0 ((s.input.length : Int) - 1) = t
    generalize decide (s.lp = s.input.length) = u
    cases decide (s.ph = 3) <;> cases decide (s.ph = 4) <;> cases q <;> cases r <;> cases t <;> cases u <;> rfl
  · rw [decide_eq_false h]
    generalize decide ((1 : Int) < (s.runs.length : Int)) = p
    generalize decide ((0 : Int) < (s.out.length : Int)) = q
    generalize decide (s.rp = 0) = r
    generalize inV s.lp 0 ((s.input.length : Int) - 1) = t
    generalize decide (s.lp = s.input.length) = u
    cases decide (s.ph = 3) <;> cases decide (s.ph = 4) <;> cases p <;> cases q <;> cases r <;> cases t <;> cases u <;> rfl
theorem tt (s : So) (hok : okSo s) : zy Go.Proofs.Try.prog 18 [.agg (soE s)] [] (B (vS s)) [] false := by
  have g1 := hok.input
  have g2 := hok.heap
  have g3 := hok.dfr
  have g4 := hok.out
  have g5 := hok.rn
  have g6 := hok.tot
  have g7 := vf s.runs
  have a1 := pT s.input (by omega)
  have a2 := cI s.runs g5
  have a3 := gv s.out (by omega)
  have a4 := pS s hok
  have a5 := (lV s.runs g5 (by omega)).frozen (zk rfl)
  have a6 := lW s.runs.flatten s.input (by omega) (by omega)
  refine zw [2] Go.Proofs.Try.func18 rfl rfl ?_
  simp only [Go.Proofs.Try.ntmps18, List.length_cons, List.length_nil, Nat.reduceAdd, Nat.reduceSub, List.replicate_succ, List.replicate_zero, List.cons_append, List.nil_append]
  repeat' first | refine zL ?_ | refine zA ?_ | refine zQ [] ?_ | (refine isA ?_; refine zf rfl ?_) | (refine isL ?_; refine zV rfl (by kernel_rfl) rfl rfl ?_) | (refine zc rfl ?_; refine zU rfl (by kernel_rfl) rfl rfl ?_) | (refine zr 25 ?_; refine za rfl (zK rfl a1 (.cons (.same rfl) .nil) rfl) rfl ?_) | (refine zq 25 rfl ?_; refine zT rfl (by kernel_rfl) rfl (zK rfl a1 (.cons (.same rfl) .nil) rfl) rfl ?_) | (refine zr 66 ?_; refine za rfl (zK rfl (uI _ _ _) (.cons (.same rfl) (.cons (.same rfl) (.cons (.same rfl) .nil))) rfl) rfl ?_) | (refine zq 66 rfl ?_; refine zT rfl (by kernel_rfl) rfl (zK rfl (uI _ _ _) (.cons (.same rfl) (.cons (.same rfl) (.cons (.same rfl) .nil))) rfl) rfl ?_) | (refine zr 83 ?_; refine za rfl (zK rfl a2 (.cons (.same rfl) .nil) rfl) rfl ?_) | (refine zq 83 rfl ?_; refine zT rfl (by kernel_rfl) rfl (zK rfl a2 (.cons (.same rfl) .nil) rfl) rfl ?_) | (refine zr 84 ?_; refine za rfl (zK rfl a3 (.cons (.same rfl) .nil) rfl) rfl ?_) | (refine zq 84 rfl ?_; refine zT rfl (by kernel_rfl) rfl (zK rfl a3 (.cons (.same rfl) .nil) rfl) rfl ?_) | refine zD ?_ | refine zB _ rfl (by kernel_rfl) ?_ | refine zW rfl ?_ | refine zX rfl ?_ | refine zC ?_ | with_reducible refine zO ?_ | refine zI ?_ | refine zJ ?_ | (with_reducible first | refine zM ?_ | refine zN ?_ | refine zF ?_ | refine zH ?_ | refine zG ?_) | refine zP ?_ | refine zh rfl (fun hbr => ?_) (fun hbr => ?_) | (refine wy ?_; refine yb rfl rfl (fun hbr => ?_) (fun hbr => ?_) <;> (fail_if_success (with_reducible (have hx : true = true := hbr))) <;> (fail_if_success (with_reducible (have hx : false = false := hbr)))) | (refine zc rfl ?_; refine yK rfl rfl rfl rfl (fun hbr => ?_) (fun hbr => ?_) <;> (fail_if_success (with_reducible (have hx : true = true := hbr))) <;> (fail_if_success (with_reducible (have hx : false = false := hbr))))
  all_goals first
    | exact yJ rfl rfl (congrArg B (mT (by rw [mW]; simp only [*, Bool.true_or, Bool.false_or, Bool.or_true, Bool.or_false, Bool.true_and, Bool.false_and, Bool.and_true, Bool.and_false, Bool.not_true, Bool.not_false, cond_true, cond_false])).symm)
    | skip
  have hq : (avR s.input && (inV s.pos 0 s.input.length && (avS s.runs && (!decide (s.wr < 0) && v2 s.out)))) = true := by
    simp only [Bool.not_eq_false'] at *
    simp only [*, Bool.true_and, Bool.not_false]
  refine z9 (α := { i : Nat // i ≤ s.heap.length ∧ ∀ j z, j < i → s.heap[j]? = some z → bel z s.out = false }) (fun i => ⟨(.any :: (.ptr 0 0) :: .any :: (I (IntKind.i64.wrap ((s.out.length : Int) - 1))) :: (I i.1) :: .any :: .any :: .any :: .any :: .any :: .any :: .any :: .any :: .any :: .any :: .any :: .any :: .any :: .any :: .any :: .any :: .any :: .any :: .any :: .any :: .any :: .any :: .any :: .any :: .any :: .any :: .any :: .any :: .any :: .any :: .any :: .any :: .any :: .any :: .any :: .any :: .any :: .any :: .any :: .any :: .any :: .any :: .any :: .any :: .any :: .any :: .any :: .any :: .any :: .any :: .any :: .any :: .any :: .any :: .any :: .any :: .any :: .any :: .any :: .any :: .any :: .any :: .any :: .any :: .any :: .any :: .any :: .any :: .any :: .any :: .any :: .any :: .any :: .any :: .any :: .any :: .any :: .any :: .any :: .any :: .any :: .any :: .any :: .any :: .any :: .any :: .any :: .any :: .any :: .any :: .any :: .any :: .any :: .any :: .any :: .any :: .any :: .any :: .any :: .any :: .any :: .any :: .any :: .any :: .any :: .any :: .any :: .any :: .any :: .any :: .any :: .any :: .any :: .any :: .any :: .any :: .any :: .any :: .any :: .any :: .any :: .any :: .any :: .any :: .any :: .any :: .any :: .any :: .any :: .any :: .any :: .any :: .any :: .any :: .any :: .any :: .any :: .any :: .any :: .any :: .any :: .any :: .any :: .any :: .any :: .any :: .any :: .any :: .any :: .any :: .any :: .any :: .any :: .any :: .any :: .any :: .any :: .any :: .any :: .any :: .any :: .any :: .any :: .any :: .any :: .any :: .any :: .any :: .any :: .any :: .any :: .any :: .any :: .any :: .any :: .any :: .any :: .any :: .any :: .any :: .any :: .any :: .any :: .any :: .any :: .any :: .any :: .any :: .any :: .any :: .any :: .any :: .any :: .any :: .any :: .any :: .any :: .any :: .any :: .any :: .any :: .any :: .any :: .any :: .any :: .any :: .any :: .any :: .any :: .any :: .any :: .any :: .any :: .any :: .any :: .any :: .any :: .any :: .any :: .any :: .any :: .any :: .any :: .any :: .any :: .any :: .any :: .any :: .any :: .any :: .any :: .any :: .any :: .any :: .any :: .any :: .any :: .any :: .any :: .any :: .any :: .any :: .any :: .any :: .any :: .any :: .any :: .any :: .any :: .any :: .any :: .any :: .any :: .any :: .any :: []), [⟨27, 10, soE s, 0⟩], 0⟩) (fun i => s.heap.length - i.1) ⟨0, Nat.zero_le _, fun j z h => absurd h (Nat.not_lt_zero j)⟩ ?_ ?_
  · exact yW [0] rfl rfl (by decide) (by repeat' first | exact HLes.nil | refine HLes.cons rfl rfl rfl rfl ?_ ?_ | exact zj | refine zZ ?_ ?_ | exact zp | exact le_refl rfl | exact zm rfl rfl | exact zu rfl) (by repeat' first | exact zj | refine zZ ?_ ?_ | exact zp | exact le_refl rfl | exact zm rfl rfl | exact zu rfl)
  · rintro ⟨i, hi, hb⟩
    repeat' first | refine zL ?_ | refine zA ?_ | refine zQ [] ?_ | (refine isA ?_; refine zf rfl ?_) | (refine isL ?_; refine zV rfl (by kernel_rfl) rfl rfl ?_) | (refine zc rfl ?_; refine zU rfl (by kernel_rfl) rfl rfl ?_) | refine zD ?_ | refine zB _ rfl (by kernel_rfl) ?_ | refine zW rfl ?_ | refine zX rfl ?_ | refine zC ?_ | with_reducible refine zO ?_ | refine zI ?_ | refine zJ ?_ | (with_reducible first | refine zM ?_ | refine zN ?_ | refine zF ?_ | refine zH ?_ | refine zG ?_) | refine zP ?_
    refine zh rfl (fun h => ?_) (fun h => ?_)
    · have hlt : i < s.heap.length := by simpa using h
      obtain ⟨z, hz⟩ : ∃ z, s.heap[i]? = some z := ⟨_, List.getElem?_eq_getElem hlt⟩
      repeat' first | refine zL ?_ | refine zA ?_ | refine zQ [] ?_ | (refine isA ?_; refine zf rfl ?_) | (refine isL ?_; refine zV rfl (by kernel_rfl) rfl rfl ?_) | (refine zc rfl ?_; refine zU rfl (by kernel_rfl) rfl rfl ?_) | refine zD ?_ | refine zB _ rfl (by kernel_rfl) ?_ | refine zW rfl ?_ | refine zX rfl ?_ | refine zC ?_ | with_reducible refine zO ?_ | refine zI ?_ | refine zJ ?_ | (with_reducible first | refine zM ?_ | refine zN ?_ | refine zF ?_ | refine zH ?_ | refine zG ?_) | refine zP ?_
      refine yK rfl rfl rfl rfl (fun p1 => ?_) (fun p1 => ?_)
      · have q1 : 0 < s.out.length := by have := of_decide_eq_true p1; rw [IntKind.wrap_i64] at this; omega
        obtain ⟨y, hy⟩ : ∃ z, s.out[s.out.length - 1]? = some z := ⟨_, List.getElem?_eq_getElem (by omega)⟩
        have ew : IntKind.i64.wrap ((s.out.length : Int) - 1) = ((s.out.length - 1 : Nat) : Int) := by rw [IntKind.wrap_i64]; omega
        have eb : bel z s.out = decide (yu z y < 0) := by unfold bel; rw [hy]; rfl
        repeat' first | refine zL ?_ | refine zA ?_ | refine zQ [] ?_ | (refine isA ?_; refine zf rfl ?_) | (refine isL ?_; refine zV rfl (by kernel_rfl) rfl rfl ?_) | (refine zc rfl ?_; refine zU rfl (by kernel_rfl) rfl rfl ?_) | (refine yB (x := .tmp 52) ?_; refine za rfl (zz (t := rwT) (z := z) rfl rfl rfl rfl (Int.natCast_nonneg i) hz) rfl ?_) | (refine yA (x := .tmp 52) rfl ?_; refine zT rfl (by kernel_rfl) rfl (zz (t := rwT) (z := z) rfl rfl rfl rfl (Int.natCast_nonneg i) hz) rfl ?_) | (refine yB (x := .tmp 57) ?_; refine za rfl (zz (t := rwT) (j := ((s.out.length - 1 : Nat) : Int)) (z := y) rfl rfl rfl (congrArg I ew) (Int.natCast_nonneg _) hy) rfl ?_) | (refine yA (x := .tmp 57) rfl ?_; refine zT rfl (by kernel_rfl) rfl (zz (t := rwT) (j := ((s.out.length - 1 : Nat) : Int)) (z := y) rfl rfl rfl (congrArg I ew) (Int.natCast_nonneg _) hy) rfl ?_) | (refine zr 68 ?_; refine za rfl (zK rfl (xz z y) (.cons (.same rfl) (.cons (.same rfl) .nil)) rfl) rfl ?_) | (refine zq 68 rfl ?_; refine zT rfl (by kernel_rfl) rfl (zK rfl (xz z y) (.cons (.same rfl) (.cons (.same rfl) .nil)) rfl) rfl ?_) | refine zD ?_ | refine zB _ rfl (by kernel_rfl) ?_ | refine zW rfl ?_ | refine zX rfl ?_ | refine zC ?_ | with_reducible refine zO ?_ | refine zI ?_ | refine zJ ?_ | (with_reducible first | refine zM ?_ | refine zN ?_ | refine zF ?_ | refine zH ?_ | refine zG ?_) | refine zP ?_
        refine zh rfl (fun p => ?_) (fun p => ?_)
        · repeat' first | refine zL ?_ | refine zA ?_ | refine zQ [] ?_ | (refine isA ?_; refine zf rfl ?_) | (refine isL ?_; refine zV rfl (by kernel_rfl) rfl rfl ?_) | (refine zc rfl ?_; refine zU rfl (by kernel_rfl) rfl rfl ?_) | exact yJ rfl rfl (congrArg B (mT (lC hz (eb.trans p))).symm) | refine zD ?_ | refine zB _ rfl (by kernel_rfl) ?_ | refine zW rfl ?_ | refine zX rfl ?_ | refine zC ?_ | with_reducible refine zO ?_ | refine zI ?_ | refine zJ ?_ | (with_reducible first | refine zM ?_ | refine zN ?_ | refine zF ?_ | refine zH ?_ | refine zG ?_) | refine zP ?_
        · repeat' first | refine zL ?_ | refine zA ?_ | refine zQ [] ?_ | (refine isA ?_; refine zf rfl ?_) | (refine isL ?_; refine zV rfl (by kernel_rfl) rfl rfl ?_) | (refine zc rfl ?_; refine zU rfl (by kernel_rfl) rfl rfl ?_) | refine zD ?_ | refine zB _ rfl (by kernel_rfl) ?_ | refine zW rfl ?_ | refine zX rfl ?_ | refine zC ?_ | with_reducible refine zO ?_ | refine zI ?_ | refine zJ ?_ | (with_reducible first | refine zM ?_ | refine zN ?_ | refine zF ?_ | refine zH ?_ | refine zG ?_) | refine zP ?_
          refine ⟨⟨i + 1, hlt, tZ hb hz (eb.trans p)⟩, by simp only; omega, ?_⟩
          exact yW [0] rfl rfl (by decide) (by repeat' first | exact HLes.nil | refine HLes.cons rfl rfl rfl rfl ?_ ?_ | exact zj | refine zZ ?_ ?_ | exact zp | exact le_refl rfl | exact zm rfl rfl | exact zu rfl) (by repeat' first | exact zj | refine zZ ?_ ?_ | exact zp | exact le_refl rfl | exact zm rfl rfl | exact zu rfl | exact xL (by assumption) (by omega))
      · have q1 : s.out.length = 0 := by have := of_decide_eq_false p1; rw [IntKind.wrap_i64] at this; omega
        have eb : bel z s.out = false := by rw [List.eq_nil_of_length_eq_zero q1]; rfl
        repeat' first | refine zL ?_ | refine zA ?_ | refine zQ [] ?_ | (refine isA ?_; refine zf rfl ?_) | (refine isL ?_; refine zV rfl (by kernel_rfl) rfl rfl ?_) | (refine zc rfl ?_; refine zU rfl (by kernel_rfl) rfl rfl ?_) | refine zD ?_ | refine zB _ rfl (by kernel_rfl) ?_ | refine zW rfl ?_ | refine zX rfl ?_ | refine zC ?_ | with_reducible refine zO ?_ | refine zI ?_ | refine zJ ?_ | (with_reducible first | refine zM ?_ | refine zN ?_ | refine zF ?_ | refine zH ?_ | refine zG ?_) | refine zP ?_
        refine ⟨⟨i + 1, hlt, tZ hb hz eb⟩, by simp only; omega, ?_⟩
        exact yW [0] rfl rfl (by decide) (by repeat' first | exact HLes.nil | refine HLes.cons rfl rfl rfl rfl ?_ ?_ | exact zj | refine zZ ?_ ?_ | exact zp | exact le_refl rfl | exact zm rfl rfl | exact zu rfl) (by repeat' first | exact zj | refine zZ ?_ ?_ | exact zp | exact le_refl rfl | exact zm rfl rfl | exact zu rfl | exact xL (by assumption) (by omega))
    · have hge : i = s.heap.length := by
        have : ¬ ((i : Int) < s.heap.length) := by simpa using h
        omega
      subst hge
      have hB := nQ hq hb
      have e1 := ez hB
      have e2 := ey hB
      simp only [Bool.and_eq_true, xS] at hq
      obtain ⟨hv0, ⟨hp0, hp1⟩, hv1, hv2, hv3⟩ := hq
      repeat' first | refine zL ?_ | refine zA ?_ | refine zQ [] ?_ | (refine isA ?_; refine zf rfl ?_) | (refine isL ?_; refine zV rfl (by kernel_rfl) rfl rfl ?_) | (refine zc rfl ?_; refine zU rfl (by kernel_rfl) rfl rfl ?_) | refine zD ?_ | refine zB _ rfl (by kernel_rfl) ?_ | refine zW rfl ?_ | refine zX rfl ?_ | refine zC ?_ | with_reducible refine zO ?_ | refine zI ?_ | refine zJ ?_ | (with_reducible first | refine zM ?_ | refine zN ?_ | refine zF ?_ | refine zH ?_ | refine zG ?_) | refine zP ?_
      refine zh rfl (fun h => ?_) (fun h => ?_)
      · have e1 := e1 h
        rw [fX s (by omega)] at e1
        have hp : s.pos = ((s.pos.toNat : Nat) : Int) := by omega
        have a7 := lV s.runs g5 (by omega)
        have a8 := lW (s.runs.flatten ++ s.out ++ s.heap ++ s.dfr) (s.input.take s.pos.toNat) (by rw [List.length_append, List.length_append, List.length_append]; omega) (by simp; omega)
        repeat' first | refine zL ?_ | refine zA ?_ | (refine isA ?_; refine zf rfl ?_) | (refine isL ?_; refine zV rfl (by kernel_rfl) rfl rfl ?_) | (refine zc rfl ?_; refine zU rfl (by kernel_rfl) rfl rfl ?_) | refine zD ?_ | refine zB _ rfl (by kernel_rfl) ?_ | refine zW rfl ?_ | refine zX rfl ?_ | refine zC ?_ | with_reducible refine zO ?_ | refine zI ?_ | refine zJ ?_ | (with_reducible first | refine zM ?_ | refine zN ?_ | refine zF ?_ | refine zH ?_ | refine zG ?_) | refine zP ?_
        refine tP (fun H => H[0]? = some (⟨27, 10, soE s, 0⟩ : Reg)) 13 rfl ?_
        refine yZ 0 rfl rfl (by kernel_rfl) rfl (fun _ => rfl) rfl ?_
        refine xC 1 rfl rfl (by kernel_rfl) rfl (fun _ hG => xv rfl rfl hG rfl rfl) rfl ?_
        refine yZ 3 rfl rfl (by kernel_rfl) rfl (fun _ => rfl) rfl ?_
        refine xC 4 rfl rfl (by kernel_rfl) rfl (fun _ hG => xv rfl rfl hG rfl rfl) rfl ?_
        refine yZ 6 rfl rfl (by kernel_rfl) rfl (fun _ => rfl) rfl ?_
        refine xC 7 rfl rfl (by kernel_rfl) rfl (fun _ hG => xv rfl rfl hG rfl rfl) rfl ?_
        refine yZ 9 rfl rfl (by kernel_rfl) rfl (fun _ => rfl) rfl ?_
        refine xC 10 rfl rfl (by kernel_rfl) rfl (fun _ hG => xv rfl rfl hG rfl rfl) rfl ?_
        refine wY 2 (by kernel_rfl) ?_
        refine qA rfl rfl (z6 rfl a7 (.cons (.same rfl) .nil) (fun q hq => by simp at hq; subst hq; exact zE _ _) rfl rfl) rfl rfl ?_
        refine wY 5 (by kernel_rfl) ?_
        refine qA rfl rfl (yX (t := rwT) (xs := s.runs.flatten) (ys := s.out) rfl rfl rfl rfl (.lst _ _) (by omega) rfl) rfl rfl ?_
        refine wY 8 (by kernel_rfl) ?_
        refine qA rfl rfl (yX (t := rwT) (xs := s.runs.flatten ++ s.out) (ys := s.heap) rfl rfl rfl rfl (.lst _ _) (by rw [List.length_append]; omega) rfl) rfl rfl ?_
        refine wY 11 (by kernel_rfl) ?_
        refine qA rfl rfl (yX (t := rwT) (xs := s.runs.flatten ++ s.out ++ s.heap) (ys := s.dfr) rfl rfl rfl rfl (.lst _ _) (by rw [List.length_append, List.length_append]; omega) rfl) rfl rfl ?_
        refine yZ 12 rfl rfl (by kernel_rfl) rfl (fun _ => rfl) rfl ?_
        refine vG (by kernel_rfl) ?_
        repeat' first | refine zL ?_ | refine zA ?_ | refine zQ [] ?_ | (refine isA ?_; refine zf rfl ?_) | (refine isL ?_; refine zV rfl (by kernel_rfl) rfl rfl ?_) | (refine zc rfl ?_; refine zU rfl (by kernel_rfl) rfl rfl ?_) | (refine zr 20 ?_; refine za rfl (zK rfl a4 (.cons (.same rfl) .nil) rfl) rfl ?_) | (refine zq 20 rfl ?_; refine zT rfl (by kernel_rfl) rfl (zK rfl a4 (.cons (.same rfl) .nil) rfl) rfl ?_) | (refine zr 86 ?_; refine za rfl (zK rfl a8 (.cons (zk rfl) (.cons (.same rfl) .nil)) rfl) rfl ?_) | (refine zq 86 rfl ?_; refine zT rfl (by kernel_rfl) rfl (zK rfl a8 (.cons (zk rfl) (.cons (.same rfl) .nil)) rfl) rfl ?_) | (refine uF (x := .tmp 105) ?_; refine za rfl (ym rfl rfl (congrArg I hp) (by omega)) rfl ?_) | (refine uE (x := .tmp 105) rfl ?_; refine zT rfl (by kernel_rfl) rfl (ym rfl rfl (congrArg I hp) (by omega)) rfl ?_) | refine zD ?_ | refine zB _ rfl (by kernel_rfl) ?_ | refine zW rfl ?_ | refine zX rfl ?_ | refine zC ?_ | with_reducible refine zO ?_ | refine zI ?_ | refine zJ ?_ | (with_reducible first | refine zM ?_ | refine zN ?_ | refine zF ?_ | refine zH ?_ | refine zG ?_) | refine zP ?_ | refine zh rfl (fun hbr => ?_) (fun hbr => ?_) | (refine wy ?_; refine yb rfl rfl (fun hbr => ?_) (fun hbr => ?_) <;> (fail_if_success (with_reducible (have hx : true = true := hbr))) <;> (fail_if_success (with_reducible (have hx : false = false := hbr)))) | (refine zc rfl ?_; refine yK rfl rfl rfl rfl (fun hbr => ?_) (fun hbr => ?_) <;> (fail_if_success (with_reducible (have hx : true = true := hbr))) <;> (fail_if_success (with_reducible (have hx : false = false := hbr))))
        all_goals exact yJ rfl rfl (congrArg B (by rw [e1]; clear e1 e2 hp; simp only [*, Bool.true_or, Bool.false_or, Bool.or_true, Bool.or_false, Bool.true_and, Bool.false_and, Bool.and_true, Bool.and_false, Bool.not_true, Bool.not_false, cond_true, cond_false]))
      · have e2 := e2 h
        rw [fW s (by omega) (by omega)] at e2
        repeat' first | refine zL ?_ | refine zA ?_ | refine zQ [] ?_ | (refine isA ?_; refine zf rfl ?_) | (refine isL ?_; refine zV rfl (by kernel_rfl) rfl rfl ?_) | (refine zc rfl ?_; refine zU rfl (by kernel_rfl) rfl rfl ?_) | refine zD ?_ | refine zB _ rfl (by kernel_rfl) ?_ | refine zW rfl ?_ | refine zX rfl ?_ | refine zC ?_ | with_reducible refine zO ?_ | refine zI ?_ | refine zJ ?_ | (with_reducible first | refine zM ?_ | refine zN ?_ | refine zF ?_ | refine zH ?_ | refine zG ?_) | refine zP ?_ | (refine wy ?_; refine yb rfl rfl (fun hbr => ?_) (fun hbr => ?_) <;> (fail_if_success (with_reducible (have hx : true = true := hbr))) <;> (fail_if_success (with_reducible (have hx : false = false := hbr)))) | (refine zc rfl ?_; refine yK rfl rfl rfl rfl (fun hbr => ?_) (fun hbr => ?_) <;> (fail_if_success (with_reducible (have hx : true = true := hbr))) <;> (fail_if_success (with_reducible (have hx : false = false := hbr))))
        all_goals first
          | exact yJ rfl rfl (congrArg B (by rw [e2]; clear e1 e2; simp only [*, Bool.true_or, Bool.false_or, Bool.or_true, Bool.or_false, Bool.true_and, Bool.false_and, Bool.and_true, Bool.and_false, Bool.not_true, Bool.not_false, cond_true, cond_false]))
          | skip
        refine zh rfl (fun q => ?_) (fun q => ?_)
        · repeat' first | refine zL ?_ | refine zA ?_ | refine zQ [] ?_ | (refine isA ?_; refine zf rfl ?_) | (refine isL ?_; refine zV rfl (by kernel_rfl) rfl rfl ?_) | (refine zc rfl ?_; refine zU rfl (by kernel_rfl) rfl rfl ?_) | exact yJ rfl rfl (congrArg B (by rw [e2]; clear e1 e2; simp only [*, Bool.true_or, Bool.false_or, Bool.or_true, Bool.or_false, Bool.true_and, Bool.false_and, Bool.and_true, Bool.and_false, Bool.not_true, Bool.not_false, cond_true, cond_false])) | refine zD ?_ | refine zB _ rfl (by kernel_rfl) ?_ | refine zW rfl ?_ | refine zX rfl ?_ | refine zC ?_ | with_reducible refine zO ?_ | refine zI ?_ | refine zJ ?_ | (with_reducible first | refine zM ?_ | refine zN ?_ | refine zF ?_ | refine zH ?_ | refine zG ?_) | refine zP ?_
        have e3 : vS s = (eqB s.runs.flatten s.input && cond (decide (s.ph = 2)) (vV s) (cond (decide (s.ph = 3)) (uY s) (cond (decide (s.ph = 4)) (uZ s) false))) := by
          rw [e2]
          clear e1 e2
          simp only [*, Bool.true_or, Bool.false_or, Bool.or_true, Bool.or_false, Bool.true_and, Bool.false_and, Bool.and_true, Bool.and_false, Bool.not_true, Bool.not_false, cond_true, cond_false]
        clear e1 e2
        repeat' first | refine zL ?_ | refine zA ?_ | refine zQ [] ?_ | (refine isA ?_; refine zf rfl ?_) | (refine isL ?_; refine zV rfl (by kernel_rfl) rfl rfl ?_) | (refine zc rfl ?_; refine zU rfl (by kernel_rfl) rfl rfl ?_) | refine zD ?_ | refine zB _ rfl (by kernel_rfl) ?_ | refine zW rfl ?_ | refine zX rfl ?_ | refine zC ?_ | with_reducible refine zO ?_ | refine zI ?_ | refine zJ ?_ | (with_reducible first | refine zM ?_ | refine zN ?_ | refine zF ?_ | refine zH ?_ | refine zG ?_) | refine zP ?_
        refine zh rfl (fun h2 => ?_) (fun h2 => ?_)
        · rw [h2, cond_true] at e3
          repeat' first | refine zL ?_ | refine zA ?_ | refine zQ [] ?_ | (refine isA ?_; refine zf rfl ?_) | (refine isL ?_; refine zV rfl (by kernel_rfl) rfl rfl ?_) | (refine zc rfl ?_; refine zU rfl (by kernel_rfl) rfl rfl ?_) | refine zD ?_ | refine zB _ rfl (by kernel_rfl) ?_ | refine zW rfl ?_ | refine zX rfl ?_ | refine zC ?_ | with_reducible refine zO ?_ | refine zI ?_ | refine zJ ?_ | (with_reducible first | refine zM ?_ | refine zN ?_ | refine zF ?_ | refine zH ?_ | refine zG ?_) | refine zP ?_
          refine yK rfl rfl rfl rfl (fun h3 => ?_) (fun h3 => ?_)
          · repeat' first | refine zL ?_ | refine zA ?_ | refine zQ [] ?_ | (refine isA ?_; refine zf rfl ?_) | (refine isL ?_; refine zV rfl (by kernel_rfl) rfl rfl ?_) | (refine zc rfl ?_; refine zU rfl (by kernel_rfl) rfl rfl ?_) | exact yJ rfl rfl (congrArg B (by rw [e3, pa h3, Bool.and_false])) | refine zD ?_ | refine zB _ rfl (by kernel_rfl) ?_ | refine zW rfl ?_ | refine zX rfl ?_ | refine zC ?_ | with_reducible refine zO ?_ | refine zI ?_ | refine zJ ?_ | (with_reducible first | refine zM ?_ | refine zN ?_ | refine zF ?_ | refine zH ?_ | refine zG ?_) | refine zP ?_
          · obtain ⟨a, b, rest, hr⟩ := pc h3
            rw [pb hr] at e3
            have ra : s.runs[0]? = some a := by rw [hr]; rfl
            have rb : s.runs[1]? = some b := by rw [hr]; rfl
            have la := g5.at ra
            have lb := g5.at rb
            have lab : a.length + b.length ≤ 10000000 := by rw [hr] at g6; simp only [tot, List.map_cons, List.sum_cons] at g6; omega
            repeat' first | refine zL ?_ | refine zA ?_ | refine zQ [] ?_ | (refine isA ?_; refine zf rfl ?_) | (refine isL ?_; refine zV rfl (by kernel_rfl) rfl rfl ?_) | (refine zc rfl ?_; refine zU rfl (by kernel_rfl) rfl rfl ?_) | (refine zr 66 ?_; refine za rfl (zK rfl (uI _ _ _) (.cons (.same rfl) (.cons (.same rfl) (.cons (.same rfl) .nil))) rfl) rfl ?_) | (refine zq 66 rfl ?_; refine zT rfl (by kernel_rfl) rfl (zK rfl (uI _ _ _) (.cons (.same rfl) (.cons (.same rfl) (.cons (.same rfl) .nil))) rfl) rfl ?_) | (refine yB (x := .tmp 138) ?_; refine za rfl (zz (t := rnT) (z := a) rfl rfl rfl rfl (Int.natCast_nonneg 0) ra) rfl ?_) | (refine yA (x := .tmp 138) rfl ?_; refine zT rfl (by kernel_rfl) rfl (zz (t := rnT) (z := a) rfl rfl rfl rfl (Int.natCast_nonneg 0) ra) rfl ?_) | (refine yB (x := .tmp 150) ?_; refine za rfl (zz (t := rnT) (z := b) rfl rfl rfl rfl (Int.natCast_nonneg 1) rb) rfl ?_) | (refine yA (x := .tmp 150) rfl ?_; refine zT rfl (by kernel_rfl) rfl (zz (t := rnT) (z := b) rfl rfl rfl rfl (Int.natCast_nonneg 1) rb) rfl ?_) | refine zD ?_ | refine zB _ rfl (by kernel_rfl) ?_ | refine zW rfl ?_ | refine zX rfl ?_ | refine zC ?_ | with_reducible refine zO ?_ | refine zI ?_ | refine zJ ?_ | (with_reducible first | refine zM ?_ | refine zN ?_ | refine zF ?_ | refine zH ?_ | refine zG ?_) | refine zP ?_ | (refine wy ?_; refine yb rfl rfl (fun hbr => ?_) (fun hbr => ?_) <;> (fail_if_success (with_reducible (have hx : true = true := hbr))) <;> (fail_if_success (with_reducible (have hx : false = false := hbr)))) | (refine zc rfl ?_; refine yK rfl rfl rfl rfl (fun hbr => ?_) (fun hbr => ?_) <;> (fail_if_success (with_reducible (have hx : true = true := hbr))) <;> (fail_if_success (with_reducible (have hx : false = false := hbr))))
            all_goals first
              | exact yJ rfl rfl (congrArg B (by rw [e3]; simp only [*, Bool.true_or, Bool.false_or, Bool.or_true, Bool.or_false, Bool.true_and, Bool.false_and, Bool.and_true, Bool.and_false, Bool.not_true, Bool.not_false, cond_true, cond_false]))
              | skip
            refine zh rfl (fun p => ?_) (fun p => ?_)
            · repeat' first | refine zL ?_ | refine zA ?_ | refine zQ [] ?_ | (refine isA ?_; refine zf rfl ?_) | (refine isL ?_; refine zV rfl (by kernel_rfl) rfl rfl ?_) | (refine zc rfl ?_; refine zU rfl (by kernel_rfl) rfl rfl ?_) | exact yJ rfl rfl (congrArg B (by rw [e3]; simp only [*, Bool.true_or, Bool.false_or, Bool.or_true, Bool.or_false, Bool.true_and, Bool.false_and, Bool.and_true, Bool.and_false, Bool.not_true, Bool.not_false, cond_true, cond_false])) | refine zD ?_ | refine zB _ rfl (by kernel_rfl) ?_ | refine zW rfl ?_ | refine zX rfl ?_ | refine zC ?_ | with_reducible refine zO ?_ | refine zI ?_ | refine zJ ?_ | (with_reducible first | refine zM ?_ | refine zN ?_ | refine zF ?_ | refine zH ?_ | refine zG ?_) | refine zP ?_
            have p1 : (!inV s.lp 0 a.length) = false := by assumption
            have p1 : inV s.lp 0 a.length = true := by simpa using p1
            have p2 : inV s.rp 0 b.length = true := by simpa using p
            rw [p1, p2] at e3
            simp only [Bool.true_or, Bool.false_or, Bool.or_true, Bool.or_false, Bool.true_and, Bool.false_and, Bool.and_true, Bool.and_false, Bool.not_true, Bool.not_false, cond_true, cond_false] at e3
            obtain ⟨q1, q2⟩ := xS.1 p1
            obtain ⟨q3, q4⟩ := xS.1 p2
            obtain ⟨i, hi⟩ := Int.eq_ofNat_of_zero_le q1
            obtain ⟨j, hj⟩ := Int.eq_ofNat_of_zero_le q3
            have ei : s.lp.toNat = i := by omega
            have ej : s.rp.toNat = j := by omega
            rw [ei, ej] at e3
            have w1 : IntKind.i64.wrap (s.lp + s.rp) = ((i + j : Nat) : Int) := by rw [hi, hj, IntKind.wrap_i64]; omega
            have li : (a.take i).length ≤ 100000000 := by simp; omega
            have lj : (b.take j).length ≤ 100000000 := by simp; omega
            have m1 := (dY (a.take i) (b.take j) li lj).frozen (zk rfl)
            have m2 := (dY a b (by omega) (by omega)).frozen (zk rfl)
            have n2 := tW a b
            have n1 := tW (a.take i) (b.take j)
            have x1 := nh (mgV (a.take i) (b.take j)) s.out (by omega)
            rw [show xj (mgV (a.take i) (b.take j)) s.out = xj s.out (mgV (a.take i) (b.take j)) from by rw [Bool.eq_iff_iff, vg, vg]; exact eq_comm] at x1
            have x2 := nh s.out ((mgV a b).take (i + j)) (by omega)
            generalize mgV (a.take i) (b.take j) = M1 at m1 x1 e3 n1
            generalize mgV a b = M2 at m2 x2 e3 n2
            repeat' first | refine zL ?_ | refine zA ?_ | refine zQ [] ?_ | (refine isA ?_; refine zf rfl ?_) | (refine isL ?_; refine zV rfl (by kernel_rfl) rfl rfl ?_) | (refine zc rfl ?_; refine zU rfl (by kernel_rfl) rfl rfl ?_) | (refine uF (x := .tmp 162) ?_; refine za rfl (ym rfl rfl (congrArg I hi) (by omega)) rfl ?_) | (refine uE (x := .tmp 162) rfl ?_; refine zT rfl (by kernel_rfl) rfl (ym rfl rfl (congrArg I hi) (by omega)) rfl ?_) | (refine uF (x := .tmp 170) ?_; refine za rfl (ym rfl rfl (congrArg I hj) (by omega)) rfl ?_) | (refine uE (x := .tmp 170) rfl ?_; refine zT rfl (by kernel_rfl) rfl (ym rfl rfl (congrArg I hj) (by omega)) rfl ?_) | (refine uF (x := .tmp 187) ?_; refine za rfl (ym rfl rfl (congrArg I w1) (by omega)) rfl ?_) | (refine uE (x := .tmp 187) rfl ?_; refine zT rfl (by kernel_rfl) rfl (ym rfl rfl (congrArg I w1) (by omega)) rfl ?_) | (refine yB (x := .tmp 159) ?_; refine za rfl (zz (t := rnT) (z := a) rfl rfl rfl rfl (Int.natCast_nonneg 0) ra) rfl ?_) | (refine yA (x := .tmp 159) rfl ?_; refine zT rfl (by kernel_rfl) rfl (zz (t := rnT) (z := a) rfl rfl rfl rfl (Int.natCast_nonneg 0) ra) rfl ?_) | (refine yB (x := .tmp 167) ?_; refine za rfl (zz (t := rnT) (z := b) rfl rfl rfl rfl (Int.natCast_nonneg 1) rb) rfl ?_) | (refine yA (x := .tmp 167) rfl ?_; refine zT rfl (by kernel_rfl) rfl (zz (t := rnT) (z := b) rfl rfl rfl rfl (Int.natCast_nonneg 1) rb) rfl ?_) | (refine yB (x := .tmp 178) ?_; refine za rfl (zz (t := rnT) (z := a) rfl rfl rfl rfl (Int.natCast_nonneg 0) ra) rfl ?_) | (refine yA (x := .tmp 178) rfl ?_; refine zT rfl (by kernel_rfl) rfl (zz (t := rnT) (z := a) rfl rfl rfl rfl (Int.natCast_nonneg 0) ra) rfl ?_) | (refine yB (x := .tmp 183) ?_; refine za rfl (zz (t := rnT) (z := b) rfl rfl rfl rfl (Int.natCast_nonneg 1) rb) rfl ?_) | (refine yA (x := .tmp 183) rfl ?_; refine zT rfl (by kernel_rfl) rfl (zz (t := rnT) (z := b) rfl rfl rfl rfl (Int.natCast_nonneg 1) rb) rfl ?_) | (refine zr 87 (x := #[.tmp 165, .tmp 173]) ?_; refine za rfl (zK rfl m1 (.cons (.same rfl) (.cons (.same rfl) .nil)) rfl) rfl ?_) | (refine zq 87 (x := #[.tmp 165, .tmp 173]) rfl ?_; refine zT rfl (by kernel_rfl) rfl (zK rfl m1 (.cons (.same rfl) (.cons (.same rfl) .nil)) rfl) rfl ?_) | (refine zr 87 (x := #[.tmp 181, .tmp 186]) ?_; refine za rfl (zK rfl m2 (.cons (.same rfl) (.cons (.same rfl) .nil)) rfl) rfl ?_) | (refine zq 87 (x := #[.tmp 181, .tmp 186]) rfl ?_; refine zT rfl (by kernel_rfl) rfl (zK rfl m2 (.cons (.same rfl) (.cons (.same rfl) .nil)) rfl) rfl ?_) | (refine zr 72 (x := #[.tmp 196, .tmp 198]) ?_; refine za rfl (zK rfl x1 (.cons (.same rfl) (.cons (.same rfl) .nil)) rfl) rfl ?_) | (refine zq 72 (x := #[.tmp 196, .tmp 198]) rfl ?_; refine zT rfl (by kernel_rfl) rfl (zK rfl x1 (.cons (.same rfl) (.cons (.same rfl) .nil)) rfl) rfl ?_) | (refine zr 72 (x := #[.tmp 176, .tmp 193]) ?_; refine za rfl (zK rfl x2 (.cons (.same rfl) (.cons (.same rfl) .nil)) rfl) rfl ?_) | (refine zq 72 (x := #[.tmp 176, .tmp 193]) rfl ?_; refine zT rfl (by kernel_rfl) rfl (zK rfl x2 (.cons (.same rfl) (.cons (.same rfl) .nil)) rfl) rfl ?_) | (refine zr 85 ?_; refine za rfl (zK rfl a5 (.cons (.same rfl) .nil) rfl) rfl ?_) | (refine zq 85 rfl ?_; refine zT rfl (by kernel_rfl) rfl (zK rfl a5 (.cons (.same rfl) .nil) rfl) rfl ?_) | (refine zr 86 ?_; refine za rfl (zK rfl a6 (.cons (.same rfl) (.cons (.same rfl) .nil)) rfl) rfl ?_) | (refine zq 86 rfl ?_; refine zT rfl (by kernel_rfl) rfl (zK rfl a6 (.cons (.same rfl) (.cons (.same rfl) .nil)) rfl) rfl ?_) | refine zD ?_ | refine zB _ rfl (by kernel_rfl) ?_ | refine zW rfl ?_ | refine zX rfl ?_ | refine zC ?_ | with_reducible refine zO ?_ | refine zI ?_ | refine zJ ?_ | (with_reducible first | refine zM ?_ | refine zN ?_ | refine zF ?_ | refine zH ?_ | refine zG ?_) | refine zP ?_ | (refine wy ?_; refine yb rfl rfl (fun hbr => ?_) (fun hbr => ?_) <;> (fail_if_success (with_reducible (have hx : true = true := hbr))) <;> (fail_if_success (with_reducible (have hx : false = false := hbr)))) | (refine zc rfl ?_; refine yK rfl rfl rfl rfl (fun hbr => ?_) (fun hbr => ?_) <;> (fail_if_success (with_reducible (have hx : true = true := hbr))) <;> (fail_if_success (with_reducible (have hx : false = false := hbr))))
            all_goals exact yJ rfl rfl (congrArg B (by rw [e3]; clear hi hj q1 q2 q3 q4; simp only [*, Bool.true_or, Bool.false_or, Bool.or_true, Bool.or_false, Bool.true_and, Bool.false_and, Bool.and_true, Bool.and_false, Bool.not_true, Bool.not_false, cond_true, cond_false]))
        · rw [h2, cond_false, vTail] at e3
          repeat' first | refine zL ?_ | refine zA ?_ | refine zQ [] ?_ | (refine isA ?_; refine zf rfl ?_) | (refine isL ?_; refine zV rfl (by kernel_rfl) rfl rfl ?_) | (refine zc rfl ?_; refine zU rfl (by kernel_rfl) rfl rfl ?_) | (refine zr 85 ?_; refine za rfl (zK rfl a5 (.cons (.same rfl) .nil) rfl) rfl ?_) | (refine zq 85 rfl ?_; refine zT rfl (by kernel_rfl) rfl (zK rfl a5 (.cons (.same rfl) .nil) rfl) rfl ?_) | (refine zr 86 ?_; refine za rfl (zK rfl a6 (.cons (.same rfl) (.cons (.same rfl) .nil)) rfl) rfl ?_) | (refine zq 86 rfl ?_; refine zT rfl (by kernel_rfl) rfl (zK rfl a6 (.cons (.same rfl) (.cons (.same rfl) .nil)) rfl) rfl ?_) | refine zD ?_ | refine zB _ rfl (by kernel_rfl) ?_ | refine zW rfl ?_ | refine zX rfl ?_ | refine zC ?_ | with_reducible refine zO ?_ | refine zI ?_ | refine zJ ?_ | (with_reducible first | refine zM ?_ | refine zN ?_ | refine zF ?_ | refine zH ?_ | refine zG ?_) | refine zP ?_ | (refine wy ?_; refine yb rfl rfl (fun hbr => ?_) (fun hbr => ?_) <;> (fail_if_success (with_reducible (have hx : true = true := hbr))) <;> (fail_if_success (with_reducible (have hx : false = false := hbr)))) | (refine zc rfl ?_; refine yK rfl rfl rfl rfl (fun hbr => ?_) (fun hbr => ?_) <;> (fail_if_success (with_reducible (have hx : true = true := hbr))) <;> (fail_if_success (with_reducible (have hx : false = false := hbr))))
          all_goals first
            | exact yJ rfl rfl (congrArg B (by rw [e3]; simp only [*, Bool.true_or, Bool.false_or, Bool.or_true, Bool.or_false, Bool.true_and, Bool.false_and, Bool.and_true, Bool.and_false, Bool.not_true, Bool.not_false, cond_true, cond_false]))
            | skip
          refine zh rfl (fun q => ?_) (fun q => ?_)
          · repeat' first | refine zL ?_ | refine zA ?_ | refine zQ [] ?_ | (refine isA ?_; refine zf rfl ?_) | (refine isL ?_; refine zV rfl (by kernel_rfl) rfl rfl ?_) | (refine zc rfl ?_; refine zU rfl (by kernel_rfl) rfl rfl ?_) | exact yJ rfl rfl (congrArg B (by rw [e3]; simp only [Bool.not_eq_true'] at q; rw [q, Bool.false_and])) | refine zD ?_ | refine zB _ rfl (by kernel_rfl) ?_ | refine zW rfl ?_ | refine zX rfl ?_ | refine zC ?_ | with_reducible refine zO ?_ | refine zI ?_ | refine zJ ?_ | (with_reducible first | refine zM ?_ | refine zN ?_ | refine zF ?_ | refine zH ?_ | refine zG ?_) | refine zP ?_
          have q2 : eqB s.runs.flatten s.input = true := by simpa using q
          have w1 : IntKind.i64.wrap ((s.input.length : Int) - 1) = (s.input.length : Int) - 1 := by rw [IntKind.wrap_i64]; omega
          rw [q2, ← w1] at e3
          repeat' first | refine zL ?_ | refine zA ?_ | refine zQ [] ?_ | (refine isA ?_; refine zf rfl ?_) | (refine isL ?_; refine zV rfl (by kernel_rfl) rfl rfl ?_) | (refine zc rfl ?_; refine zU rfl (by kernel_rfl) rfl rfl ?_) | refine zD ?_ | refine zB _ rfl (by kernel_rfl) ?_ | refine zW rfl ?_ | refine zX rfl ?_ | refine zC ?_ | with_reducible refine zO ?_ | refine zI ?_ | refine zJ ?_ | (with_reducible first | refine zM ?_ | refine zN ?_ | refine zF ?_ | refine zH ?_ | refine zG ?_) | refine zP ?_
          refine zh rfl (fun h3 => ?_) (fun h3 => ?_)
          · rw [h3, cond_true] at e3
            repeat' first | refine zL ?_ | refine zA ?_ | refine zQ [] ?_ | (refine isA ?_; refine zf rfl ?_) | (refine isL ?_; refine zV rfl (by kernel_rfl) rfl rfl ?_) | (refine zc rfl ?_; refine zU rfl (by kernel_rfl) rfl rfl ?_) | (refine zr 66 ?_; refine za rfl (zK rfl (uI _ _ _) (.cons (.same rfl) (.cons (.same rfl) (.cons (.same rfl) .nil))) rfl) rfl ?_) | (refine zq 66 rfl ?_; refine zT rfl (by kernel_rfl) rfl (zK rfl (uI _ _ _) (.cons (.same rfl) (.cons (.same rfl) (.cons (.same rfl) .nil))) rfl) rfl ?_) | refine zD ?_ | refine zB _ rfl (by kernel_rfl) ?_ | refine zW rfl ?_ | refine zX rfl ?_ | refine zC ?_ | with_reducible refine zO ?_ | refine zI ?_ | refine zJ ?_ | (with_reducible first | refine zM ?_ | refine zN ?_ | refine zF ?_ | refine zH ?_ | refine zG ?_) | refine zP ?_ | (refine wy ?_; refine yb rfl rfl (fun hbr => ?_) (fun hbr => ?_) <;> (fail_if_success (with_reducible (have hx : true = true := hbr))) <;> (fail_if_success (with_reducible (have hx : false = false := hbr)))) | (refine zc rfl ?_; refine yK rfl rfl rfl rfl (fun hbr => ?_) (fun hbr => ?_) <;> (fail_if_success (with_reducible (have hx : true = true := hbr))) <;> (fail_if_success (with_reducible (have hx : false = false := hbr))))
            all_goals exact yJ rfl rfl (congrArg B (by rw [e3]; clear w1; simp only [*, Bool.true_or, Bool.false_or, Bool.or_true, Bool.or_false, Bool.true_and, Bool.false_and, Bool.and_true, Bool.and_false, Bool.not_true, Bool.not_false, cond_true, cond_false]))
          · rw [h3, cond_false] at e3
            repeat' first | refine zL ?_ | refine zA ?_ | refine zQ [] ?_ | (refine isA ?_; refine zf rfl ?_) | (refine isL ?_; refine zV rfl (by kernel_rfl) rfl rfl ?_) | (refine zc rfl ?_; refine zU rfl (by kernel_rfl) rfl rfl ?_) | refine zD ?_ | refine zB _ rfl (by kernel_rfl) ?_ | refine zW rfl ?_ | refine zX rfl ?_ | refine zC ?_ | with_reducible refine zO ?_ | refine zI ?_ | refine zJ ?_ | (with_reducible first | refine zM ?_ | refine zN ?_ | refine zF ?_ | refine zH ?_ | refine zG ?_) | refine zP ?_ | (refine wy ?_; refine yb rfl rfl (fun hbr => ?_) (fun hbr => ?_) <;> (fail_if_success (with_reducible (have hx : true = true := hbr))) <;> (fail_if_success (with_reducible (have hx : false = false := hbr)))) | (refine zc rfl ?_; refine yK rfl rfl rfl rfl (fun hbr => ?_) (fun hbr => ?_) <;> (fail_if_success (with_reducible (have hx : true = true := hbr))) <;> (fail_if_success (with_reducible (have hx : false = false := hbr))))
            all_goals exact yJ rfl rfl (congrArg B (by rw [e3]; clear w1; simp only [*, Bool.true_or, Bool.false_or, Bool.or_true, Bool.or_false, Bool.true_and, Bool.false_and, Bool.and_true, Bool.and_false, Bool.not_true, Bool.not_false, cond_true, cond_false]))
end Go.Proofs.Ytojcojanokhnaaa.Ab
namespace Go.Proofs.Ytojcojanokhnaaa.Ab
open Go.RowKit
def rmV (s : So) : Int := cond (vS s) (remV s) 0
end Go.Proofs.Ytojcojanokhnaaa.Ab
namespace Go.Proofs.Ytojcojanokhnaaa.Ab
open Go.RowKit
section
variable {P : Program}
def vN (r : Reg) : Reg := { r with mode := 2 }
end
theorem wv {P : Program} (id : Nat) {ops : Array Oper} {b : Bool} {y : Code} {Q : Exit → St → Prop} {S : St} (T : St) (h : AW P (.region id ops b) (fun e S' => e = .normal ∧ Sub T S') S) (k : AW P y Q T) : AW P (.seq (.region id ops b) y) Q S :=
  zL ⟨fun C φ a w hI => wp_mono (h.out C φ a w hI) fun e a' w' hq => by
    obtain ⟨S', φ1, hI', he, hs⟩ := hq
    subst he
    obtain ⟨φ2, h2⟩ := hs C φ1 a' w' hI'
    exact ⟨T, φ2, h2, k⟩⟩
@[irreducible] def Hold (p : Prop) : Prop := p
theorem xb {p : Prop} (h : Hold p) : p := by unfold Hold at h; exact h
theorem wI {p : Prop} (h : p) : Hold p := by unfold Hold; exact h
end Go.Proofs.Ytojcojanokhnaaa.Ab
namespace Go.Proofs.Ytojcojanokhnaaa.Ab
open Go.RowKit
theorem eF {l : List V} {H : List Reg} {al : Bool} {t : Tmp} {us : List Tmp} {n : Nat} {v r : V} {K : List Reg} (ψ : List Nat) (hv : CellIs l H t n v) (hr : Le ψ r (.tup (v :: us.map fun u => (l[u]?).getD .any))) (hH : HLe ψ K H) (hal : al = true ∨ (tJ r = true ∧ ∀ q ∈ K, q.mode ≠ 1 ∧ (q.mode = 0 → vw q.cells))) :
    (Exit.ret = .ret ∨ Exit.ret = .normal) ∧ ∃ v, CellIs l H t n v ∧ Out al r K (.tup (v :: us.map fun u => (l[u]?).getD .any)) ⟨l, H, 0⟩ := ⟨Or.inl rfl, v, hv, t9 (S := ⟨l, H, 0⟩) ψ (fun i hi => absurd hi (Nat.not_lt_zero _)) hH hr hal⟩
def nX (ix : List Nat) (rs : List Rn) : List V := List.zipWith (fun i x => V.sl i 0 x.length) ix rs
theorem jQ : ∀ (b : Nat) (rs : List Rn), nC b rs = nX (List.range' b rs.length) rs
  | _, [] => rfl
  | b, x :: rs => by
    show V.sl b 0 x.length :: nC (b + 1) rs = _
    rw [jQ (b + 1) rs]
    rfl
theorem jP {ix jx : List Nat} {rs ss : List Rn} (h : ix.length = rs.length) : nX (ix ++ jx) (rs ++ ss) = nX ix rs ++ nX jx ss := by
  unfold nX
  exact List.zipWith_append h
theorem mE {ψ : List Nat} : ∀ {b : Nat} {ix : List Nat} {rs : List Rn}, ix.length = rs.length → (∀ j, j < rs.length → ψ[b + j]? = ix[j]?) → Les ψ (nC b rs) (nX ix rs)
  | b, ix, [], hl, h => by
    rw [List.eq_nil_of_length_eq_zero hl]
    exact zj
  | b, [], x :: rs, hl, h => by simp at hl
  | b, i :: ix, x :: rs, hl, h => by
    refine zZ (zm (by have := h 0 (by simp); simpa using this) rfl) (mE (by simpa using hl) fun j hj => ?_)
    have := h (j + 1) (by simp; omega)
    rw [show b + 1 + j = b + (j + 1) by omega]
    simpa using this
theorem qZ {H : List Reg} {hs ix : List Nat} {K1 : List Reg} {rs : List Rn} (hl : ix.length = rs.length) (hn : (hs ++ ix).Nodup) (h1 : HLes (hs ++ ix) H hs K1) (h2 : ∀ (j i : Nat) (x : Rn), ix[j]? = some i → rs[j]? = some x → H[i]? = some (rwR x)) :
    HLe (hs ++ ix) (K1 ++ nR rwT 78 rs) H := by
  obtain ⟨e1, e2⟩ := h1.get
  refine ⟨by simp [e1, nR, hl], hn, fun i h hi => ?_⟩
  rcases Nat.lt_or_ge i hs.length with hlt | hge
  · rw [List.getElem?_append_left hlt] at hi
    obtain ⟨r, r', q1, q2, q3⟩ := e2 i h hi
    exact ⟨r, r', zb q1, q2, q3⟩
  · rw [List.getElem?_append_right hge] at hi
    have hlt := (List.getElem?_eq_some_iff.1 hi).1
    obtain ⟨x, hx⟩ : ∃ z, rs[i - hs.length]? = some z := ⟨_, List.getElem?_eq_getElem (by omega)⟩
    refine ⟨rwR x, rwR x, ?_, h2 _ _ _ hi hx, fun _ => ⟨rfl, rfl, rfl, zY (zE _ _)⟩⟩
    rw [List.getElem?_append_right (by omega), ← e1]
    exact xQ hx
theorem jL (hs ix : List Nat) (j : Nat) : (hs ++ ix)[hs.length + j]? = ix[j]? := by
  rw [List.getElem?_append_right (Nat.le_add_right _ _), Nat.add_sub_cancel_left]
theorem k9 (b n : Nat) (s : So) : (soR b s).map (shR n) = soR (b + n) s := by
  have h : ∀ xs : List Rw, shR n (rwR xs) = rwR xs := fun xs => by
    show ({ rwR xs with cells := vx n (rwT.flat xs) } : Reg) = rwR xs
    rw [yT n (yi (zE rwT xs))]
  rw [List.map_cons, List.map_cons, List.map_cons, List.map_cons, List.map_cons, h, h, h, h, dL]
  simp only [shR, qt, Nat.add_right_comm b 5 n]
theorem jB (b n : Nat) (s : So) : shV n (.agg (soO b s)) = .agg (soO (b + n) s) := by
  simp only [shV, vx, Nat.add_right_comm]
abbrev zS : List V := [ww, I 0, ww, ww, ww, ww, I 0, I 0, I 0, I 0]
abbrev bxS (cs : List V) : Reg := ⟨27, 10, cs, 0⟩
abbrev stH (s t : So) (r : List Rw) : List Reg := bxS (soE s) :: bxS zS :: bxS (soO 4 t) :: rwR r :: soR 4 t
theorem qe (g : Int) : zy Go.Proofs.Try.prog 57 [I g] [] (B (inV g 8 60)) [] false := by
  refine zw [2] Go.Proofs.Try.func57 rfl rfl ?_
  simp only [Go.Proofs.Try.ntmps57, List.length_cons, List.length_nil, Nat.reduceAdd, Nat.reduceSub, List.replicate_succ, List.replicate_zero, List.cons_append, List.nil_append]
  repeat' first | refine zL ?_ | refine zA ?_ | refine zQ [] ?_ | (refine isA ?_; refine zf rfl ?_) | (refine isL ?_; refine zV rfl (by kernel_rfl) rfl rfl ?_) | (refine zc rfl ?_; refine zU rfl (by kernel_rfl) rfl rfl ?_) | (refine zr 75 ?_; refine za rfl (zK rfl (x3 g 8 60) (.cons (.same rfl) (.cons (.same rfl) (.cons (.same rfl) .nil))) rfl) rfl ?_) | (refine zq 75 rfl ?_; refine zT rfl (by kernel_rfl) rfl (zK rfl (x3 g 8 60) (.cons (.same rfl) (.cons (.same rfl) (.cons (.same rfl) .nil))) rfl) rfl ?_) | exact yJ rfl rfl rfl | refine zD ?_ | refine zB _ rfl (by kernel_rfl) ?_ | refine zW rfl ?_ | refine zX rfl ?_ | refine zC ?_ | with_reducible refine zO ?_ | refine zI ?_ | refine zJ ?_ | (with_reducible first | refine zM ?_ | refine zN ?_ | refine zF ?_ | refine zH ?_ | refine zG ?_) | refine zP ?_
abbrev stL (s : So) (g : Int) (n : Nat) : List V := (.any :: (I g) :: (.ptr 0 0) :: .any :: (.ptr 1 0) :: .any :: .any :: (.ptr 2 0) :: (.sl 3 0 n) :: .any :: .any :: .any :: .any :: .any :: .any :: .any :: .any :: .any :: .any :: .any :: .any :: .any :: .any :: .any :: .any :: .any :: .any :: .any :: .any :: .any :: .any :: .any :: .any :: .any :: .any :: .any :: .any :: .any :: .any :: .any :: .any :: .any :: .any :: .any :: .any :: .any :: .any :: .any :: .any :: .any :: .any :: .any :: .any :: .any :: .any :: .any :: .any :: .any :: .any :: .any :: .any :: .any :: .any :: .any :: .any :: .any :: .any :: .any :: .any :: .any :: .any :: .any :: .any :: .any :: .any :: .any :: .any :: .any :: .any :: .any :: .any :: .any :: .any :: .any :: .any :: .any :: .any :: .any :: .any :: .any :: .any :: .any :: .any :: .any :: .any :: .any :: .any :: .any :: .any :: .any :: .any :: .any :: .any :: .any :: .any :: .any :: .any :: .any :: .any :: .any :: .any :: .any :: .any :: .any :: .any :: .any :: .any :: .any :: .any :: .any :: .any :: .any :: .any :: .any :: .any :: .any :: .any :: .any :: .any :: .any :: .any :: .any :: .any :: .any :: .any :: .any :: .any :: .any :: .any :: .any :: .any :: .any :: .any :: .any :: .any :: .any :: .any :: .any :: .any :: .any :: .any :: .any :: .any :: .any :: .any :: .any :: .any :: .any :: .any :: .any :: .any :: .any :: .any :: .any :: .any :: .any :: .any :: .any :: .any :: .any :: .any :: .any :: .any :: .any :: .any :: .any :: .any :: .any :: .any :: .any :: .any :: .any :: .any :: .any :: .any :: .any :: .any :: .any :: .any :: .any :: .any :: .any :: .any :: .any :: .any :: .any :: .any :: .any :: .any :: .any :: .any :: .any :: .any :: .any :: .any :: .any :: .any :: .any :: .any :: .any :: .any :: .any :: .any :: .any :: .any :: .any :: .any :: .any :: .any :: .any :: .any :: .any :: .any :: .any :: .any :: .any :: .any :: .any :: .any :: .any :: .any :: .any :: .any :: .any :: .any :: .any :: .any :: .any :: .any :: .any :: .any :: .any :: .any :: .any :: .any :: .any :: .any :: .any :: .any :: [])
abbrev stT (s t : So) (g : Int) (r : List Rw) : St := ⟨stL s g r.length, stH s t r, 0⟩
noncomputable def up : Code := match (Go.Proofs.Try.f13).body with
  | some (.seq _ (.seq _ (.seq _ (.seq _ (.seq m _))))) => m
  | _ => .skip
theorem uG {a0 a1 a2 a3 a4 a5 a6 a7 a8 x : Reg} {L : List Reg} {j : Nat} (h : L[j]? = some x) : (a0 :: a1 :: a2 :: a3 :: a4 :: a5 :: a6 :: a7 :: a8 :: L)[9 + j]? = some x := by
  rw [Nat.add_comm]; exact h
theorem pA {H : List Reg} {s : So} {h1 h2 h3 h4 h5 b : Nat} (e1 : H[h1]? = some (rwR s.input)) (e2 : H[h2]? = some (rwR s.heap)) (e3 : H[h3]? = some (rwR s.dfr)) (e4 : H[h4]? = some (rwR s.out)) (e5 : H[h5]? = some ⟨84, 1, nC b s.runs, 0⟩) (e6 : ∀ j x, s.runs[j]? = some x → H[b + j]? = some (rwR x)) :
    Pur true H (.agg [.sl h1 0 s.input.length, I s.pos, .sl h2 0 s.heap.length, .sl h3 0 s.dfr.length, .sl h4 0 s.out.length, .sl h5 0 s.runs.length, I s.lp, I s.rp, I s.ph, I s.wr]) (.agg (soE s)) :=
  .agg (.cons (zk e1) (.cons (.same rfl) (.cons (zk e2) (.cons (zk e3) (.cons (zk e4) (.cons (jJ e5 e6) (.cons (.same rfl) (.cons (.same rfl) (.cons (.same rfl) (.cons (.same rfl) .nil))))))))))
theorem z7 {a0 a1 a2 a3 a4 a5 a6 a7 a8 x : Reg} {L : List Reg} {j : Nat} (h : L[j]? = some x) : (a0 :: a1 :: a2 :: a3 :: a4 :: a5 :: a6 :: a7 :: a8 :: L)[j + 9]? = some x := h
theorem qx {cs vs : List V} (h : vs.length = cs.length) : yk cs 0 vs = vs := by
  unfold yk
  rw [List.take_zero, List.nil_append, Nat.zero_add, h, List.drop_length, List.append_nil]
theorem wM {P : Program} {o : Oper} {ρ : Operand → V} {L : List Reg} {N : Reg} {h t n : Nat} {x y : Operand} {vs : List V} [ht : Ag P t n] (ho : o.op = .store t x y) (hx : ρ x = .ptr h 0) (hL : L.length = h) (hy : ρ y = .agg vs) (hn : vs.length = n) (h1 : ∀ c ∈ vs, vo c = true) (hm : N.mode = 0) (hc : N.cells.length = n) : z8 P o ρ (L ++ [N]) (.k undef) (L ++ [{ N with cells := vs }]) := by
  have := wC (P := P) (o := o) (ρ := ρ) (H := L ++ [N]) ho hx hy hn h1 (zg hL) hm (by omega)
  rw [sf hL, qx (by omega)] at this
  exact this
theorem xc {P : Program} {o : Oper} {ρ : Operand → V} {H : List Reg} {N : Reg} {h t n : Nat} {x : Operand} [ht : Ag P t n] (ho : o.op = .load t x) (hx : ρ x = .ptr h 0) (hH : H[h]? = some N) (hm : Nat.ble N.mode 1 = true) (hc : N.cells.length = n) : z8 P o ρ H (.agg N.cells) H := by
  have := wL (P := P) (o := o) (n := n) (ρ := ρ) (H := H) ho hx hH (Nat.le_of_ble_eq_true hm) (by omega : 0 + n ≤ N.cells.length)
  rw [List.drop_zero, List.take_of_length_le (by omega)] at this
  exact this
theorem wi (r : Rw) : ∀ c ∈ rwE r, vo c = true := fun c hc => by
  simp only [rwE, List.mem_cons, List.not_mem_nil, or_false] at hc
  rcases hc with rfl | rfl | rfl <;> rfl
theorem wW {s t : So} {r : List Rw} {l lT : List V} {H : List Reg} (hs ix : List Nat) (hl9 : hs.length = 9) (hl : ix.length = t.runs.length) (hn : (hs ++ ix).Nodup)
    (h1 : HLes (hs ++ ix) H hs [bxS (soE s), bxS zS, bxS (soO 4 t), rwR r, rwR t.input, rwR t.heap, rwR t.dfr, rwR t.out, ⟨84, 1, nC 9 t.runs, 0⟩]) (h2 : ∀ (j i : Nat) (x : Rn), ix[j]? = some i → t.runs[j]? = some x → H[i]? = some (rwR x))
    (ht : Les (hs ++ ix) lT l) : Sub ⟨lT, stH s t r, 0⟩ ⟨l, H, 0⟩ := by
  have := qZ hl hn h1 h2
  exact sP (T := ⟨lT, stH s t r, 0⟩) (S := ⟨l, H, 0⟩) (hs ++ ix) rfl (fun i hi => absurd hi (Nat.not_lt_zero _)) this ht
theorem xG {rs : List Rn} {e : TypeId} : (nR rwT e rs).length = rs.length := by simp [zn]
theorem y7 {rs : List Rn} {e : TypeId} {N : Reg} : (nR rwT e rs ++ [N]).length = rs.length + 1 := by simp [zn]
theorem y6 {rs : List Rn} {e : TypeId} {N M : Reg} : (nR rwT e rs ++ [N] ++ [M]).length = rs.length + 2 := by simp [zn]
theorem xD {rs : List Rn} {e : TypeId} {N M O : Reg} : (nR rwT e rs ++ [N] ++ [M] ++ [O]).length = rs.length + 3 := by simp [zn]
theorem ix9 {n j i : Nat} (h : (List.range' 9 n)[j]? = some i) : i = 9 + j := by
  rw [List.getElem?_range'] at h
  · have := Option.some.inj h; omega
  · exact Nat.lt_of_not_le fun hn => by rw [List.getElem?_eq_none (by simpa using hn)] at h; cases h
def stQ (s x : So) (g : Int) (r : List Rw) : Exit → St → Prop := fun e S' => e = .normal ∧ Sub (stT s x g r) S'
end Go.Proofs.Ytojcojanokhnaaa.Ab
namespace Go.Proofs.Ytojcojanokhnaaa.Ab
open Go.RowKit
theorem pE {s : So} {r : Rw} (h : yj s ≤ 60) : IntKind.i64.wrap (yj s + y3 r) = yj s + y3 r := by
  have h1 := d4 s
  have h2 := xy r
  rw [IntKind.wrap_i64]; omega
theorem c_put (s : So) (g : Int) (r : Rw) (hok : okSo s) (hb : VBa s) (hm : yj s ≤ 60) (hp : s.ph = 1) (hr : s.input[s.pos.toNat]? = some r) (hf : yj s + y3 r ≤ g) : AW Go.Proofs.Try.prog up (stQ s (ws s r) g []) (stT s s g []) := by
  obtain ⟨p, hpp, hple⟩ := hb.pos
  have e1 : s.pos.toNat = p := by omega
  rw [e1] at hr
  have hlt := (List.getElem?_eq_some_iff.1 hr).1
  have g1 := hok.heap
  have g2 := hok.dfr
  have g3 := hok.input
  have am := s8 s hok
  have ew : IntKind.i64.wrap (s.pos + 1) = s.pos + 1 := by rw [IntKind.wrap_i64]; omega
  have cb := pV r s.out (by have := hok.out; omega)
  repeat' first | (refine zh rfl (fun _ => ?_) (fun h => absurd hp (of_decide_eq_false h))) | refine zL ?_ | refine zA ?_ | refine zQ [] ?_ | (refine isA ?_; refine zf rfl ?_) | (refine isL ?_; refine zV rfl (by kernel_rfl) rfl rfl ?_) | (refine zc rfl ?_; refine zU rfl (by kernel_rfl) rfl rfl ?_) | refine zD ?_ | refine zB _ rfl (by kernel_rfl) ?_ | refine zW rfl ?_ | refine zX rfl ?_ | refine zC ?_ | with_reducible refine zO ?_ | refine zI ?_ | refine zJ ?_ | (with_reducible first | refine zM ?_ | refine zN ?_ | refine zF ?_ | refine zH ?_ | refine zG ?_) | refine zP ?_
  refine yK rfl rfl rfl rfl (fun _ => ?_) (fun h => absurd (of_decide_eq_false h) (by omega))
  repeat' first | refine zL ?_ | refine zA ?_ | refine zQ [] ?_ | (refine isA ?_; refine zf rfl ?_) | (refine isL ?_; refine zV rfl (by kernel_rfl) rfl rfl ?_) | (refine zc rfl ?_; refine zU rfl (by kernel_rfl) rfl rfl ?_) | (refine zr 19 ?_; refine za rfl (zK rfl am (.cons (pA rfl rfl rfl rfl rfl fun j x hx => uG (xQ hx)) .nil) rfl) rfl ?_) | (refine zq 19 rfl ?_; refine zT rfl (by kernel_rfl) rfl (zK rfl am (.cons (pA rfl rfl rfl rfl rfl fun j x hx => uG (xQ hx)) .nil) rfl) rfl ?_) | (refine yB (x := .tmp 53) ?_; refine za rfl (zo (j := s.pos) rfl rfl rfl (Nat.zero_le _) rfl rfl (by omega) (by omega)) rfl ?_) | (refine yA (x := .tmp 53) rfl ?_; refine zT rfl (by kernel_rfl) rfl (zo (j := s.pos) rfl rfl rfl (Nat.zero_le _) rfl rfl (by omega) (by omega)) rfl ?_) | (refine xi (x := .tmp 56) ?_; refine za rfl (yv (T := rwT) (i := 0 + s.pos.toNat) (z := r) rfl rfl rfl (by rw [Nat.zero_add, e1]; exact hr)) rfl ?_) | (refine xh (x := .tmp 56) rfl ?_; refine zT rfl (by kernel_rfl) rfl (yv (T := rwT) (i := 0 + s.pos.toNat) (z := r) rfl rfl rfl (by rw [Nat.zero_add, e1]; exact hr)) rfl ?_) | (refine zr 58 ?_; refine za rfl (zK rfl (w7 r) (.cons (.same rfl) .nil) rfl) rfl ?_) | (refine zq 58 rfl ?_; refine zT rfl (by kernel_rfl) rfl (zK rfl (w7 r) (.cons (.same rfl) .nil) rfl) rfl ?_) | refine zD ?_ | refine zB _ rfl (by kernel_rfl) ?_ | refine zW rfl ?_ | refine zX rfl ?_ | refine zC ?_ | with_reducible refine zO ?_ | refine zI ?_ | refine zJ ?_ | (with_reducible first | refine zM ?_ | refine zN ?_ | refine zF ?_ | refine zH ?_ | refine zG ?_) | refine zP ?_
  refine zh rfl (fun _ => ?_) (fun h => absurd (of_decide_eq_false h) (by rw [pE hm]; omega))
  repeat' first | refine zL ?_ | refine zA ?_ | refine zQ [] ?_ | (refine isA ?_; refine zf rfl ?_) | (refine isL ?_; refine zV rfl (by kernel_rfl) rfl rfl ?_) | (refine zc rfl ?_; refine zU rfl (by kernel_rfl) rfl rfl ?_) | (refine yB (x := .tmp 64) ?_; refine za rfl (zo (j := s.pos) rfl rfl rfl (Nat.zero_le _) rfl rfl (by omega) (by omega)) rfl ?_) | (refine yA (x := .tmp 64) rfl ?_; refine zT rfl (by kernel_rfl) rfl (zo (j := s.pos) rfl rfl rfl (Nat.zero_le _) rfl rfl (by omega) (by omega)) rfl ?_) | (refine xi (x := .tmp 67) ?_; refine za rfl (yv (T := rwT) (i := 0 + s.pos.toNat) (z := r) rfl rfl rfl (by rw [Nat.zero_add, e1]; exact hr)) rfl ?_) | (refine xh (x := .tmp 67) rfl ?_; refine zT rfl (by kernel_rfl) rfl (yv (T := rwT) (i := 0 + s.pos.toNat) (z := r) rfl rfl rfl (by rw [Nat.zero_add, e1]; exact hr)) rfl ?_) | (refine tE (x := .tmp 9) ?_; refine za rfl (wM rfl rfl rfl rfl rfl (wi r) rfl rfl) rfl ?_) | (refine tD (x := .tmp 9) rfl ?_; refine zT rfl (by kernel_rfl) rfl (wM rfl rfl rfl rfl rfl (wi r) rfl rfl) rfl ?_) | (refine xi (x := .tmp 9) ?_; refine za rfl (xc rfl rfl (zg rfl) rfl rfl) rfl ?_) | (refine xh (x := .tmp 9) rfl ?_; refine zT rfl (by kernel_rfl) rfl (xc rfl rfl (zg rfl) rfl rfl) rfl ?_) | (refine zr 59 ?_; refine za rfl (zK rfl cb (.cons (.same rfl) (.cons (zk rfl) .nil)) rfl) rfl ?_) | (refine zq 59 rfl ?_; refine zT rfl (by kernel_rfl) rfl (zK rfl cb (.cons (.same rfl) (.cons (zk rfl) .nil)) rfl) rfl ?_) | refine zD ?_ | refine zB _ rfl (by kernel_rfl) ?_ | refine zW rfl ?_ | refine zX rfl ?_ | refine zC ?_ | with_reducible refine zO ?_ | refine zI ?_ | refine zJ ?_ | (with_reducible first | refine zM ?_ | refine zN ?_ | refine zF ?_ | refine zH ?_ | refine zG ?_) | refine zP ?_
  refine zh rfl (fun h => ?_) (fun h => ?_)
  · repeat' first | (refine isA ?_; refine za rfl (yh rfl rfl rfl rfl rfl) rfl ?_) | refine zL ?_ | refine zA ?_ | refine zQ [] ?_ | (refine isA ?_; refine zf rfl ?_) | (refine isL ?_; refine zV rfl (by kernel_rfl) rfl rfl ?_) | (refine zc rfl ?_; refine zU rfl (by kernel_rfl) rfl rfl ?_) | (refine xi (x := .tmp 9) ?_; refine za rfl (xc rfl rfl (zg rfl) rfl rfl) rfl ?_) | (refine xh (x := .tmp 9) rfl ?_; refine zT rfl (by kernel_rfl) rfl (xc rfl rfl (zg rfl) rfl rfl) rfl ?_) | (refine xd ?_; refine za rfl (yX (t := rwT) (xs := s.dfr) (ys := [r]) rfl rfl rfl rfl (.lst _ _) (by simp; omega) rfl) rfl ?_) | (refine xH rfl ?_; refine zT rfl (by kernel_rfl) rfl (yX (t := rwT) (xs := s.dfr) (ys := [r]) rfl rfl rfl rfl (.lst _ _) (by simp; omega) rfl) rfl ?_) | refine zD ?_ | refine zB _ rfl (by kernel_rfl) ?_ | refine zW rfl ?_ | refine zX rfl ?_ | refine zC ?_ | with_reducible refine zO ?_ | refine zI ?_ | refine zJ ?_ | (with_reducible first | refine zM ?_ | refine zN ?_ | refine zF ?_ | refine zH ?_ | refine zG ?_) | refine zP ?_
    have e : ws s r = { s with dfr := s.dfr ++ [r], pos := s.pos + 1 } := by unfold ws; rw [h]; rfl
    rw [e]
    refine And.intro rfl (wW [0, 1, 2, 3, 4, 5, s.runs.length + 1 + 9, 7, 8] (List.range' 9 s.runs.length) rfl (by simp) (xI (by simp <;> omega) (fun h hh => by simp at hh; omega)) (by repeat' first | exact HLes.nil | refine HLes.cons rfl rfl rfl rfl (zY (zE _ _)) ?_ | refine HLes.cons rfl rfl rfl rfl (z5 rfl) ?_ | refine HLes.cons rfl rfl rfl rfl (wB (fun j hj => wQ _ 9 _ j hj)) ?_ | refine HLes.cons (z7 (zg xG)) rfl rfl rfl (zY (zE _ _)) ?_ | refine HLes.cons (z7 (zg y7)) rfl rfl rfl (zY (zE _ _)) ?_ | refine HLes.cons (z7 (zg y6)) rfl rfl rfl (zY (zE _ _)) ?_ | refine HLes.cons (z7 (zg xD)) rfl rfl rfl (zY (zE _ _)) ?_ | refine HLes.cons (z7 (zb (zg xG))) rfl rfl rfl (zY (zE _ _)) ?_ | refine HLes.cons (z7 (zb (zg y7))) rfl rfl rfl (zY (zE _ _)) ?_ | refine HLes.cons (z7 (zb (zg y6))) rfl rfl rfl (zY (zE _ _)) ?_ | refine HLes.cons (z7 (zb (zg xD))) rfl rfl rfl (zY (zE _ _)) ?_ | refine HLes.cons (z7 (zb (zb (zg xG)))) rfl rfl rfl (zY (zE _ _)) ?_ | refine HLes.cons (z7 (zb (zb (zg y7)))) rfl rfl rfl (zY (zE _ _)) ?_ | refine HLes.cons (z7 (zb (zb (zg y6)))) rfl rfl rfl (zY (zE _ _)) ?_ | refine HLes.cons (z7 (zb (zb (zg xD)))) rfl rfl rfl (zY (zE _ _)) ?_ | refine HLes.cons rfl rfl rfl rfl (by repeat' first | exact zj | refine zZ ?_ ?_ | exact zp | exact le_refl rfl | exact zm rfl rfl | exact zu rfl | exact zu (congrArg some (by simp [zn] <;> omega)) | exact zm rfl (by simp) | exact zm (congrArg some (by simp [zn] <;> omega)) rfl | exact zm (congrArg some (by simp [zn] <;> omega)) (by simp [yf, xk, yG]) | exact yC (congrArg _ (by assumption)) | exact yC (congrArg _ (Eq.symm (by assumption)))) ?_) (fun j i x hi hx => by rw [ix9 hi]; exact uG (zb (zb (xQ hx)))) (by repeat' first | exact zj | refine zZ ?_ ?_ | exact zp | exact le_refl rfl | exact zm rfl rfl | exact zu rfl | exact zu (congrArg some (by simp [zn] <;> omega)) | exact zm rfl (by simp) | exact zm (congrArg some (by simp [zn] <;> omega)) rfl | exact zm (congrArg some (by simp [zn] <;> omega)) (by simp [yf, xk, yG]) | exact yC (congrArg _ (by assumption)) | exact yC (congrArg _ (Eq.symm (by assumption)))))
  · repeat' first | (refine isA ?_; refine za rfl (yh rfl rfl rfl rfl rfl) rfl ?_) | refine zL ?_ | refine zA ?_ | refine zQ [] ?_ | (refine isA ?_; refine zf rfl ?_) | (refine isL ?_; refine zV rfl (by kernel_rfl) rfl rfl ?_) | (refine zc rfl ?_; refine zU rfl (by kernel_rfl) rfl rfl ?_) | (refine xi (x := .tmp 9) ?_; refine za rfl (xc rfl rfl (zg rfl) rfl rfl) rfl ?_) | (refine xh (x := .tmp 9) rfl ?_; refine zT rfl (by kernel_rfl) rfl (xc rfl rfl (zg rfl) rfl rfl) rfl ?_) | (refine xd ?_; refine za rfl (yX (t := rwT) (xs := s.heap) (ys := [r]) rfl rfl rfl rfl (.lst _ _) (by simp; omega) rfl) rfl ?_) | (refine xH rfl ?_; refine zT rfl (by kernel_rfl) rfl (yX (t := rwT) (xs := s.heap) (ys := [r]) rfl rfl rfl rfl (.lst _ _) (by simp; omega) rfl) rfl ?_) | refine zD ?_ | refine zB _ rfl (by kernel_rfl) ?_ | refine zW rfl ?_ | refine zX rfl ?_ | refine zC ?_ | with_reducible refine zO ?_ | refine zI ?_ | refine zJ ?_ | (with_reducible first | refine zM ?_ | refine zN ?_ | refine zF ?_ | refine zH ?_ | refine zG ?_) | refine zP ?_
    have e : ws s r = { s with heap := s.heap ++ [r], pos := s.pos + 1 } := by unfold ws; rw [h]; rfl
    rw [e]
    refine And.intro rfl (wW [0, 1, 2, 3, 4, s.runs.length + 1 + 9, 6, 7, 8] (List.range' 9 s.runs.length) rfl (by simp) (xI (by simp <;> omega) (fun h hh => by simp at hh; omega)) (by repeat' first | exact HLes.nil | refine HLes.cons rfl rfl rfl rfl (zY (zE _ _)) ?_ | refine HLes.cons rfl rfl rfl rfl (z5 rfl) ?_ | refine HLes.cons rfl rfl rfl rfl (wB (fun j hj => wQ _ 9 _ j hj)) ?_ | refine HLes.cons (z7 (zg xG)) rfl rfl rfl (zY (zE _ _)) ?_ | refine HLes.cons (z7 (zg y7)) rfl rfl rfl (zY (zE _ _)) ?_ | refine HLes.cons (z7 (zg y6)) rfl rfl rfl (zY (zE _ _)) ?_ | refine HLes.cons (z7 (zg xD)) rfl rfl rfl (zY (zE _ _)) ?_ | refine HLes.cons (z7 (zb (zg xG))) rfl rfl rfl (zY (zE _ _)) ?_ | refine HLes.cons (z7 (zb (zg y7))) rfl rfl rfl (zY (zE _ _)) ?_ | refine HLes.cons (z7 (zb (zg y6))) rfl rfl rfl (zY (zE _ _)) ?_ | refine HLes.cons (z7 (zb (zg xD))) rfl rfl rfl (zY (zE _ _)) ?_ | refine HLes.cons (z7 (zb (zb (zg xG)))) rfl rfl rfl (zY (zE _ _)) ?_ | refine HLes.cons (z7 (zb (zb (zg y7)))) rfl rfl rfl (zY (zE _ _)) ?_ | refine HLes.cons (z7 (zb (zb (zg y6)))) rfl rfl rfl (zY (zE _ _)) ?_ | refine HLes.cons (z7 (zb (zb (zg xD)))) rfl rfl rfl (zY (zE _ _)) ?_ | refine HLes.cons rfl rfl rfl rfl (by repeat' first | exact zj | refine zZ ?_ ?_ | exact zp | exact le_refl rfl | exact zm rfl rfl | exact zu rfl | exact zu (congrArg some (by simp [zn] <;> omega)) | exact zm rfl (by simp) | exact zm (congrArg some (by simp [zn] <;> omega)) rfl | exact zm (congrArg some (by simp [zn] <;> omega)) (by simp [yf, xk, yG]) | exact yC (congrArg _ (by assumption)) | exact yC (congrArg _ (Eq.symm (by assumption)))) ?_) (fun j i x hi hx => by rw [ix9 hi]; exact uG (zb (zb (xQ hx)))) (by repeat' first | exact zj | refine zZ ?_ ?_ | exact zp | exact le_refl rfl | exact zm rfl rfl | exact zu rfl | exact zu (congrArg some (by simp [zn] <;> omega)) | exact zm rfl (by simp) | exact zm (congrArg some (by simp [zn] <;> omega)) rfl | exact zm (congrArg some (by simp [zn] <;> omega)) (by simp [yf, xk, yG]) | exact yC (congrArg _ (by assumption)) | exact yC (congrArg _ (Eq.symm (by assumption)))))
abbrev T10 (s : So) (g : Int) : St := ⟨(.any :: (I g) :: (.ptr 0 0) :: .any :: (.ptr 1 0) :: .any :: .any :: (.ptr 2 0) :: (.sl 3 0 0) :: .any :: .any :: .any :: .any :: .any :: .any :: .any :: .any :: .any :: .any :: .any :: .any :: .any :: .any :: .any :: .any :: .any :: .any :: .any :: .any :: .any :: .any :: .any :: .any :: .any :: .any :: .any :: .any :: .any :: .any :: .any :: .any :: .any :: (B false) :: .any :: .any :: .any :: .any :: .any :: .any :: .any :: .any :: .any :: .any :: .any :: .any :: .any :: .any :: .any :: .any :: .any :: .any :: .any :: .any :: .any :: .any :: .any :: .any :: .any :: .any :: .any :: .any :: .any :: .any :: .any :: .any :: .any :: .any :: .any :: .any :: .any :: .any :: .any :: .any :: .any :: .any :: .any :: .any :: .any :: .any :: .any :: .any :: .any :: .any :: .any :: .any :: .any :: .any :: .any :: .any :: .any :: .any :: .any :: .any :: .any :: .any :: .any :: .any :: .any :: .any :: .any :: .any :: .any :: .any :: .any :: .any :: .any :: .any :: .any :: .any :: .any :: .any :: .any :: .any :: .any :: .any :: .any :: .any :: .any :: .any :: .any :: .any :: .any :: .any :: .any :: .any :: .any :: .any :: .any :: .any :: .any :: .any :: .any :: .any :: .any :: .any :: .any :: .any :: .any :: .any :: .any :: .any :: .any :: .any :: .any :: .any :: .any :: .any :: .any :: .any :: .any :: .any :: .any :: .any :: .any :: .any :: .any :: .any :: .any :: .any :: .any :: .any :: .any :: .any :: .any :: .any :: .any :: .any :: .any :: .any :: .any :: .any :: .any :: .any :: .any :: .any :: .any :: .any :: .any :: .any :: .any :: .any :: .any :: .any :: .any :: .any :: .any :: .any :: .any :: .any :: .any :: .any :: .any :: .any :: .any :: .any :: .any :: .any :: .any :: .any :: .any :: .any :: .any :: .any :: .any :: .any :: .any :: .any :: .any :: .any :: .any :: .any :: .any :: .any :: .any :: .any :: .any :: .any :: .any :: .any :: .any :: .any :: .any :: .any :: .any :: .any :: .any :: .any :: .any :: .any :: .any :: .any :: .any :: .any :: .any :: .any :: .any :: .any :: .any :: .any :: []), stH s s [], 0⟩
noncomputable def reg10 : Code := match up with
  | .seq _ (.block _ (.seq _ (.cond _ (.block _ (.seq r _)) _))) => r
  | _ => .skip
theorem sH (s : So) (g : Int) (hok : okSo s) (hb : VBa s) (hm : yj s ≤ 60) (hf : uh s g) : AW Go.Proofs.Try.prog reg10 (fun e S' => e = .normal ∧ Sub (T10 s g) S') ⟨(.any :: (I g) :: (.ptr 0 0) :: .any :: (.ptr 1 0) :: .any :: .any :: (.ptr 2 0) :: (.sl 3 0 0) :: .any :: .any :: .any :: .any :: .any :: .any :: .any :: .any :: .any :: .any :: .any :: .any :: .any :: .any :: .any :: .any :: .any :: .any :: .any :: .any :: .any :: .any :: .any :: (.ptr 2 8) :: (I s.ph) :: (B (decide (s.ph = 1))) :: (B (decide (s.ph = 1))) :: .any :: .any :: .any :: .any :: .any :: .any :: .any :: .any :: .any :: .any :: .any :: .any :: .any :: .any :: .any :: .any :: .any :: .any :: .any :: .any :: .any :: .any :: .any :: .any :: .any :: .any :: .any :: .any :: .any :: .any :: .any :: .any :: .any :: .any :: .any :: .any :: .any :: .any :: .any :: .any :: .any :: .any :: .any :: .any :: .any :: .any :: .any :: .any :: .any :: .any :: .any :: .any :: .any :: .any :: .any :: .any :: .any :: .any :: .any :: .any :: .any :: .any :: .any :: .any :: .any :: .any :: .any :: .any :: .any :: .any :: .any :: .any :: .any :: .any :: .any :: .any :: .any :: .any :: .any :: .any :: .any :: .any :: .any :: .any :: .any :: .any :: .any :: .any :: .any :: .any :: .any :: .any :: .any :: .any :: .any :: .any :: .any :: .any :: .any :: .any :: .any :: .any :: .any :: .any :: .any :: .any :: .any :: .any :: .any :: .any :: .any :: .any :: .any :: .any :: .any :: .any :: .any :: .any :: .any :: .any :: .any :: .any :: .any :: .any :: .any :: .any :: .any :: .any :: .any :: .any :: .any :: .any :: .any :: .any :: .any :: .any :: .any :: .any :: .any :: .any :: .any :: .any :: .any :: .any :: .any :: .any :: .any :: .any :: .any :: .any :: .any :: .any :: .any :: .any :: .any :: .any :: .any :: .any :: .any :: .any :: .any :: .any :: .any :: .any :: .any :: .any :: .any :: .any :: .any :: .any :: .any :: .any :: .any :: .any :: .any :: .any :: .any :: .any :: .any :: .any :: .any :: .any :: .any :: .any :: .any :: .any :: .any :: .any :: .any :: .any :: .any :: .any :: .any :: .any :: .any :: .any :: .any :: .any :: .any :: .any :: .any :: .any :: .any :: .any :: .any :: .any :: .any :: .any :: .any :: .any :: .any :: .any :: .any :: []), stH s s [], 0⟩ := by
  obtain ⟨p, hpp, hple⟩ := hb.pos
  have e1 : s.pos.toNat = p := by omega
  have g3 := hok.input
  have am := s8 s hok
  repeat' first | refine zL ?_ | refine zA ?_ | refine zQ [] ?_ | (refine isA ?_; refine zf rfl ?_) | (refine isL ?_; refine zV rfl (by kernel_rfl) rfl rfl ?_) | (refine zc rfl ?_; refine zU rfl (by kernel_rfl) rfl rfl ?_) | refine zD ?_ | refine zB _ rfl (by kernel_rfl) ?_ | refine zW rfl ?_ | refine zX rfl ?_ | refine zC ?_ | with_reducible refine zO ?_ | refine zI ?_ | refine zJ ?_ | (with_reducible first | refine zM ?_ | refine zN ?_ | refine zF ?_ | refine zH ?_ | refine zG ?_) | refine zP ?_
  refine yK rfl rfl rfl rfl (fun h => ?_) (fun h => ?_)
  · have hlt : p < s.input.length := by have := of_decide_eq_true h; omega
    obtain ⟨z, hz⟩ : ∃ z, s.input[p]? = some z := ⟨_, List.getElem?_eq_getElem hlt⟩
    have hfz := hf z (by rw [e1]; exact hz)
    have hd : decide (IntKind.i64.wrap (yj s + y3 z) ≤ g) = false := by rw [pE hm]; exact decide_eq_false (by omega)
    repeat' first | refine zL ?_ | refine zA ?_ | refine zQ [] ?_ | (refine isA ?_; refine zf rfl ?_) | (refine isL ?_; refine zV rfl (by kernel_rfl) rfl rfl ?_) | (refine zc rfl ?_; refine zU rfl (by kernel_rfl) rfl rfl ?_) | (refine zr 19 ?_; refine za rfl (zK rfl am (.cons (pA rfl rfl rfl rfl rfl fun j x hx => uG (xQ hx)) .nil) rfl) rfl ?_) | (refine zq 19 rfl ?_; refine zT rfl (by kernel_rfl) rfl (zK rfl am (.cons (pA rfl rfl rfl rfl rfl fun j x hx => uG (xQ hx)) .nil) rfl) rfl ?_) | (refine yB (x := .tmp 53) ?_; refine za rfl (zo (j := s.pos) rfl rfl rfl (Nat.zero_le _) rfl rfl (by omega) (by omega)) rfl ?_) | (refine yA (x := .tmp 53) rfl ?_; refine zT rfl (by kernel_rfl) rfl (zo (j := s.pos) rfl rfl rfl (Nat.zero_le _) rfl rfl (by omega) (by omega)) rfl ?_) | (refine xi (x := .tmp 56) ?_; refine za rfl (yv (T := rwT) (i := 0 + s.pos.toNat) (z := z) rfl rfl rfl (by rw [Nat.zero_add, e1]; exact hz)) rfl ?_) | (refine xh (x := .tmp 56) rfl ?_; refine zT rfl (by kernel_rfl) rfl (yv (T := rwT) (i := 0 + s.pos.toNat) (z := z) rfl rfl rfl (by rw [Nat.zero_add, e1]; exact hz)) rfl ?_) | (refine zr 58 ?_; refine za rfl (zK rfl (w7 z) (.cons (.same rfl) .nil) rfl) rfl ?_) | (refine zq 58 rfl ?_; refine zT rfl (by kernel_rfl) rfl (zK rfl (w7 z) (.cons (.same rfl) .nil) rfl) rfl ?_) | refine zD ?_ | refine zB _ rfl (by kernel_rfl) ?_ | refine zW rfl ?_ | refine zX rfl ?_ | refine zC ?_ | with_reducible refine zO ?_ | refine zI ?_ | refine zJ ?_ | (with_reducible first | refine zM ?_ | refine zN ?_ | refine zF ?_ | refine zH ?_ | refine zG ?_) | refine zP ?_
    exact ⟨rfl, wW [0, 1, 2, 3, 4, 5, 6, 7, 8] (List.range' 9 s.runs.length) rfl (by simp) (xI (by simp <;> omega) (fun h hh => by simp at hh; omega)) (by repeat' first | exact HLes.nil | refine HLes.cons rfl rfl rfl rfl (zY (zE _ _)) ?_ | refine HLes.cons rfl rfl rfl rfl (z5 rfl) ?_ | refine HLes.cons rfl rfl rfl rfl (wB (fun j hj => wQ _ 9 _ j hj)) ?_ | refine HLes.cons (z7 (zg xG)) rfl rfl rfl (zY (zE _ _)) ?_ | refine HLes.cons (z7 (zg y7)) rfl rfl rfl (zY (zE _ _)) ?_ | refine HLes.cons (z7 (zg y6)) rfl rfl rfl (zY (zE _ _)) ?_ | refine HLes.cons (z7 (zg xD)) rfl rfl rfl (zY (zE _ _)) ?_ | refine HLes.cons (z7 (zb (zg xG))) rfl rfl rfl (zY (zE _ _)) ?_ | refine HLes.cons (z7 (zb (zg y7))) rfl rfl rfl (zY (zE _ _)) ?_ | refine HLes.cons (z7 (zb (zg y6))) rfl rfl rfl (zY (zE _ _)) ?_ | refine HLes.cons (z7 (zb (zg xD))) rfl rfl rfl (zY (zE _ _)) ?_ | refine HLes.cons (z7 (zb (zb (zg xG)))) rfl rfl rfl (zY (zE _ _)) ?_ | refine HLes.cons (z7 (zb (zb (zg y7)))) rfl rfl rfl (zY (zE _ _)) ?_ | refine HLes.cons (z7 (zb (zb (zg y6)))) rfl rfl rfl (zY (zE _ _)) ?_ | refine HLes.cons (z7 (zb (zb (zg xD)))) rfl rfl rfl (zY (zE _ _)) ?_ | refine HLes.cons rfl rfl rfl rfl (by repeat' first | exact zj | refine zZ ?_ ?_ | exact zp | exact le_refl rfl | exact zm rfl rfl | exact zu rfl | exact zu (congrArg some (by simp [zn] <;> omega)) | exact zm rfl (by simp) | exact zm (congrArg some (by simp [zn] <;> omega)) rfl | exact zm (congrArg some (by simp [zn] <;> omega)) (by simp [yf, xk, yG]) | exact yC (congrArg _ (by assumption)) | exact yC (congrArg _ (Eq.symm (by assumption)))) ?_) (fun j i x hi hx => by rw [ix9 hi]; exact uG (xQ hx)) (by repeat' first | exact zj | refine zZ ?_ ?_ | exact zp | exact le_refl rfl | exact zm rfl rfl | exact zu rfl | exact zu (congrArg some (by simp [zn] <;> omega)) | exact zm rfl (by simp) | exact zm (congrArg some (by simp [zn] <;> omega)) rfl | exact zm (congrArg some (by simp [zn] <;> omega)) (by simp [yf, xk, yG]) | exact yC (congrArg _ (by assumption)) | exact yC (congrArg _ (Eq.symm (by assumption))))⟩
  · repeat' first | refine zL ?_ | refine zA ?_ | refine zQ [] ?_ | (refine isA ?_; refine zf rfl ?_) | (refine isL ?_; refine zV rfl (by kernel_rfl) rfl rfl ?_) | (refine zc rfl ?_; refine zU rfl (by kernel_rfl) rfl rfl ?_) | refine zD ?_ | refine zB _ rfl (by kernel_rfl) ?_ | refine zW rfl ?_ | refine zX rfl ?_ | refine zC ?_ | with_reducible refine zO ?_ | refine zI ?_ | refine zJ ?_ | (with_reducible first | refine zM ?_ | refine zN ?_ | refine zF ?_ | refine zH ?_ | refine zG ?_) | refine zP ?_
    exact ⟨rfl, wW [0, 1, 2, 3, 4, 5, 6, 7, 8] (List.range' 9 s.runs.length) rfl (by simp) (xI (by simp <;> omega) (fun h hh => by simp at hh; omega)) (by repeat' first | exact HLes.nil | refine HLes.cons rfl rfl rfl rfl (zY (zE _ _)) ?_ | refine HLes.cons rfl rfl rfl rfl (z5 rfl) ?_ | refine HLes.cons rfl rfl rfl rfl (wB (fun j hj => wQ _ 9 _ j hj)) ?_ | refine HLes.cons (z7 (zg xG)) rfl rfl rfl (zY (zE _ _)) ?_ | refine HLes.cons (z7 (zg y7)) rfl rfl rfl (zY (zE _ _)) ?_ | refine HLes.cons (z7 (zg y6)) rfl rfl rfl (zY (zE _ _)) ?_ | refine HLes.cons (z7 (zg xD)) rfl rfl rfl (zY (zE _ _)) ?_ | refine HLes.cons (z7 (zb (zg xG))) rfl rfl rfl (zY (zE _ _)) ?_ | refine HLes.cons (z7 (zb (zg y7))) rfl rfl rfl (zY (zE _ _)) ?_ | refine HLes.cons (z7 (zb (zg y6))) rfl rfl rfl (zY (zE _ _)) ?_ | refine HLes.cons (z7 (zb (zg xD))) rfl rfl rfl (zY (zE _ _)) ?_ | refine HLes.cons (z7 (zb (zb (zg xG)))) rfl rfl rfl (zY (zE _ _)) ?_ | refine HLes.cons (z7 (zb (zb (zg y7)))) rfl rfl rfl (zY (zE _ _)) ?_ | refine HLes.cons (z7 (zb (zb (zg y6)))) rfl rfl rfl (zY (zE _ _)) ?_ | refine HLes.cons (z7 (zb (zb (zg xD)))) rfl rfl rfl (zY (zE _ _)) ?_ | refine HLes.cons rfl rfl rfl rfl (by repeat' first | exact zj | refine zZ ?_ ?_ | exact zp | exact le_refl rfl | exact zm rfl rfl | exact zu rfl | exact zu (congrArg some (by simp [zn] <;> omega)) | exact zm rfl (by simp) | exact zm (congrArg some (by simp [zn] <;> omega)) rfl | exact zm (congrArg some (by simp [zn] <;> omega)) (by simp [yf, xk, yG]) | exact yC (congrArg _ (by assumption)) | exact yC (congrArg _ (Eq.symm (by assumption)))) ?_) (fun j i x hi hx => by rw [ix9 hi]; exact uG (xQ hx)) (by repeat' first | exact zj | refine zZ ?_ ?_ | exact zp | exact le_refl rfl | exact zm rfl rfl | exact zu rfl | exact zu (congrArg some (by simp [zn] <;> omega)) | exact zm rfl (by simp) | exact zm (congrArg some (by simp [zn] <;> omega)) rfl | exact zm (congrArg some (by simp [zn] <;> omega)) (by simp [yf, xk, yG]) | exact yC (congrArg _ (by assumption)) | exact yC (congrArg _ (Eq.symm (by assumption))))⟩
theorem c_pop (s : So) (g : Int) (k : Nat) (r : Rw) (hok : okSo s) (hb : VBa s) (hm : yj s ≤ 60) (hp : s.ph = 1) (hf : uh s g) (hh : 0 < s.heap.length) (hk : mC s.heap = (k : Nat)) (hr : s.heap[k]? = some r) : AW Go.Proofs.Try.prog up (stQ s (vy s k r) g []) (stT s s g []) := by
  obtain ⟨p, hpp, hple⟩ := hb.pos
  have e1 : s.pos.toNat = p := by omega
  have hlt := (List.getElem?_eq_some_iff.1 hr).1
  have g1 := hok.heap
  have g2 := hok.dfr
  have g3 := hok.input
  have g4 := hok.out
  have am := s8 s hok
  have ai := cR s.heap (by omega)
  rw [hk] at ai
  repeat' first | (refine zh rfl (fun _ => ?_) (fun h => absurd hp (of_decide_eq_false h))) | (refine wv 10 (T10 s g) (xb ?_) ?_) | (refine yb rfl rfl (fun h => absurd (of_decide_eq_true h) (by omega)) (fun _ => ?_)) | (refine zh rfl (fun _ => ?_) (fun h => absurd (of_decide_eq_false h) (by omega))) | (refine isA ?_; refine za rfl (yh rfl rfl rfl rfl rfl) rfl ?_) | refine zL ?_ | refine zA ?_ | refine zQ [6] ?_ | (refine isA ?_; refine zf rfl ?_) | (refine isL ?_; refine zV rfl (by kernel_rfl) rfl rfl ?_) | (refine zc rfl ?_; refine zU rfl (by kernel_rfl) rfl rfl ?_) | (refine zr 61 ?_; refine za rfl (zK rfl ai (.cons (zk rfl) .nil) rfl) rfl ?_) | (refine zq 61 rfl ?_; refine zT rfl (by kernel_rfl) rfl (zK rfl ai (.cons (zk rfl) .nil) rfl) rfl ?_) | (refine yB (x := .tmp 114) ?_; refine za rfl (zo (j := (k : Int)) rfl rfl rfl (Nat.zero_le _) rfl rfl (Int.natCast_nonneg _) (by omega)) rfl ?_) | (refine yA (x := .tmp 114) rfl ?_; refine zT rfl (by kernel_rfl) rfl (zo (j := (k : Int)) rfl rfl rfl (Nat.zero_le _) rfl rfl (Int.natCast_nonneg _) (by omega)) rfl ?_) | (refine xi (x := .tmp 116) ?_; refine za rfl (yv (T := rwT) (i := 0 + k) (z := r) rfl rfl rfl (by rw [Nat.zero_add]; exact hr)) rfl ?_) | (refine xh (x := .tmp 116) rfl ?_; refine zT rfl (by kernel_rfl) rfl (yv (T := rwT) (i := 0 + k) (z := r) rfl rfl rfl (by rw [Nat.zero_add]; exact hr)) rfl ?_) | (refine tE (x := .tmp 11) ?_; refine za rfl (wM rfl rfl rfl rfl rfl (wi r) rfl rfl) rfl ?_) | (refine tD (x := .tmp 11) rfl ?_; refine zT rfl (by kernel_rfl) rfl (wM rfl rfl rfl rfl rfl (wi r) rfl rfl) rfl ?_) | (refine zr 62 ?_; refine za rfl (z6 rfl (lR s.heap k hlt (by omega)) (.cons (zk rfl) (.cons (.same rfl) .nil)) (fun q hq => by simp at hq; subst hq; exact zE _ _) rfl rfl) rfl ?_) | (refine zq 62 rfl ?_; refine zT rfl (by kernel_rfl) rfl (z6 rfl (lR s.heap k hlt (by omega)) (.cons (zk rfl) (.cons (.same rfl) .nil)) (fun q hq => by simp at hq; subst hq; exact zE _ _) rfl rfl) rfl ?_) | (refine xi (x := .tmp 11) ?_; refine za rfl (xc rfl rfl (z7 (j := (nR rwT 78 s.runs).length) (zb (zg rfl))) rfl rfl) rfl ?_) | (refine xh (x := .tmp 11) rfl ?_; refine zT rfl (by kernel_rfl) rfl (xc rfl rfl (z7 (j := (nR rwT 78 s.runs).length) (zb (zg rfl))) rfl rfl) rfl ?_) | (refine xi (x := .tmp 11) ?_; refine za rfl (xc rfl rfl (z7 (j := (nR rwT 78 s.runs).length) (zb (zb (zg rfl)))) rfl rfl) rfl ?_) | (refine xh (x := .tmp 11) rfl ?_; refine zT rfl (by kernel_rfl) rfl (xc rfl rfl (z7 (j := (nR rwT 78 s.runs).length) (zb (zb (zg rfl)))) rfl rfl) rfl ?_) | (refine xd ?_; refine za rfl (yX (t := rwT) (xs := s.out) (ys := [r]) rfl rfl rfl rfl (.lst _ _) (by simp; omega) rfl) rfl ?_) | (refine xH rfl ?_; refine zT rfl (by kernel_rfl) rfl (yX (t := rwT) (xs := s.out) (ys := [r]) rfl rfl rfl rfl (.lst _ _) (by simp; omega) rfl) rfl ?_) | (refine zr 58 ?_; refine za rfl (zK rfl (w7 r) (.cons (.same rfl) .nil) rfl) rfl ?_) | (refine zq 58 rfl ?_; refine zT rfl (by kernel_rfl) rfl (zK rfl (w7 r) (.cons (.same rfl) .nil) rfl) rfl ?_) | (refine isL ?_; refine wx rfl (by kernel_rfl) rfl rfl ?_) | refine zD ?_ | refine zB _ rfl (by kernel_rfl) ?_ | refine zW rfl ?_ | refine zX rfl ?_ | refine zC ?_ | with_reducible refine zO ?_ | refine zI ?_ | refine zJ ?_ | (with_reducible first | refine zM ?_ | refine zN ?_ | refine zF ?_ | refine zH ?_ | refine zG ?_) | refine zP ?_
  · exact wI (sH s g hok hb hm hf)
  · refine And.intro rfl (wW [0, 1, 2, 3, 4, s.runs.length + 1 + 9, 6, s.runs.length + 2 + 9, 8] (List.range' 9 s.runs.length) rfl (by simp [vy]) (xI (by simp <;> omega) (fun h hh => by simp at hh; omega)) (by repeat' first | exact HLes.nil | refine HLes.cons rfl rfl rfl rfl (zY (zE _ _)) ?_ | refine HLes.cons rfl rfl rfl rfl (z5 rfl) ?_ | refine HLes.cons rfl rfl rfl rfl (wB (fun j hj => wQ _ 9 _ j hj)) ?_ | refine HLes.cons (z7 (zg xG)) rfl rfl rfl (zY (zE _ _)) ?_ | refine HLes.cons (z7 (zg y7)) rfl rfl rfl (zY (zE _ _)) ?_ | refine HLes.cons (z7 (zg y6)) rfl rfl rfl (zY (zE _ _)) ?_ | refine HLes.cons (z7 (zg xD)) rfl rfl rfl (zY (zE _ _)) ?_ | refine HLes.cons (z7 (zb (zg xG))) rfl rfl rfl (zY (zE _ _)) ?_ | refine HLes.cons (z7 (zb (zg y7))) rfl rfl rfl (zY (zE _ _)) ?_ | refine HLes.cons (z7 (zb (zg y6))) rfl rfl rfl (zY (zE _ _)) ?_ | refine HLes.cons (z7 (zb (zg xD))) rfl rfl rfl (zY (zE _ _)) ?_ | refine HLes.cons (z7 (zb (zb (zg xG)))) rfl rfl rfl (zY (zE _ _)) ?_ | refine HLes.cons (z7 (zb (zb (zg y7)))) rfl rfl rfl (zY (zE _ _)) ?_ | refine HLes.cons (z7 (zb (zb (zg y6)))) rfl rfl rfl (zY (zE _ _)) ?_ | refine HLes.cons (z7 (zb (zb (zg xD)))) rfl rfl rfl (zY (zE _ _)) ?_ | refine HLes.cons rfl rfl rfl rfl (by repeat' first | exact zj | refine zZ ?_ ?_ | exact zp | exact le_refl rfl | exact zm rfl rfl | exact zu rfl | exact zu (congrArg some (by simp [zn] <;> omega)) | exact zm rfl (by simp) | exact zm (congrArg some (by simp [zn] <;> omega)) rfl | exact zm (congrArg some (by simp [zn] <;> omega)) (by simp [yf, xk, yG]) | exact yC (congrArg _ (by assumption)) | exact yC (congrArg _ (Eq.symm (by assumption)))) ?_) (fun j i x hi hx => by rw [ix9 hi]; exact uG (zb (zb (zb (xQ hx))))) (by repeat' first | exact zj | refine zZ ?_ ?_ | exact zp | exact le_refl rfl | exact zm rfl rfl | exact zu rfl | exact zu (congrArg some (by simp [zn] <;> omega)) | exact zm rfl (by simp) | exact zm (congrArg some (by simp [zn] <;> omega)) rfl | exact zm (congrArg some (by simp [zn] <;> omega)) (by simp [yf, xk, yG]) | exact yC (congrArg _ (by assumption)) | exact yC (congrArg _ (Eq.symm (by assumption)))))
end Go.Proofs.Ytojcojanokhnaaa.Ab
namespace Go.Proofs.Ytojcojanokhnaaa.Ab
open Go.RowKit
theorem ap_c {o : Oper} {ρ : Operand → V} {H : List Reg} {h hz : Nat} {v : V} {s x : Operand} {cells : List V} (ho : o.op = .call { callee := .builtin .append, args := #[s, x], argTypes := #[25, 25] })
    (hs : ρ s = .sl h 0 cells.length) (hH : H[h]? = some ⟨84, 1, cells, 0⟩) (hx : ρ x = .sl hz 0 1) (hzz : H[hz]? = some ⟨84, 1, [v], 0⟩) (hv : vo v = true) (hl : cells.length ≤ 100000000) :
    z8 Go.Proofs.Try.prog o ρ H (.sl H.length 0 (cells.length + 1)) (H.set h ⟨84, 1, cells, 2⟩ ++ [⟨84, 1, cells ++ [v], 0⟩]) := by
  have hsrc : Src H (ρ x) 1 [v] := by
    rw [hx]
    exact Src.sl (H := H) (off := 0) (m := 1) (r := ⟨84, 1, [v], 0⟩) hzz (Nat.zero_le _) (Nat.le_refl _)
  have := vP (P := Go.Proofs.Try.prog) (ρ := ρ) (ty := 25) (m := 1) ho hs hH rfl rfl rfl (by show cells.length * 1 ≤ cells.length; omega) hsrc rfl (fun c hc => by simp at hc; subst hc; exact hv) (by omega) (by simp only [maxLen]; omega)
  have e1 : (⟨84, 1, cells, 0⟩ : Reg).cells.take (cells.length * 1) = cells := by
    show cells.take _ = _
    rw [List.take_of_length_le (by omega)]
  rw [e1] at this
  exact this
theorem nk (a0 a1 a3 a4 a5 a6 : Reg) (c0 c1 c2 c3 c6 c7 c8 c9 : V) (out : List Rw) (cells : List V) (n : Nat) (hn : cells.length = n) (L : List Reg) (hl : n ≤ 100000000) :
    zy Go.Proofs.Try.prog 60 [.ptr 2 0] (a0 :: a1 :: bxS [c0, c1, c2, c3, .sl 7 0 out.length, .sl 8 0 n, c6, c7, c8, c9] :: a3 :: a4 :: a5 :: a6 :: rwR out :: ⟨84, 1, cells, 0⟩ :: L) (.tup [])
      (a0 :: a1 :: bxS [c0, c1, c2, c3, ww, .sl ((L ++ [(⟨84, 1, [.sl 7 0 out.length], 0⟩ : Reg)]).length + 9) 0 (n + 1), c6, c7, c8, c9] :: a3 :: a4 :: a5 :: a6 :: rwR out :: ⟨84, 1, cells, 2⟩ :: (L ++ [⟨84, 1, [.sl 7 0 out.length], 0⟩] ++ [⟨84, 1, cells ++ [.sl 7 0 out.length], 0⟩])) true := by
  subst hn
  refine zw [] Go.Proofs.Try.func60 rfl rfl ?_
  simp only [Go.Proofs.Try.ntmps60, List.length_cons, List.length_nil, Nat.reduceAdd, Nat.reduceSub, List.replicate_succ, List.replicate_zero, List.cons_append, List.nil_append]
  repeat' first | refine zL ?_ | refine zA ?_ | (refine isA ?_; refine zf rfl ?_) | (refine isL ?_; refine zV rfl (by kernel_rfl) rfl rfl ?_) | (refine zc rfl ?_; refine zU rfl (by kernel_rfl) rfl rfl ?_) | refine zD ?_ | refine zB _ rfl (by kernel_rfl) ?_ | refine zW rfl ?_ | refine zX rfl ?_ | refine zC ?_ | with_reducible refine zO ?_ | refine zI ?_ | refine zJ ?_ | (with_reducible first | refine zM ?_ | refine zN ?_ | refine zF ?_ | refine zH ?_ | refine zG ?_) | refine zP ?_
  refine uU 14 (fun H => H[2]? = some (bxS [c0, c1, c2, c3, .sl 7 0 out.length, .sl 8 0 cells.length, c6, c7, c8, c9])) 15 rfl ?_
  refine yD 0 (Or.inr rfl) rfl rfl (by kernel_rfl) rfl (fun _ => rfl) rfl ?_
  refine yD 1 (Or.inr rfl) rfl rfl (by kernel_rfl) rfl (fun _ => rfl) rfl ?_
  refine yD 2 (Or.inr rfl) rfl rfl (by kernel_rfl) rfl (fun _ => rfl) rfl ?_
  refine yD 3 (Or.inr rfl) rfl rfl (by kernel_rfl) rfl (fun _ => rfl) rfl ?_
  refine vn 4 rfl (by kernel_rfl) rfl (by kernel_rfl) rfl (fun _ hG => xv rfl rfl hG rfl rfl) rfl ?_
  refine yD 5 (Or.inr rfl) rfl rfl (by kernel_rfl) rfl (fun _ => rfl) rfl ?_
  refine yD 6 (Or.inr rfl) rfl rfl (by kernel_rfl) rfl (fun _ => rfl) rfl ?_
  refine yD 7 (Or.inr rfl) rfl rfl (by kernel_rfl) rfl (fun _ => rfl) rfl ?_
  refine vn 8 rfl (by kernel_rfl) rfl (by kernel_rfl) rfl (fun _ hG => xv rfl rfl hG rfl rfl) rfl ?_
  refine yD 9 (Or.inr rfl) rfl rfl (by kernel_rfl) rfl (fun _ => rfl) rfl ?_
  refine xR 10 (by kernel_rfl) rfl rfl rfl (Or.inr rfl) rfl ?_
  refine uk 11 (by kernel_rfl) rfl rfl (ap_c rfl rfl rfl rfl (zg rfl) rfl hl) (Or.inr rfl) rfl ?_
  refine yD 12 (Or.inr rfl) rfl rfl (by kernel_rfl) rfl (fun _ => rfl) rfl ?_
  refine yD 13 (Or.inr rfl) rfl rfl (by kernel_rfl) rfl (fun _ => rfl) rfl ?_
  refine xR 14 (by kernel_rfl) rfl rfl rfl (Or.inl (by kernel_rfl)) rfl ?_
  refine vF (by kernel_rfl) ?_
  repeat' first | refine zL ?_ | refine zA ?_ | refine zQ [] ?_ | (refine isA ?_; refine zf rfl ?_) | (refine isL ?_; refine zV rfl (by kernel_rfl) rfl rfl ?_) | (refine zc rfl ?_; refine zU rfl (by kernel_rfl) rfl rfl ?_) | refine zD ?_ | refine zB _ rfl (by kernel_rfl) ?_ | refine zW rfl ?_ | refine zX rfl ?_ | refine zC ?_ | with_reducible refine zO ?_ | refine zI ?_ | refine zJ ?_ | (with_reducible first | refine zM ?_ | refine zN ?_ | refine zF ?_ | refine zH ?_ | refine zG ?_) | refine zP ?_
  exact dU (Or.inr rfl) rfl
theorem s5 (a0 a1 : Reg) (c0 c1 c2 c3 c4 c6 c7 c8 c9 : V) (h5 o5 n5 : Nat) (L : List Reg) :
    zy Go.Proofs.Try.prog 63 [.ptr 2 0] (a0 :: a1 :: bxS [c0, c1, c2, c3, c4, .sl h5 o5 n5, c6, c7, c8, c9] :: L) (.tup [])
      (a0 :: a1 :: bxS [c0, c1, c2, c3, c4, .sl h5 o5 n5, I 0, I 0, I (cond (decide (n5 = 0)) 4 (cond (decide (n5 = 1)) 3 2)), c9] :: L) true := by
  have e0 : decide (n5 = 0) = decide ((n5 : Int) = 0) := decide_eq_decide.2 (by omega)
  have e1 : decide (n5 = 1) = decide ((n5 : Int) = 1) := decide_eq_decide.2 (by omega)
  rw [e0, e1]
  refine zw [] Go.Proofs.Try.func63 rfl rfl ?_
  simp only [Go.Proofs.Try.ntmps63, List.length_cons, List.length_nil, Nat.reduceAdd, Nat.reduceSub, List.replicate_succ, List.replicate_zero, List.cons_append, List.nil_append]
  repeat' first | refine zL ?_ | refine zA ?_ | refine zQ [] ?_ | (refine isA ?_; refine zf rfl ?_) | (refine isL ?_; refine zV rfl (by kernel_rfl) rfl rfl ?_) | (refine zc rfl ?_; refine zU rfl (by kernel_rfl) rfl rfl ?_) | refine zD ?_ | refine zB _ rfl (by kernel_rfl) ?_ | refine zW rfl ?_ | refine zX rfl ?_ | refine zC ?_ | with_reducible refine zO ?_ | refine zI ?_ | refine zJ ?_ | (with_reducible first | refine zM ?_ | refine zN ?_ | refine zF ?_ | refine zH ?_ | refine zG ?_) | refine zP ?_ | refine zh rfl (fun hbr => ?_) (fun hbr => ?_)
  all_goals (refine dU (Or.inr rfl) ?_; simp only [*, cond_true, cond_false])
end Go.Proofs.Ytojcojanokhnaaa.Ab
namespace Go.Proofs.Ytojcojanokhnaaa.Ab
open Go.RowKit
theorem nK {ψ hs : List Nat} {rs : List Rn} {z : Rn} {k : Nat} (hψ : ψ = hs ++ (List.range' 9 rs.length ++ [k])) (h9 : hs.length = 9) : Les ψ (nC 9 (rs ++ [z])) (nC 9 rs ++ [.sl k 0 z.length]) := by
  have e : nC 9 rs ++ [.sl k 0 z.length] = nX (List.range' 9 rs.length ++ [k]) (rs ++ [z]) := by
    rw [jP (by simp), jQ]; rfl
  rw [e]
  refine mE (by simp) fun j hj => ?_
  rw [hψ, ← h9, jL]
theorem qS {H : List Reg} {rs : List Rn} {z : Rn} {k : Nat} (hR : ∀ j x, rs[j]? = some x → H[9 + j]? = some (rwR x)) (hz : H[k]? = some (rwR z)) : ∀ (j i : Nat) (x : Rn), (List.range' 9 rs.length ++ [k])[j]? = some i → (rs ++ [z])[j]? = some x → H[i]? = some (rwR x) := fun j i x hi hx => by
  rcases Nat.lt_or_ge j rs.length with h | h
  · rw [List.getElem?_append_left (by simpa using h)] at hi
    rw [List.getElem?_append_left h] at hx
    rw [ix9 hi]
    exact hR j x hx
  · rw [List.getElem?_append_right h] at hx
    rw [List.getElem?_append_right (by simpa using h), List.length_range'] at hi
    cases hj : j - rs.length with
    | zero =>
      rw [hj] at hi hx
      cases hi
      cases hx
      exact hz
    | succ q =>
      rw [hj] at hx
      simp at hx
theorem sm {hs : List Nat} {n k : Nat} (h1 : (k :: hs).Nodup) (h2 : ∀ h ∈ k :: hs, h < 9 ∨ 9 + n ≤ h) : (hs ++ (List.range' 9 n ++ [k])).Nodup := by
  rw [List.nodup_cons] at h1
  rw [List.nodup_append]
  refine ⟨h1.2, ?_, fun x hx y hy => ?_⟩
  · rw [List.nodup_append]
    refine ⟨List.nodup_range', by simp, fun x hx y hy => ?_⟩
    rw [List.mem_range'_1] at hx
    simp at hy
    have := h2 k (by simp)
    omega
  · rw [List.mem_append, List.mem_range'_1, List.mem_singleton] at hy
    have := h2 x (by simp [hx])
    rcases hy with hy | hy
    · omega
    · rintro rfl
      subst hy
      exact h1.1 hx
theorem cG (s : So) (g : Int) (hok : okSo s) (hb : VBa s) (hm : yj s ≤ 60) (hp : s.ph = 1) (hf : uh s g) (hh : s.heap = []) (hd : 0 < s.dfr.length) : AW Go.Proofs.Try.prog up (stQ s (yf s) g []) (stT s s g []) := by
  have g2 := hok.dfr
  have g4 := hok.out
  have g5 := hok.runs
  have hh0 : s.heap.length = 0 := by rw [hh]; rfl
  have ae := nk (bxS (soE s)) (bxS zS) (rwR []) (rwR s.input) (rwR s.heap) (rwR s.dfr) (.sl 4 0 s.input.length) (I s.pos) (.sl 5 0 s.heap.length) (.sl 6 0 s.dfr.length) (I s.lp) (I s.rp) (I s.ph) (I s.wr) s.out (nC 9 s.runs) s.runs.length (xM _ _) (nR rwT 78 s.runs) (by omega)
  repeat' first | (refine zh rfl (fun _ => ?_) (fun h => absurd hp (of_decide_eq_false h))) | (refine wv 10 (T10 s g) (xb ?_) ?_) | (refine yb rfl rfl (fun _ => ?_) (fun h => absurd (of_decide_eq_false h) (by omega))) | (refine zh rfl (fun _ => ?_) (fun h => absurd (of_decide_eq_false h) (by omega))) | refine zL ?_ | refine zA ?_ | refine zQ [] ?_ | (refine isA ?_; refine zf rfl ?_) | (refine isL ?_; refine zV rfl (by kernel_rfl) rfl rfl ?_) | (refine zc rfl ?_; refine zU rfl (by kernel_rfl) rfl rfl ?_) | (refine zr 60 ?_; refine za rfl (yN rfl ae rfl) rfl ?_) | (refine zq 60 rfl ?_; refine zT rfl (by kernel_rfl) rfl (yN rfl ae rfl) rfl ?_) | refine zD ?_ | refine zB _ rfl (by kernel_rfl) ?_ | refine zW rfl ?_ | refine zX rfl ?_ | refine zC ?_ | with_reducible refine zO ?_ | refine zI ?_ | refine zJ ?_ | (with_reducible first | refine zM ?_ | refine zN ?_ | refine zF ?_ | refine zH ?_ | refine zG ?_) | refine zP ?_
  · exact wI (sH s g hok hb hm hf)
  · refine And.intro rfl (Sub.trans (Sub.trans ?_ (vi (l' := _) 78 3 (.rest _) (.cons (.rest _) (.cons (.rest _) (.cons (.cons (.same _) (.cons (.same _) (.cons (.same _) (.cons (.same _) (.cons .nil (.rest _)))))) (.rest _)))))) (vi (l' := _) 78 3 (.rest _) (.cons (.rest _) (.cons (.rest _) (.cons (.cons (.same _) (.cons (.same _) (.cons (.same _) (.cons .nil (.rest _))))) (.rest _))))))
    refine wW [0, 1, 2, 3, 4, 6, s.runs.length + 2 + 9, s.runs.length + 3 + 9, s.runs.length + 1 + 9] (List.range' 9 s.runs.length ++ [7]) rfl (by simp [yf]) (sm (by simp <;> omega) (fun h hh => by simp at hh; omega)) ?_ (qS (fun j x hx => uG (zb (zb (zb (zb (xQ hx)))))) rfl) (by repeat' first | exact zj | refine zZ ?_ ?_ | exact zp | exact le_refl rfl | exact zm rfl rfl | exact zu rfl | exact zu (congrArg some (by simp [zn] <;> omega)) | exact zm rfl (by simp) | exact zm (congrArg some (by simp [zn] <;> omega)) rfl | exact zm (congrArg some (by simp [zn] <;> omega)) (by simp [yf, xk, yG]) | exact yC (congrArg _ (by assumption)) | exact yC (congrArg _ (Eq.symm (by assumption))))
    refine .cons rfl rfl rfl rfl (z5 rfl) (.cons rfl rfl rfl rfl (z5 rfl) (.cons rfl rfl rfl rfl ?_ (.cons rfl rfl rfl rfl (zY (zE _ _)) (.cons rfl rfl rfl rfl (zY (zE _ _)) (.cons rfl rfl rfl rfl (zY (zE _ _)) (.cons (z7 (zb (zg y6))) rfl rfl rfl (zY (zE _ _)) (.cons (z7 (zg xD)) rfl rfl rfl (zY (zE _ _)) (.cons (z7 (zb (zb (zg y7)))) rfl rfl rfl (nK rfl rfl) .nil))))))))
    exact (by repeat' first | exact zj | refine zZ ?_ ?_ | exact zp | exact le_refl rfl | exact zm rfl rfl | exact zu rfl | exact zu (congrArg some (by simp [zn] <;> omega)) | exact zm rfl (by simp) | exact zm (congrArg some (by simp [zn] <;> omega)) rfl | exact zm (congrArg some (by simp [zn] <;> omega)) (by simp [yf, xk, yG]) | exact yC (congrArg _ (by assumption)) | exact yC (congrArg _ (Eq.symm (by assumption))))
theorem eU (s : So) (g : Int) (hok : okSo s) (hb : VBa s) (hm : yj s ≤ 60) (hp : s.ph = 1) (hf : uh s g) (hh : s.heap = []) (hd : s.dfr = []) : AW Go.Proofs.Try.prog up (stQ s (yG (y8 s)) g []) (stT s s g []) := by
  have g2 := hok.dfr
  have g4 := hok.out
  have g5 := hok.runs
  have hh0 : s.heap.length = 0 := by rw [hh]; rfl
  have hd0 : s.dfr.length = 0 := by rw [hd]; rfl
  rcases Nat.eq_zero_or_pos s.out.length with h0 | h0
  · have e : yG (y8 s) = { s with lp := 0, rp := 0, ph := cond (decide (s.runs.length = 0)) 4 (cond (decide (s.runs.length = 1)) 3 2) } := by
      rw [y8, decide_eq_false (by omega), cond_false, yG]
    rw [e]
    have an := s5 (bxS (soE s)) (bxS zS) (.sl 4 0 s.input.length) (I s.pos) (.sl 5 0 s.heap.length) (.sl 6 0 s.dfr.length) (.sl 7 0 s.out.length) (I s.lp) (I s.rp) (I s.ph) (I s.wr) 8 0 s.runs.length (rwR [] :: soR 4 s)
    repeat' first | (refine zh rfl (fun _ => ?_) (fun h => absurd hp (of_decide_eq_false h))) | (refine wv 10 (T10 s g) (xb ?_) ?_) | (refine yb rfl rfl (fun _ => ?_) (fun h => absurd (of_decide_eq_false h) (by omega))) | (refine zh rfl (fun h => absurd (of_decide_eq_true h) (by omega)) (fun _ => ?_)) | refine zL ?_ | refine zA ?_ | refine zQ [] ?_ | (refine isA ?_; refine zf rfl ?_) | (refine isL ?_; refine zV rfl (by kernel_rfl) rfl rfl ?_) | (refine zc rfl ?_; refine zU rfl (by kernel_rfl) rfl rfl ?_) | (refine zr 63 ?_; refine za rfl (yN rfl an rfl) rfl ?_) | (refine zq 63 rfl ?_; refine zT rfl (by kernel_rfl) rfl (yN rfl an rfl) rfl ?_) | refine zD ?_ | refine zB _ rfl (by kernel_rfl) ?_ | refine zW rfl ?_ | refine zX rfl ?_ | refine zC ?_ | with_reducible refine zO ?_ | refine zI ?_ | refine zJ ?_ | (with_reducible first | refine zM ?_ | refine zN ?_ | refine zF ?_ | refine zH ?_ | refine zG ?_) | refine zP ?_
    · exact wI (sH s g hok hb hm hf)
    · exact And.intro rfl (wW [0, 1, 2, 3, 4, 5, 6, 7, 8] (List.range' 9 s.runs.length) rfl (by simp) (xI (by simp <;> omega) (fun h hh => by simp at hh; omega)) (by repeat' first | exact HLes.nil | refine HLes.cons rfl rfl rfl rfl (zY (zE _ _)) ?_ | refine HLes.cons rfl rfl rfl rfl (z5 rfl) ?_ | refine HLes.cons rfl rfl rfl rfl (wB (fun j hj => wQ _ 9 _ j hj)) ?_ | refine HLes.cons (z7 (zg xG)) rfl rfl rfl (zY (zE _ _)) ?_ | refine HLes.cons (z7 (zg y7)) rfl rfl rfl (zY (zE _ _)) ?_ | refine HLes.cons (z7 (zg y6)) rfl rfl rfl (zY (zE _ _)) ?_ | refine HLes.cons (z7 (zg xD)) rfl rfl rfl (zY (zE _ _)) ?_ | refine HLes.cons (z7 (zb (zg xG))) rfl rfl rfl (zY (zE _ _)) ?_ | refine HLes.cons (z7 (zb (zg y7))) rfl rfl rfl (zY (zE _ _)) ?_ | refine HLes.cons (z7 (zb (zg y6))) rfl rfl rfl (zY (zE _ _)) ?_ | refine HLes.cons (z7 (zb (zg xD))) rfl rfl rfl (zY (zE _ _)) ?_ | refine HLes.cons (z7 (zb (zb (zg xG)))) rfl rfl rfl (zY (zE _ _)) ?_ | refine HLes.cons (z7 (zb (zb (zg y7)))) rfl rfl rfl (zY (zE _ _)) ?_ | refine HLes.cons (z7 (zb (zb (zg y6)))) rfl rfl rfl (zY (zE _ _)) ?_ | refine HLes.cons (z7 (zb (zb (zg xD)))) rfl rfl rfl (zY (zE _ _)) ?_ | refine HLes.cons rfl rfl rfl rfl (by repeat' first | exact zj | refine zZ ?_ ?_ | exact zp | exact le_refl rfl | exact zm rfl rfl | exact zu rfl | exact zu (congrArg some (by simp [zn] <;> omega)) | exact zm rfl (by simp) | exact zm (congrArg some (by simp [zn] <;> omega)) rfl | exact zm (congrArg some (by simp [zn] <;> omega)) (by simp [yf, xk, yG]) | exact yC (congrArg _ (by assumption)) | exact yC (congrArg _ (Eq.symm (by assumption)))) ?_) (fun j i x hi hx => by rw [ix9 hi]; exact uG (xQ hx)) (by repeat' first | exact zj | refine zZ ?_ ?_ | exact zp | exact le_refl rfl | exact zm rfl rfl | exact zu rfl | exact zu (congrArg some (by simp [zn] <;> omega)) | exact zm rfl (by simp) | exact zm (congrArg some (by simp [zn] <;> omega)) rfl | exact zm (congrArg some (by simp [zn] <;> omega)) (by simp [yf, xk, yG]) | exact yC (congrArg _ (by assumption)) | exact yC (congrArg _ (Eq.symm (by assumption)))))
  · have e : yG (y8 s) = { s with runs := s.runs ++ [s.out], out := [], lp := 0, rp := 0, ph := cond (decide (s.runs.length + 1 = 0)) 4 (cond (decide (s.runs.length + 1 = 1)) 3 2) } := by
      rw [y8, decide_eq_true h0, cond_true, yG, xk]
      simp
    rw [e]
    have ae := nk (bxS (soE s)) (bxS zS) (rwR []) (rwR s.input) (rwR s.heap) (rwR s.dfr) (.sl 4 0 s.input.length) (I s.pos) (.sl 5 0 s.heap.length) (.sl 6 0 s.dfr.length) (I s.lp) (I s.rp) (I s.ph) (I s.wr) s.out (nC 9 s.runs) s.runs.length (xM _ _) (nR rwT 78 s.runs) (by omega)
    repeat' first | (refine zh rfl (fun _ => ?_) (fun h => absurd hp (of_decide_eq_false h))) | (refine wv 10 (T10 s g) (xb ?_) ?_) | (refine yb rfl rfl (fun _ => ?_) (fun h => absurd (of_decide_eq_false h) (by omega))) | (refine zh rfl (fun h => absurd (of_decide_eq_true h) (by omega)) (fun _ => ?_)) | (refine zh rfl (fun _ => ?_) (fun h => absurd (of_decide_eq_false h) (by omega))) | refine zL ?_ | refine zA ?_ | refine zQ [] ?_ | (refine isA ?_; refine zf rfl ?_) | (refine isL ?_; refine zV rfl (by kernel_rfl) rfl rfl ?_) | (refine zc rfl ?_; refine zU rfl (by kernel_rfl) rfl rfl ?_) | (refine zr 60 ?_; refine za rfl (yN rfl ae rfl) rfl ?_) | (refine zq 60 rfl ?_; refine zT rfl (by kernel_rfl) rfl (yN rfl ae rfl) rfl ?_) | (refine zr 63 ?_; refine za rfl (yN rfl (s5 _ _ _ _ _ _ _ _ _ _ _ _ _ _ _) rfl) rfl ?_) | (refine zq 63 rfl ?_; refine zT rfl (by kernel_rfl) rfl (yN rfl (s5 _ _ _ _ _ _ _ _ _ _ _ _ _ _ _) rfl) rfl ?_) | refine zD ?_ | refine zB _ rfl (by kernel_rfl) ?_ | refine zW rfl ?_ | refine zX rfl ?_ | refine zC ?_ | with_reducible refine zO ?_ | refine zI ?_ | refine zJ ?_ | (with_reducible first | refine zM ?_ | refine zN ?_ | refine zF ?_ | refine zH ?_ | refine zG ?_) | refine zP ?_
    · exact wI (sH s g hok hb hm hf)
    · refine And.intro rfl (Sub.trans ?_ (vi (l' := _) 78 3 (.rest _) (.cons (.rest _) (.cons (.rest _) (.cons (.cons (.same _) (.cons (.same _) (.cons (.same _) (.cons (.same _) (.cons .nil (.rest _)))))) (.rest _))))))
      refine wW [0, 1, 2, 3, 4, 5, 6, s.runs.length + 2 + 9, s.runs.length + 1 + 9] (List.range' 9 s.runs.length ++ [7]) rfl (by simp) (sm (by simp <;> omega) (fun h hh => by simp at hh; omega)) ?_ (qS (fun j x hx => uG (zb (zb (zb (xQ hx))))) rfl) (by repeat' first | exact zj | refine zZ ?_ ?_ | exact zp | exact le_refl rfl | exact zm rfl rfl | exact zu rfl | exact zu (congrArg some (by simp [zn] <;> omega)) | exact zm rfl (by simp) | exact zm (congrArg some (by simp [zn] <;> omega)) rfl | exact zm (congrArg some (by simp [zn] <;> omega)) (by simp [yf, xk, yG]) | exact yC (congrArg _ (by assumption)) | exact yC (congrArg _ (Eq.symm (by assumption))))
      refine .cons rfl rfl rfl rfl (z5 rfl) (.cons rfl rfl rfl rfl (z5 rfl) (.cons rfl rfl rfl rfl ?_ (.cons rfl rfl rfl rfl (zY (zE _ _)) (.cons rfl rfl rfl rfl (zY (zE _ _)) (.cons rfl rfl rfl rfl (zY (zE _ _)) (.cons rfl rfl rfl rfl (zY (zE _ _)) (.cons (z7 (zg y6)) rfl rfl rfl (zY (zE _ _)) (.cons (z7 (zb (zg y7))) rfl rfl rfl (nK rfl rfl) .nil))))))))
      exact (by repeat' first | exact zj | refine zZ ?_ ?_ | exact zp | exact le_refl rfl | exact zm rfl rfl | exact zu rfl | exact zu (congrArg some (by simp [zn] <;> omega)) | exact zm rfl (by simp) | exact zm (congrArg some (by simp [zn] <;> omega)) rfl | exact zm (congrArg some (by simp [zn] <;> omega)) (by simp [yf, xk, yG]) | exact yC (congrArg _ (by assumption)) | exact yC (congrArg _ (Eq.symm (by assumption))))
end Go.Proofs.Ytojcojanokhnaaa.Ab
namespace Go.Proofs.Ytojcojanokhnaaa.Ab
open Go.RowKit
theorem get7 {a0 a1 a2 a3 a4 a5 a6 x : Reg} {L : List Reg} {j : Nat} (h : L[j]? = some x) : (a0 :: a1 :: a2 :: a3 :: a4 :: a5 :: a6 :: L)[7 + j]? = some x := by
  rw [Nat.add_comm]; exact h
theorem ix7 {n j i : Nat} (h : (List.range' 7 n)[j]? = some i) : i = 7 + j := by
  rw [List.getElem?_range'] at h
  · have := Option.some.inj h; omega
  · exact Nat.lt_of_not_le fun hn => by rw [List.getElem?_eq_none (by simpa using hn)] at h; cases h
theorem cN (s x : So) (g : Int) (r : List Rw) (hok : okSo s) (hv : vS s = true) (hp : s.ph = 1) (h : StepV s g x r) : AW Go.Proofs.Try.prog up (stQ s x g r) (stT s s g []) := by
  have hV := tS.1 hv
  cases hV with
  | read b q =>
    have hm : yj s ≤ 60 := by rw [vL q.ph]; exact q.mem
    cases h with
    | put _ hr hf => exact c_put s g _ hok b hm hp hr hf
    | pop _ hf hh hk hr => exact c_pop s g _ _ hok b hm hp hf hh hk hr
    | swap _ hf hh hd => exact cG s g hok b hm hp hf hh hd
    | close _ hf hh hd => exact eU s g hok b hm hp hf hh hd
    | merged h2 => omega
    | left h2 => omega
    | right h2 => omega
    | emit h2 => omega
  | merge b t ph => omega
  | emit b t ph => omega
  | done b t ph => omega
end Go.Proofs.Ytojcojanokhnaaa.Ab
namespace Go.Proofs.Ytojcojanokhnaaa.Ab
open Go.RowKit
theorem VwS.app {H : List Reg} : ∀ (cs : List V) {ds es : List V}, VwS H ds es → VwS H (cs ++ ds) (cs ++ es)
  | [], _, _, h => h
  | c :: cs, _, _, h => .cons (.same c) (VwS.app cs h)
abbrev rnR (rs : List Rn) : Reg := yV rnT 84 rs
theorem ti {o : Oper} {ρ : Operand → V} {H : List Reg} {h hz zi n : Nat} {s x : Operand} {outs : List Rn} (ho : o.op = .call { callee := .builtin .append, args := #[s, x], argTypes := #[25, 25] })
    (hs : ρ s = .sl h 0 outs.length) (hH0 : H[h]? = some (rnR outs)) (hx : ρ x = .sl hz 0 1) (hzz : H[hz]? = some ⟨84, 1, [.sl zi 0 n], 0⟩) (hl : outs.length ≤ 10000000) :
    z8 Go.Proofs.Try.prog o ρ H (.sl H.length 0 (outs.length + 1)) (H.set h ⟨84, 1, rnT.flat outs, 2⟩ ++ [⟨84, 1, rnT.flat outs ++ [.sl zi 0 n], 0⟩]) := by
  have hsrc : Src H (ρ x) 1 [.sl zi 0 n] := by
    rw [hx]
    have := Src.sl (H := H) (off := 0) (m := 1) (r := ⟨84, 1, [.sl zi 0 n], 0⟩) hzz (Nat.zero_le _) (Nat.le_refl _)
    exact this
  have hH : H[h]? = some ⟨84, 1, rnT.flat outs, 0⟩ := hH0
  have fl : (rnT.flat outs).length = outs.length := by rw [yL]; show outs.length * 1 = _; omega
  have := vP (P := Go.Proofs.Try.prog) (ρ := ρ) (ty := 25) (m := 1) ho hs hH rfl rfl rfl (by show outs.length * 1 ≤ (rnT.flat outs).length; omega) hsrc rfl (fun c hc => by simp at hc; subst hc; rfl) (by omega) (by simp only [maxLen]; omega)
  have e1 : (⟨84, 1, rnT.flat outs, 0⟩ : Reg).cells.take (outs.length * 1) = rnT.flat outs := by
    show (rnT.flat outs).take _ = _
    rw [List.take_of_length_le]; omega
  rw [e1] at this
  exact this
theorem m9 {ψ : List Nat} : ∀ {cs ds es fs : List V}, Les ψ cs ds → Les ψ es fs → Les ψ (cs ++ es) (ds ++ fs)
  | [], ds, es, fs, h, k => by
    have := xq h
    rw [List.eq_nil_of_length_eq_zero (show ds.length = 0 from this)]
    exact k
  | c :: cs, ds, es, fs, h, k => by
    rw [Les] at h
    obtain ⟨d, ds', rfl, h1, h2⟩ := h
    exact zZ h1 (m9 h2 k)
theorem tc (outs : List Rn) (run : Rn) : rnT.flat (outs ++ [run]) = rnT.flat outs ++ [rwL run] := by rw [vT]; rfl
theorem kV {l : List V} {outs : List Rn} {run : Rn} (hl : Les [0] l l) :
    Sub ⟨l, [rnR (outs ++ [run])], 0⟩ ⟨l, [⟨84, 1, rnT.flat outs ++ [.sl 1 0 run.length], 0⟩, rwR run], 0⟩ := by
  refine Sub.trans ?_ (pg (h := 1) (r := rwR run) rfl rfl (Nat.zero_le _) (fun i hi => absurd hi (Nat.not_lt_zero _)))
  refine Sub.trans ?_ (kU (l' := l) (K := [rnR (outs ++ [run]), { rwR run with mode := 1 }]) (.rest _) (.cons ?_ (.rest _)))
  · exact yW [0] rfl rfl (by decide) (.cons rfl rfl rfl rfl (zY (zE _ _)) .nil) hl
  · rw [tc]
    exact VwS.app _ (.cons (.pur (.sl (r := { rwR run with mode := 1 }) rfl (Or.inl rfl) (zE _ _) (show 0 < 3 by omega) (by show (0 + run.length) * 3 ≤ (rwT.flat run).length; rw [yL]; show _ ≤ run.length * 3; omega) (by show rwT.flat run = ((rwT.flat run).drop (0 * 3)).take (run.length * 3); rw [Nat.zero_mul, List.drop_zero, List.take_of_length_le (by rw [yL]; exact Nat.le_refl _)]))) (.rest _))
theorem sh {live : Bool} {H : List Reg} : ∀ {cs ds es fs : List V}, Purs live H cs ds → Purs live H es fs → Purs live H (cs ++ es) (ds ++ fs)
  | _, _, _, _, .nil, k => k
  | _, _, _, _, .cons h hs, k => .cons h (sh hs k)
theorem tU {live : Bool} {H : List Reg} : ∀ {cs : List V}, NoH cs → Purs live H cs cs
  | [], _ => .nil
  | c :: cs, h => .cons (.same (h c (List.mem_cons_self ..))) (tU fun d hd => h d (List.mem_cons_of_mem _ hd))
theorem yY {H : List Reg} {h zi ty : Nat} {outs : List Rn} {run : Rn} (hH : H[h]? = some ⟨ty, 1, rnT.flat outs ++ [.sl zi 0 run.length], 0⟩) (hz : H[zi]? = some (rwR run)) : Pur true H (.sl h 0 (outs.length + 1)) (rnL (outs ++ [run])) := by
  have fl : (rnT.flat outs).length = outs.length := by rw [yL]; show outs.length * 1 = _; omega
  have e : (outs ++ [run]).length = outs.length + 1 := by simp
  rw [← e]
  refine .slN hH (Or.inr ⟨rfl, rfl⟩) (Nat.lt_succ_self 0) (by simp only [List.length_append, fl, List.length_singleton]; omega) ?_
  have q : (List.take ((outs ++ [run]).length * 1) (List.drop (0 * 1) (rnT.flat outs ++ [.sl zi 0 run.length]))) = rnT.flat outs ++ [.sl zi 0 run.length] := by
    rw [Nat.zero_mul, List.drop_zero, List.take_of_length_le (by simp only [List.length_append, fl, List.length_singleton]; omega)]
  show Purs true H (List.take ((outs ++ [run]).length * 1) (List.drop (0 * 1) (rnT.flat outs ++ [.sl zi 0 run.length]))) (rnT.flat (outs ++ [run]))
  rw [q, tc]
  exact sh (tU (zE _ _)) (.cons (zk hz) .nil)
theorem kK (rs : List Rn) (hok : t5 rs) (hl : rs.length ≤ 10000000) : zy Go.Proofs.Try.prog 118 [rnL rs] [] (.sl 0 0 rs.length) [rnR rs] true := by
  refine zw [2] Go.Proofs.Try.func118 rfl rfl ?_
  simp only [Go.Proofs.Try.ntmps118, List.length_cons, List.length_nil, Nat.reduceAdd, Nat.reduceSub, List.replicate_succ, List.replicate_zero, List.cons_append, List.nil_append]
  repeat' first | refine zL ?_ | refine zA ?_ | refine zQ [] ?_ | (refine isA ?_; refine zf rfl ?_) | (refine isL ?_; refine zV rfl (by kernel_rfl) rfl rfl ?_) | (refine zc rfl ?_; refine zU rfl (by kernel_rfl) rfl rfl ?_) | refine zD ?_ | refine zB _ rfl (by kernel_rfl) ?_ | refine zW rfl ?_ | refine zX rfl ?_ | refine zC ?_ | with_reducible refine zO ?_ | refine zI ?_ | refine zJ ?_ | (with_reducible first | refine zM ?_ | refine zN ?_ | refine zF ?_ | refine zH ?_ | refine zG ?_) | refine zP ?_
  refine z9 (α := { i : Nat // i ≤ rs.length }) (fun i => ⟨[rnL rs, .any, .any, .sl 0 0 (rs.take i.1).length, I i.1, .any, .any, .any, .any, .any, .any, .any, .any, .any, .any, .any, .any, .any, .any, .any, .any, .any, .any, .any], [rnR (rs.take i.1)], 0⟩) (fun i => rs.length - i.1) ⟨0, Nat.zero_le _⟩ ?_ ?_
  · exact yW [0] rfl rfl (by decide) (by repeat' first | exact HLes.nil | refine HLes.cons rfl rfl rfl rfl ?_ ?_ | exact zj | refine zZ ?_ ?_ | exact zp | exact le_refl rfl | exact zm rfl rfl | exact zu rfl) (by repeat' first | exact zj | refine zZ ?_ ?_ | exact zp | exact le_refl rfl | exact zm rfl rfl | exact zu rfl)
  · rintro ⟨i, hi⟩
    repeat' first | refine zL ?_ | refine zA ?_ | refine zQ [] ?_ | (refine isA ?_; refine zf rfl ?_) | (refine isL ?_; refine zV rfl (by kernel_rfl) rfl rfl ?_) | (refine zc rfl ?_; refine zU rfl (by kernel_rfl) rfl rfl ?_) | refine zD ?_ | refine zB _ rfl (by kernel_rfl) ?_ | refine zW rfl ?_ | refine zX rfl ?_ | refine zC ?_ | with_reducible refine zO ?_ | refine zI ?_ | refine zJ ?_ | (with_reducible first | refine zM ?_ | refine zN ?_ | refine zF ?_ | refine zH ?_ | refine zG ?_) | refine zP ?_
    refine zh rfl (fun h => ?_) (fun h => ?_)
    · have hlt : i < rs.length := by simpa using h
      obtain ⟨x, hx⟩ : ∃ x, rs[i]? = some x := ⟨_, List.getElem?_eq_getElem hlt⟩
      have hxl := hok.at hx
      repeat' first | refine zL ?_ | refine zA ?_ | refine zQ [] ?_ | (refine isA ?_; refine zf rfl ?_) | (refine isL ?_; refine zV rfl (by kernel_rfl) rfl rfl ?_) | (refine zc rfl ?_; refine zU rfl (by kernel_rfl) rfl rfl ?_) | (refine yB (x := .tmp 14) ?_; refine za rfl (zz (t := rnT) (z := x) rfl rfl rfl rfl (Int.natCast_nonneg i) hx) rfl ?_) | (refine yA (x := .tmp 14) rfl ?_; refine zT rfl (by kernel_rfl) rfl (zz (t := rnT) (z := x) rfl rfl rfl rfl (Int.natCast_nonneg i) hx) rfl ?_) | (refine xd ?_; refine za rfl (yX (t := rwT) (xs := []) (ys := x) rfl rfl rfl rfl (.lst _ _) (by simp; omega) rfl) rfl ?_) | (refine xH rfl ?_; refine zT rfl (by kernel_rfl) rfl (yX (t := rwT) (xs := []) (ys := x) rfl rfl rfl rfl (.lst _ _) (by simp; omega) rfl) rfl ?_) | (refine xd ?_; refine za rfl (ti (outs := rs.take i) (hz := 3) (zi := 2) (n := x.length) rfl rfl rfl rfl rfl (by simp; omega)) rfl ?_) | (refine xH rfl ?_; refine zT rfl (by kernel_rfl) rfl (ti (outs := rs.take i) (hz := 3) (zi := 2) (n := x.length) rfl rfl rfl rfl rfl (by simp; omega)) rfl ?_) | refine zD ?_ | refine zB _ rfl (by kernel_rfl) ?_ | refine zW rfl ?_ | refine zX rfl ?_ | refine zC ?_ | with_reducible refine zO ?_ | refine zI ?_ | refine zJ ?_ | (with_reducible first | refine zM ?_ | refine zN ?_ | refine zF ?_ | refine zH ?_ | refine zG ?_) | refine zP ?_
      refine ⟨⟨i + 1, hlt⟩, by simp only; omega, ?_⟩
      simp only
      rw [yw hx]
      refine Sub.trans (kV (outs := rs.take i) (run := x) (by repeat' first | exact zj | refine zZ ?_ ?_ | exact zp | exact le_refl rfl | exact zm rfl rfl | exact zu rfl)) ?_
      exact yW [4, 2] rfl rfl (by decide) (.cons rfl rfl rfl rfl (m9 (zY (zE _ _)) (zZ (zm rfl rfl) zj)) (.cons rfl rfl rfl rfl (zY (zE _ _)) .nil)) (by
        repeat' first | exact zj | refine zZ ?_ ?_ | exact zp | exact le_refl rfl | exact zm rfl rfl | exact zm rfl (by simp) | exact xL (by assumption) (by omega))
    · have hge : i = rs.length := by
        have : ¬ ((i : Int) < rs.length) := by simpa using h
        omega
      subst hge
      have e : rs.take rs.length = rs := List.take_length
      repeat' first | refine zL ?_ | refine zA ?_ | refine zQ [] ?_ | (refine isA ?_; refine zf rfl ?_) | (refine isL ?_; refine zV rfl (by kernel_rfl) rfl rfl ?_) | (refine zc rfl ?_; refine zU rfl (by kernel_rfl) rfl rfl ?_) | refine zD ?_ | refine zB _ rfl (by kernel_rfl) ?_ | refine zW rfl ?_ | refine zX rfl ?_ | refine zC ?_ | with_reducible refine zO ?_ | refine zI ?_ | refine zJ ?_ | (with_reducible first | refine zM ?_ | refine zN ?_ | refine zF ?_ | refine zH ?_ | refine zG ?_) | refine zP ?_
      exact mJ 0 [0] (fun i hi => absurd hi (Nat.not_lt_zero _)) (by decide) rfl (zm rfl (congrArg List.length e)) (.cons rfl rfl rfl rfl (by show Les _ (rnT.flat rs) (rnT.flat (rs.take rs.length)); rw [e]; exact zY (zE _ _)) .nil)
abbrev soP (b : Nat) (s : So) : List V := [.sl b 0 s.input.length, I s.pos, .sl (b + 1) 0 s.heap.length, .sl (b + 2) 0 s.dfr.length, .sl (b + 3) 0 s.out.length, .sl (b + 4) 0 s.runs.length, I s.lp, I s.rp, I s.ph, I s.wr]
abbrev soW (s : So) : List Reg := [rwR s.input, rwR s.heap, rwR s.dfr, rwR s.out, rnR s.runs]
theorem wF (s : So) (hok : okSo s) : zy Go.Proofs.Try.prog 65 [.agg (soE s)] [] (.agg (soP 0 s)) (soW s) true := by
  have g1 := hok.input
  have g2 := hok.heap
  have g3 := hok.dfr
  have g4 := hok.out
  have g5 := hok.runs
  have a1 := kK s.runs hok.rn (by omega)
  refine wa 2 27 Go.Proofs.Try.func65 rfl rfl ?_
  simp only [Go.Proofs.Try.ntmps65, List.length_cons, List.length_nil, Nat.reduceAdd, Nat.reduceSub, List.replicate_succ, List.replicate_zero, List.cons_append, List.nil_append]
  repeat' first | refine zL ?_ | refine zA ?_ | refine zQ [] ?_ | (refine isA ?_; refine zf rfl ?_) | (refine isL ?_; refine zV rfl (by kernel_rfl) rfl rfl ?_) | (refine zc rfl ?_; refine zU rfl (by kernel_rfl) rfl rfl ?_) | (refine xd ?_; refine za rfl (yX (t := rwT) (xs := []) (ys := s.input) rfl rfl rfl rfl (.lst _ _) (by simp; omega) rfl) rfl ?_) | (refine xH rfl ?_; refine zT rfl (by kernel_rfl) rfl (yX (t := rwT) (xs := []) (ys := s.input) rfl rfl rfl rfl (.lst _ _) (by simp; omega) rfl) rfl ?_) | (refine xd ?_; refine za rfl (yX (t := rwT) (xs := []) (ys := s.heap) rfl rfl rfl rfl (.lst _ _) (by simp; omega) rfl) rfl ?_) | (refine xH rfl ?_; refine zT rfl (by kernel_rfl) rfl (yX (t := rwT) (xs := []) (ys := s.heap) rfl rfl rfl rfl (.lst _ _) (by simp; omega) rfl) rfl ?_) | (refine xd ?_; refine za rfl (yX (t := rwT) (xs := []) (ys := s.dfr) rfl rfl rfl rfl (.lst _ _) (by simp; omega) rfl) rfl ?_) | (refine xH rfl ?_; refine zT rfl (by kernel_rfl) rfl (yX (t := rwT) (xs := []) (ys := s.dfr) rfl rfl rfl rfl (.lst _ _) (by simp; omega) rfl) rfl ?_) | (refine xd ?_; refine za rfl (yX (t := rwT) (xs := []) (ys := s.out) rfl rfl rfl rfl (.lst _ _) (by simp; omega) rfl) rfl ?_) | (refine xH rfl ?_; refine zT rfl (by kernel_rfl) rfl (yX (t := rwT) (xs := []) (ys := s.out) rfl rfl rfl rfl (.lst _ _) (by simp; omega) rfl) rfl ?_) | (refine zr 118 ?_; refine za rfl (z6 rfl a1 (.cons (.same rfl) .nil) (fun q hq => by simp at hq; subst hq; exact zE _ _) rfl rfl) rfl ?_) | (refine zq 118 rfl ?_; refine zT rfl (by kernel_rfl) rfl (z6 rfl a1 (.cons (.same rfl) .nil) (fun q hq => by simp at hq; subst hq; exact zE _ _) rfl rfl) rfl ?_) | refine zD ?_ | refine zB _ rfl (by kernel_rfl) ?_ | refine zW rfl ?_ | refine zX rfl ?_ | refine zC ?_ | with_reducible refine zO ?_ | refine zI ?_ | refine zJ ?_ | (with_reducible first | refine zM ?_ | refine zN ?_ | refine zF ?_ | refine zH ?_ | refine zG ?_) | refine zP ?_
  exact finMC [4, 6, 8, 10, 11] (by decide) (yU rfl rfl rfl rfl rfl) (su (by repeat' first | exact zj | refine zZ ?_ ?_ | exact zp | exact le_refl rfl | exact zm rfl rfl | exact zu rfl | exact zu (congrArg some (by simp [zn] <;> omega)) | exact zm rfl (by simp) | exact zm (congrArg some (by simp [zn] <;> omega)) rfl | exact zm (congrArg some (by simp [zn] <;> omega)) (by simp [yf, xk, yG]) | exact yC (congrArg _ (by assumption)) | exact yC (congrArg _ (Eq.symm (by assumption))))) (.cons rfl rfl rfl rfl (zY (zE _ _)) (.cons rfl rfl rfl rfl (zY (zE _ _)) (.cons rfl rfl rfl rfl (zY (zE _ _)) (.cons rfl rfl rfl rfl (zY (zE _ _)) (.cons rfl rfl rfl rfl (zY (zE _ _)) .nil)))))
end Go.Proofs.Ytojcojanokhnaaa.Ab
namespace Go.Proofs.Ytojcojanokhnaaa.Ab
open Go.RowKit
theorem jN {h m : Nat} {R : Reg} {c0 c1 d0 d1 : V} {cs ds es fs : List V} {S : St} (hm0 : S.m = 0) (hH : S.H[h]? = some R) (hR : R.mode = 0) (hN : NoH R.cells)
    (p0 : Pur true (S.H.set h (vN R)) c0 d0) (p1 : Pur true (S.H.set h (vN R)) c1 d1) (ps : Purs true (S.H.set h (vN R)) cs ds) (pe : Purs true (S.H.set h (vN R)) es fs) :
    Out true (.tup (.agg (d0 :: d1 :: .sl 0 0 m :: ds) :: fs)) [R] (.tup (.agg (c0 :: c1 :: .sl h 0 m :: cs) :: es)) S := by
  intro C A φ w x hm hA hv
  have h0 : C.φ0 = [] := List.length_eq_zero_iff.1 (hm.trans hm0)
  have hlt : h < S.H.length := (List.getElem?_eq_some_iff.1 hH).1
  obtain ⟨hd, hhd⟩ : ∃ hd, φ[h]? = some hd := ⟨_, List.getElem?_eq_getElem (by rw [hA.ok.len]; exact hlt)⟩
  have hget : ∀ (i : Nat) (q : Reg), (S.H.set h (vN R))[i]? = some q → q.mode ≤ 1 → i ≠ h ∧ S.H[i]? = some q := fun i q hq hm1 => by
    rw [List.getElem?_set] at hq
    split at hq
    · rename_i e
      subst e
      simp only [Option.some.injEq] at hq
      subst hq
      exact absurd (show (2 : Nat) ≤ 1 from hm1) (by decide)
    · rename_i e
      exact ⟨fun e1 => e e1.symm, hq⟩
  have hlive : ∀ i b, z4 φ (S.H.set h (vN R)) i b → i ≠ h ∧ z4 φ S.H i b := fun i b ⟨e, q, q1, q2, q3, q4⟩ =>
    have := hget i q q2 (by omega)
    ⟨this.1, e, q, q1, this.2, q3, q4⟩
  have kd : HeapOk A w φ (S.H.set h (vN R)) := ⟨by rw [hA.ok.len, List.length_set], fun i e q q1 q2 q3 => hA.ok.regs i e q q1 (hget i q q2 q3).2 q3, fun i j b q1 q2 => hA.ok.inj i j b (hlive i b q1).2 (hlive j b q2).2, fun i b q1 => hA.ok.apart i b (hlive i b q1).2, fun i e q b q1 q2 q3 q4 => hA.ok.frz i e q b q1 (hget i q q2 (by omega)).2 q3 q4, hA.ok.low⟩
  have hone : ∀ i b, z4 [hd] [R] i b → z4 φ S.H h b := fun i b ⟨e, q, q1, q2, q3, q4⟩ => by
    match i, q1, q2 with
    | 0, q1, q2 =>
      simp only [List.getElem?_cons_zero, Option.some.injEq] at q1 q2
      subst q1 q2
      exact ⟨_, _, hhd, hH, q3, q4⟩
  have hPm : ∀ {v v' : V} {y : Value}, Pur true (S.H.set h (vN R)) v v' → Rel A w φ v y → Rel (fun b => A b ∨ ∃ i, z4 φ (S.H.set h (vN R)) i b) w [hd] v' y := fun hp hy =>
    Rel.mono (fun b hb => ⟨hb, rfl⟩) (fun j e hj => by simp at hj) (Pur.rel kd (fun b hb => Or.inl hb) (fun _ j b hb => Or.inr ⟨j, hb⟩) hp hy)
  have hPs : ∀ {v v' : List V} {g : Nat → Option Value}, Purs true (S.H.set h (vN R)) v v' → zx A w φ v g → zx (fun b => A b ∨ ∃ i, z4 φ (S.H.set h (vN R)) i b) w [hd] v' g := fun hp hy =>
    zx.mono (fun b hb => ⟨hb, rfl⟩) (fun j e hj => by simp at hj) (Purs.rels kd (fun b hb => Or.inl hb) (fun _ j b hb => Or.inr ⟨j, hb⟩) hp hy)
  have hlen1 := ps.length
  have hlen2 := pe.length
  refine ⟨[hd], fun b => A b ∨ ∃ i, z4 φ (S.H.set h (vN R)) i b, ⟨rfl, fun i e q q1 q2 q3 => ?_, fun i j b q1 q2 => ?_, fun i b q1 hb => ?_, fun i e q b q1 q2 q3 q4 => ?_, fun b hb => ?_⟩, ?_, fun b hb => ?_, fun i b q1 => hA.own h b (hone i b q1), fun i e h1 => by rw [h0] at h1; simp at h1⟩
  · match i, q1, q2 with
    | 0, q1, q2 =>
      simp only [List.getElem?_cons_zero, Option.some.injEq] at q1 q2
      subst q1 q2
      obtain ⟨e1, e2⟩ := hA.ok.regs h _ _ hhd hH q3
      refine ⟨e1, ?_⟩
      cases hk : hd.blk with
      | none => rw [hk] at e2; exact e2
      | some b =>
        rw [hk] at e2
        obtain ⟨c, f1, f2, f3, f4⟩ := e2
        exact ⟨c, f1, f2, f3, zx.mono (fun b hb => ⟨Or.inl hb, rfl⟩) (fun _ _ h => h) (wP hN f4)⟩
  · have e1 := (List.getElem?_eq_some_iff.1 q1.choose_spec.choose_spec.1).1
    have e2 := (List.getElem?_eq_some_iff.1 q2.choose_spec.choose_spec.1).1
    simp only [List.length_singleton] at e1 e2
    omega
  · have hl := hone i b q1
    rcases hb with hb | ⟨j, hb⟩
    · exact hA.ok.apart h b hl hb
    · have := hlive j b hb
      exact this.1 (hA.ok.inj j h b this.2 hl)
  · match i, q1, q2 with
    | 0, q1, q2 =>
      simp only [List.getElem?_cons_zero, Option.some.injEq] at q2
      subst q2
      rw [hR] at q3
      cases q3
  · rcases hb with hb | ⟨j, hb⟩
    · exact hA.ok.low b hb
    · obtain ⟨g1, e, q, g2, g3, g4, g5⟩ := hlive j b hb
      exact wU hA.ok g2 g3 (by omega) g5
  · simp only [Rel, zx] at hv ⊢
    obtain ⟨xs, rfl, hs, ⟨y, hy, zs, rfl, hz, ⟨y0, z0, k0⟩, ⟨y1, z1, k1⟩, ⟨y2, z2, k2⟩, kr⟩, hr⟩ := hv
    refine ⟨xs, rfl, by rw [hs]; simp only [List.length_cons]; omega, ⟨_, hy, zs, rfl, by rw [hz]; simp only [List.length_cons]; omega, ⟨y0, z0, hPm p0 k0⟩, ⟨y1, z1, hPm p1 k1⟩, ⟨y2, z2, ?_⟩, hPs ps kr⟩, hPs pe hr⟩
    obtain ⟨hd', e1, e2⟩ := k2
    rw [hhd] at e1
    simp only [Option.some.injEq] at e1
    subst e1
    exact ⟨hd, rfl, e2⟩
  · rcases hb with hb | ⟨j, hb⟩
    · exact (hA.old b hb).imp (fun h => ⟨rfl, h⟩) id
    · obtain ⟨g1, g2⟩ := hlive j b hb
      rcases hA.own j b g2 with h1 | ⟨h9, e, q, q1, _⟩
      · exact Or.inr h1
      · rw [h0] at q1
        simp at q1
theorem wS {l : List V} {H : List Reg} {t : Tmp} {us : List Tmp} {n h m : Nat} {R : Reg} {c0 c1 d0 d1 : V} {cs ds fs : List V} (hv : CellIs l H t n (.agg (c0 :: c1 :: .sl h 0 m :: cs))) (hH : H[h]? = some R) (hR : R.mode = 0) (hN : NoH R.cells)
    (p01 : Purs true (H.set h (vN R)) [c0, c1] [d0, d1]) (ps : Purs true (H.set h (vN R)) cs ds) (pe : Purs true (H.set h (vN R)) (us.map fun u => (l[u]?).getD .any) fs) :
    (Exit.ret = .ret ∨ Exit.ret = .normal) ∧ ∃ v, CellIs l H t n v ∧ Out true (.tup (.agg (d0 :: d1 :: .sl 0 0 m :: ds) :: fs)) [R] (.tup (v :: us.map fun u => (l[u]?).getD .any)) ⟨l, H, 0⟩ :=
  match p01 with
  | .cons p0 (.cons p1 .nil) => ⟨Or.inl rfl, _, hv, jN (S := ⟨l, H, 0⟩) rfl hH hR hN p0 p1 ps pe⟩
end Go.Proofs.Ytojcojanokhnaaa.Ab
