/- What the row FnExactRunSort leans on, part 3: a walk over abstract values, and contracts proved with it. -/
import Derived.WalkKit
import Derived.Laws.Rows
import Derived.RowKit
import Derived.OrdersHeld
import Derived.Deep.RegionHeld3
import Derived.Deep.Draws
import Derived.BigCall
import Derived.KernelRfl
import Derived.Deep.Slices
import Derived.ChangeArms
import Derived.ChangeShapes
import Derived.WideShapes
import Derived.Laws.StructEq
import Derived.Lib.Overlaps
import Derived.Test.YtojcojanokhnaaaProg
import Derived.Test.YtojcojanokhnaaaZy1
set_option linter.unusedVariables false
set_option linter.unusedSimpArgs false
set_option maxRecDepth 20000
set_option maxHeartbeats 8000000
namespace Go.Proofs.Ytojcojanokhnaaa.Ab
open Go.RowKit
def sZ (xs : List Rw) (a b : Nat) : List Rw := xs.take a ++ (yM ((xs.drop a).take (b - a)) ++ xs.drop b)
theorem k7 {xs : List Rw} {a : Nat} (h : a < xs.length) : sZ xs a (a + 1) = xs := by
  obtain ⟨x, hx⟩ : ∃ z, xs[a]? = some z := ⟨_, List.getElem?_eq_getElem h⟩
  have e : xs.drop a = x :: xs.drop (a + 1) := yI hx
  rw [sZ, e, show a + 1 - a = 1 by omega]
  show xs.take a ++ ([x] ++ xs.drop (a + 1)) = xs
  rw [List.singleton_append, ← e, List.take_append_drop]
theorem ly {xs : List Rw} {a i : Nat} {x : Rw} (h : a ≤ i) (hx : xs[i]? = some x) : yM ((xs.drop a).take (i + 1 - a)) = tG x (yM ((xs.drop a).take (i - a))) := by
  have : (xs.drop a)[i - a]? = some x := by rw [List.getElem?_drop, show a + (i - a) = i by omega]; exact hx
  rw [show i + 1 - a = (i - a) + 1 by omega, List.take_add_one, this]
  exact qP _ _
theorem qY {A B : List Rw} {x : Rw} (hs : Srt (A ++ B)) (hB : ∀ z ∈ B, ¬ leW z x) (hA : ∀ y A', A = A' ++ [y] → leW y x) : A ++ x :: B = tG x (A ++ B) := by
  have h := mF (k := A.length) hs (by simp) (fun j z hj hz => by
    rw [List.getElem?_append_right hj] at hz
    exact hB z (List.mem_of_getElem? hz)) (fun z h0 hz => by
    rw [List.getElem?_append_left (by omega)] at hz
    refine hA z A.dropLast ?_
    have hne : A ≠ [] := by intro e; subst e; simp at h0
    have : A.getLast hne = z := by
      rw [List.getLast_eq_getElem]
      exact (List.getElem?_eq_some_iff.1 hz).2
    rw [← this]
    exact (List.dropLast_concat_getLast hne).symm)
  rw [List.take_left', List.drop_left'] at h
  · exact h
  · rfl
  · rfl
theorem ma {U W : List Rw} {x y : Rw} {u : Nat} (hu : U.length = u) : ((U ++ y :: x :: W).set (u + 1) y).set u x = U ++ x :: y :: W := by
  subst hu
  rw [List.set_append_right _ _ (by omega), show U.length + 1 - U.length = 1 by omega]
  show (U ++ y :: y :: W).set U.length x = _
  rw [List.set_append_right _ _ (Nat.le_refl _), Nat.sub_self]
  rfl
theorem tK {l : List V} {H : List Reg} {K : List Reg} (k : Nat) (ψ : List Nat) (hfix : ∀ i, i < k → ψ[i]? = some i) (hnd : ψ.Nodup) (hH : HLes ψ H ψ K) : (Exit.normal = .ret ∨ Exit.normal = .normal) ∧ Out true (.tup []) K (uB ⟨l, H, k⟩ []) ⟨l, H, k⟩ :=
  ⟨Or.inr rfl, uC (S := ⟨l, H, k⟩) ψ hfix (wb hnd hH) (sr zj) (Or.inl rfl)⟩
theorem fD (xs : List Rw) (a b : Nat) (h1 : a < b) (h2 : b ≤ xs.length) (hl : xs.length ≤ 100000000) : zy Go.Proofs.Try.prog 130 [.sl 0 0 xs.length, I a, I b, .fn 64 []] [rwR xs] (.tup []) [rwR (sZ xs a b)] true := by
  refine zw [] Go.Proofs.Try.func130 rfl rfl ?_
  simp only [Go.Proofs.Try.ntmps130, List.length_cons, List.length_nil, Nat.reduceAdd, Nat.reduceSub, List.replicate_succ, List.replicate_zero, List.cons_append, List.nil_append]
  repeat' first | refine zL ?_ | refine zA ?_ | refine zQ [] ?_ | (refine isA ?_; refine zf rfl ?_) | (refine isL ?_; refine zV rfl (by kernel_rfl) rfl rfl ?_) | (refine zc rfl ?_; refine zU rfl (by kernel_rfl) rfl rfl ?_) | refine zD ?_ | refine zB _ rfl (by kernel_rfl) ?_ | refine zW rfl ?_ | refine zX rfl ?_ | refine zC ?_ | with_reducible refine zO ?_ | refine zI ?_ | refine zJ ?_ | (with_reducible first | refine zM ?_ | refine zN ?_ | refine zF ?_ | refine zH ?_ | refine zG ?_) | refine zP ?_
  refine z9 (α := { i : Nat // a + 1 ≤ i ∧ i ≤ b }) (fun i => ⟨[.sl 0 0 xs.length, I a, I b, .fn 64 [], .any, .any, .any, .any, I i.1, .any, .any, .any, .any, .any, .any, .any, .any, .any, .any, .any, .any, .any, .any, .any, .any, .any, .any, .any, .any, .any, .any, .any, .any, .any, .any, .any, .any, .any, .any, .any, .any, .any, .any, .any, .any, .any, .any, .any, .any, .any, .any, .any, .any], [rwR (sZ xs a i.1)], 1⟩) (fun i => b - i.1) ⟨a + 1, Nat.le_refl _, h1⟩ ?_ ?_
  · exact xE 1 [0] rfl rfl yo (by decide) (.cons rfl rfl rfl rfl (yd (by rw [k7 (by omega)]) (zE _ _)) .nil) (by
      repeat' first | exact zj | refine zZ ?_ ?_ | exact zp | exact le_refl rfl | exact zm rfl rfl | exact yC (congrArg _ (show ((a + 1 : Nat) : Int) = IntKind.i64.wrap ((a : Int) + 1) by rw [IntKind.wrap_i64]; omega)))
  · rintro ⟨i, hi0, hi1⟩
    repeat' first | refine zL ?_ | refine zA ?_ | refine zQ [] ?_ | (refine isA ?_; refine zf rfl ?_) | (refine isL ?_; refine zV rfl (by kernel_rfl) rfl rfl ?_) | (refine zc rfl ?_; refine zU rfl (by kernel_rfl) rfl rfl ?_) | refine zD ?_ | refine zB _ rfl (by kernel_rfl) ?_ | refine zW rfl ?_ | refine zX rfl ?_ | refine zC ?_ | with_reducible refine zO ?_ | refine zI ?_ | refine zJ ?_ | (with_reducible first | refine zM ?_ | refine zN ?_ | refine zF ?_ | refine zH ?_ | refine zG ?_) | refine zP ?_
    refine zh rfl (fun h => ?_) (fun h => ?_)
    · have hlt : i < b := by have := of_decide_eq_true h; simp only at this; omega
      obtain ⟨x, hx⟩ : ∃ z, xs[i]? = some z := ⟨_, List.getElem?_eq_getElem (by omega)⟩
      have e1 := ly (a := a) (by omega) hx
      have hso := xV ((xs.drop a).take (i - a))
      have hol : (yM ((xs.drop a).take (i - a))).length = i - a := by rw [xo]; simp; omega
      have eR : sZ xs a (i + 1) = xs.take a ++ (yM ((xs.drop a).take (i + 1 - a)) ++ xs.drop (i + 1)) := rfl
      have e0 : sZ xs a i = xs.take a ++ (yM ((xs.drop a).take (i - a)) ++ x :: xs.drop (i + 1)) := by rw [sZ, yI hx]
      rw [e1] at eR
      generalize yM ((xs.drop a).take (i - a)) = S at e0 eR hso hol
      have hP : (xs.take a).length = a := by simp; omega
      have hR : (xs.drop (i + 1)).length = xs.length - (i + 1) := by simp
      generalize xs.take a = P at e0 eR hP
      generalize xs.drop (i + 1) = R at e0 eR hR
      repeat' first | refine zL ?_ | refine zA ?_ | refine zQ [] ?_ | (refine isA ?_; refine zf rfl ?_) | (refine isL ?_; refine zV rfl (by kernel_rfl) rfl rfl ?_) | (refine zc rfl ?_; refine zU rfl (by kernel_rfl) rfl rfl ?_) | refine zD ?_ | refine zB _ rfl (by kernel_rfl) ?_ | refine zW rfl ?_ | refine zX rfl ?_ | refine zC ?_ | with_reducible refine zO ?_ | refine zI ?_ | refine zJ ?_ | (with_reducible first | refine zM ?_ | refine zN ?_ | refine zF ?_ | refine zH ?_ | refine zG ?_) | refine zP ?_
      refine z9 (α := { p : List Rw × List Rw // p.1 ++ p.2 = S ∧ ∀ z ∈ p.2, ¬ leW z x }) (fun p => ⟨[.sl 0 0 xs.length, I a, I b, .fn 64 [], .any, .any, .any, .any, I i, I ((a + p.1.1.length : Nat) : Int), .any, .any, .any, .any, .any, .any, .any, .any, .any, .any, .any, .any, .any, .any, .any, .any, .any, .any, .any, .any, .any, .any, .any, .any, .any, .any, .any, .any, .any, .any, .any, .any, .any, .any, .any, .any, .any, .any, .any, .any, .any, .any, .any], [rwR (P ++ p.1.1 ++ x :: p.1.2 ++ R)], 1⟩) (fun p => p.1.1.length) ⟨(S, []), List.append_nil _, fun z hz => by cases hz⟩ ?_ ?_
      · exact xE 1 [0] rfl rfl yo (by decide) (.cons rfl rfl rfl rfl (yd (by rw [e0]; show rwT.flat _ = rwT.flat _; simp) (zE _ _)) .nil) (by
          repeat' first | exact zj | refine zZ ?_ ?_ | exact zp | exact le_refl rfl | exact zm rfl rfl | exact yC (congrArg _ (show ((a + S.length : Nat) : Int) = (i : Int) by omega)))
      · rintro ⟨⟨A, B⟩, hAB, hB⟩
        simp only at hAB hB
        have hlen : A.length + B.length = i - a := by rw [← hol, ← hAB, List.length_append]
        repeat' first | refine zL ?_ | refine zA ?_ | refine zQ [] ?_ | (refine isA ?_; refine zf rfl ?_) | (refine isL ?_; refine zV rfl (by kernel_rfl) rfl rfl ?_) | (refine zc rfl ?_; refine zU rfl (by kernel_rfl) rfl rfl ?_) | refine zD ?_ | refine zB _ rfl (by kernel_rfl) ?_ | refine zW rfl ?_ | refine zX rfl ?_ | refine zC ?_ | with_reducible refine zO ?_ | refine zI ?_ | refine zJ ?_ | (with_reducible first | refine zM ?_ | refine zN ?_ | refine zF ?_ | refine zH ?_ | refine zG ?_) | refine zP ?_
        refine yK rfl rfl rfl rfl (fun p1 => ?_) (fun p1 => ?_)
        · have q1 : 0 < A.length := by have := of_decide_eq_true p1; simp only at this; omega
          obtain ⟨A', y, rfl⟩ : ∃ A' y, A = A' ++ [y] := ⟨A.dropLast, A.getLast (by intro e; subst e; simp at q1), (List.dropLast_concat_getLast _).symm⟩
          have ej : ((a + (A' ++ [y]).length : Nat) : Int) = ((a + A'.length + 1 : Nat) : Int) := by simp; omega
          have ew : IntKind.i64.wrap (((a + (A' ++ [y]).length : Nat) : Int) - 1) = ((a + A'.length : Nat) : Int) := by rw [IntKind.wrap_i64]; simp; omega
          have hlA : (A' ++ [y]).length = A'.length + 1 := by simp
          have hds : P ++ (A' ++ [y]) ++ x :: B ++ R = (P ++ A') ++ y :: x :: (B ++ R) := by simp
          have hu : (P ++ A').length = a + A'.length := by simp [hP]
          have g1 : (P ++ (A' ++ [y]) ++ x :: B ++ R)[0 + (a + A'.length + 1)]? = some x := by
            rw [hds, List.getElem?_append_right (by omega), hu, show 0 + (a + A'.length + 1) - (a + A'.length) = 1 by omega]; rfl
          have g0 : (P ++ (A' ++ [y]) ++ x :: B ++ R)[0 + (a + A'.length)]? = some y := by
            rw [hds, List.getElem?_append_right (by omega), hu, show 0 + (a + A'.length) - (a + A'.length) = 0 by omega]; rfl
          repeat' first | refine zL ?_ | refine zA ?_ | refine zQ [] ?_ | (refine isA ?_; refine zf rfl ?_) | (refine isL ?_; refine zV rfl (by kernel_rfl) rfl rfl ?_) | (refine zc rfl ?_; refine zU rfl (by kernel_rfl) rfl rfl ?_) | (refine yB (x := .tmp 23) ?_; refine za rfl (zo (j := ((a + A'.length + 1 : Nat) : Int)) rfl rfl rfl (Nat.zero_le _) rfl (congrArg I ej) (Int.natCast_nonneg _) (by omega)) rfl ?_) | (refine yA (x := .tmp 23) rfl ?_; refine zT rfl (by kernel_rfl) rfl (zo (j := ((a + A'.length + 1 : Nat) : Int)) rfl rfl rfl (Nat.zero_le _) rfl (congrArg I ej) (Int.natCast_nonneg _) (by omega)) rfl ?_) | (refine yB (x := .tmp 27) ?_; refine za rfl (zo (j := ((a + A'.length : Nat) : Int)) rfl rfl rfl (Nat.zero_le _) rfl (congrArg I ew) (Int.natCast_nonneg _) (by omega)) rfl ?_) | (refine yA (x := .tmp 27) rfl ?_; refine zT rfl (by kernel_rfl) rfl (zo (j := ((a + A'.length : Nat) : Int)) rfl rfl rfl (Nat.zero_le _) rfl (congrArg I ew) (Int.natCast_nonneg _) (by omega)) rfl ?_) | (refine xi (x := .tmp 25) ?_; refine za rfl (yv (T := rwT) (i := 0 + (a + A'.length + 1)) (z := x) rfl rfl rfl g1) rfl ?_) | (refine xh (x := .tmp 25) rfl ?_; refine zT rfl (by kernel_rfl) rfl (yv (T := rwT) (i := 0 + (a + A'.length + 1)) (z := x) rfl rfl rfl g1) rfl ?_) | (refine xi (x := .tmp 30) ?_; refine za rfl (yv (T := rwT) (i := 0 + (a + A'.length)) (z := y) rfl rfl rfl g0) rfl ?_) | (refine xh (x := .tmp 30) rfl ?_; refine zT rfl (by kernel_rfl) rfl (yv (T := rwT) (i := 0 + (a + A'.length)) (z := y) rfl rfl rfl g0) rfl ?_) | refine za rfl (wl rfl rfl (xO x y) (.cons (.same rfl) (.cons (.same rfl) .nil)) rfl) rfl ?_ | refine zT rfl (by kernel_rfl) rfl (wl rfl rfl (xO x y) (.cons (.same rfl) (.cons (.same rfl) .nil)) rfl) rfl ?_ | refine zD ?_ | refine zB _ rfl (by kernel_rfl) ?_ | refine zW rfl ?_ | refine zX rfl ?_ | refine zC ?_ | with_reducible refine zO ?_ | refine zI ?_ | refine zJ ?_ | (with_reducible first | refine zM ?_ | refine zN ?_ | refine zF ?_ | refine zH ?_ | refine zG ?_) | refine zP ?_
          refine zh rfl (fun p2 => ?_) (fun p2 => ?_)
          · have q2 := xg.1 (of_decide_eq_true p2)
            repeat' first | refine zL ?_ | refine zA ?_ | (refine isA ?_; refine zf rfl ?_) | (refine isL ?_; refine zV rfl (by kernel_rfl) rfl rfl ?_) | (refine zc rfl ?_; refine zU rfl (by kernel_rfl) rfl rfl ?_) | refine zD ?_ | refine zB _ rfl (by kernel_rfl) ?_ | refine zW rfl ?_ | refine zX rfl ?_ | refine zC ?_ | with_reducible refine zO ?_ | refine zI ?_ | refine zJ ?_ | (with_reducible first | refine zM ?_ | refine zN ?_ | refine zF ?_ | refine zH ?_ | refine zG ?_) | refine zP ?_
            refine pX [15, 17] 18 rfl ?_
            refine yg 0 rfl (by kernel_rfl) rfl (fun _ => rfl) rfl ?_
            refine yg 1 rfl (by kernel_rfl) rfl (fun _ => rfl) rfl ?_
            refine yg 2 rfl (by kernel_rfl) rfl (fun _ => rfl) rfl ?_
            refine yg 3 rfl (by kernel_rfl) rfl (fun _ => rfl) rfl ?_
            refine yg 4 rfl (by kernel_rfl) rfl (fun _ => rfl) rfl ?_
            refine yg 5 rfl (by kernel_rfl) rfl (fun _ => rfl) rfl ?_
            refine yg 6 rfl (by kernel_rfl) rfl (fun _ => rfl) rfl ?_
            refine yg 7 rfl (by kernel_rfl) rfl (fun _ => rfl) rfl ?_
            refine xe 8 rfl (by kernel_rfl) rfl (zo (j := ((a + A'.length : Nat) : Int)) rfl rfl rfl (Nat.zero_le _) rfl (congrArg I ew) (Int.natCast_nonneg _) (by omega)) rfl ?_
            refine xe 9 rfl (by kernel_rfl) rfl (yv (T := rwT) (i := 0 + (a + A'.length)) (z := y) rfl rfl rfl g0) rfl ?_
            refine yg 10 rfl (by kernel_rfl) rfl (fun _ => rfl) rfl ?_
            refine yg 11 rfl (by kernel_rfl) rfl (fun _ => rfl) rfl ?_
            refine xe 12 rfl (by kernel_rfl) rfl (zo (j := ((a + A'.length + 1 : Nat) : Int)) rfl rfl rfl (Nat.zero_le _) rfl (congrArg I ej) (Int.natCast_nonneg _) (by omega)) rfl ?_
            refine xe 13 rfl (by kernel_rfl) rfl (yv (T := rwT) (i := 0 + (a + A'.length + 1)) (z := x) rfl rfl rfl g1) rfl ?_
            refine xe 14 rfl (by kernel_rfl) rfl (zo (j := ((a + A'.length + 1 : Nat) : Int)) rfl rfl rfl (Nat.zero_le _) rfl (congrArg I ej) (Int.natCast_nonneg _) (by omega)) rfl ?_
            refine tn 15 rfl (by kernel_rfl) rfl rfl (vt (T := rwT) (i := 0 + (a + A'.length + 1)) (z := y) rfl rfl rfl rfl rfl (List.getElem?_eq_some_iff.1 g1).1) rfl ?_
            refine xe 16 rfl (by kernel_rfl) rfl (zo (j := ((a + A'.length : Nat) : Int)) rfl rfl rfl (Nat.zero_le _) rfl (congrArg I ew) (Int.natCast_nonneg _) (by omega)) rfl ?_
            refine tn 17 rfl (by kernel_rfl) rfl rfl (vt (T := rwT) (i := 0 + (a + A'.length)) (z := x) rfl rfl rfl rfl rfl (by rw [List.length_set]; exact (List.getElem?_eq_some_iff.1 g0).1)) rfl ?_
            refine u7 (by kernel_rfl) ?_
            repeat' first | refine zL ?_ | refine zA ?_ | refine zQ [] ?_ | (refine isA ?_; refine zf rfl ?_) | (refine isL ?_; refine zV rfl (by kernel_rfl) rfl rfl ?_) | (refine zc rfl ?_; refine zU rfl (by kernel_rfl) rfl rfl ?_) | refine zD ?_ | refine zB _ rfl (by kernel_rfl) ?_ | refine zW rfl ?_ | refine zX rfl ?_ | refine zC ?_ | with_reducible refine zO ?_ | refine zI ?_ | refine zJ ?_ | (with_reducible first | refine zM ?_ | refine zN ?_ | refine zF ?_ | refine zH ?_ | refine zG ?_) | refine zP ?_
            refine ⟨⟨(A', y :: B), by rw [← hAB]; simp, fun z hz => by
              rcases List.mem_cons.1 hz with rfl | hz
              · exact q2
              · exact hB z hz⟩, by simp only; omega, ?_⟩
            exact xE 1 [0] rfl rfl yo (by decide) (.cons rfl rfl rfl rfl (yd (show rwT.flat (((P ++ (A' ++ [y]) ++ x :: B ++ R).set (0 + (a + A'.length + 1)) y).set (0 + (a + A'.length)) x) = rwT.flat (P ++ A' ++ x :: (y :: B) ++ R) by rw [hds, Nat.zero_add, Nat.zero_add, ma hu]; simp) (zE _ _)) .nil) (by
              repeat' first | exact zj | refine zZ ?_ ?_ | exact zp | exact le_refl rfl | exact zm rfl rfl | exact yC (congrArg _ ew.symm))
          · have q2 : leW y x := Classical.byContradiction fun hn => by have := xg.2 hn; exact absurd this (of_decide_eq_false p2)
            have hfin := qY (x := x) (hAB ▸ hso) hB (fun z D hD => by have := List.append_inj' hD rfl; obtain ⟨_, hz⟩ := this; cases hz; exact q2)
            repeat' first | refine zL ?_ | refine zA ?_ | refine zQ [] ?_ | (refine isA ?_; refine zf rfl ?_) | (refine isL ?_; refine zV rfl (by kernel_rfl) rfl rfl ?_) | (refine zc rfl ?_; refine zU rfl (by kernel_rfl) rfl rfl ?_) | refine zD ?_ | refine zB _ rfl (by kernel_rfl) ?_ | refine zW rfl ?_ | refine zX rfl ?_ | refine zC ?_ | with_reducible refine zO ?_ | refine zI ?_ | refine zJ ?_ | (with_reducible first | refine zM ?_ | refine zN ?_ | refine zF ?_ | refine zH ?_ | refine zG ?_) | refine zP ?_
            refine ⟨⟨i + 1, by omega, by omega⟩, by simp only; omega, ?_⟩
            exact xE 1 [0] rfl rfl yo (by decide) (.cons rfl rfl rfl rfl (yd (show rwT.flat (P ++ (A' ++ [y]) ++ x :: B ++ R) = rwT.flat (sZ xs a (i + 1)) by rw [eR, ← hAB, ← hfin]; simp) (zE _ _)) .nil) (by
              repeat' first | exact zj | refine zZ ?_ ?_ | exact zp | exact le_refl rfl | exact zm rfl rfl | exact xL hlt (by omega))
        · have q1 : A.length = 0 := by have := of_decide_eq_false p1; simp only at this; omega
          obtain rfl : A = [] := List.eq_nil_of_length_eq_zero q1
          have hfin := qY (x := x) (hAB ▸ hso) hB (fun z D hD => by simp at hD)
          repeat' first | refine zL ?_ | refine zA ?_ | refine zQ [] ?_ | (refine isA ?_; refine zf rfl ?_) | (refine isL ?_; refine zV rfl (by kernel_rfl) rfl rfl ?_) | (refine zc rfl ?_; refine zU rfl (by kernel_rfl) rfl rfl ?_) | refine zD ?_ | refine zB _ rfl (by kernel_rfl) ?_ | refine zW rfl ?_ | refine zX rfl ?_ | refine zC ?_ | with_reducible refine zO ?_ | refine zI ?_ | refine zJ ?_ | (with_reducible first | refine zM ?_ | refine zN ?_ | refine zF ?_ | refine zH ?_ | refine zG ?_) | refine zP ?_
          refine ⟨⟨i + 1, by omega, by omega⟩, by simp only; omega, ?_⟩
          exact xE 1 [0] rfl rfl yo (by decide) (.cons rfl rfl rfl rfl (yd (show rwT.flat (P ++ [] ++ x :: B ++ R) = rwT.flat (sZ xs a (i + 1)) by rw [eR, ← hAB, ← hfin]; simp) (zE _ _)) .nil) (by
            repeat' first | exact zj | refine zZ ?_ ?_ | exact zp | exact le_refl rfl | exact zm rfl rfl | exact xL hlt (by omega))
    · have hge : i = b := by have := of_decide_eq_false h; simp only at this; omega
      subst hge
      repeat' first | refine zL ?_ | refine zA ?_ | refine zQ [] ?_ | (refine isA ?_; refine zf rfl ?_) | (refine isL ?_; refine zV rfl (by kernel_rfl) rfl rfl ?_) | (refine zc rfl ?_; refine zU rfl (by kernel_rfl) rfl rfl ?_) | exact tK 1 [0] yo (by decide) (.cons rfl rfl rfl rfl (zY (zE _ _)) .nil) | refine zD ?_ | refine zB _ rfl (by kernel_rfl) ?_ | refine zW rfl ?_ | refine zX rfl ?_ | refine zC ?_ | with_reducible refine zO ?_ | refine zI ?_ | refine zJ ?_ | (with_reducible first | refine zM ?_ | refine zN ?_ | refine zF ?_ | refine zH ?_ | refine zG ?_) | refine zP ?_
end Go.Proofs.Ytojcojanokhnaaa.Ab
namespace Go.Proofs.Ytojcojanokhnaaa.Ab
open Go.RowKit
def uV (P X M Y Q : List Rw) (i : Nat) : List Rw := P ++ (Y.take i ++ X.drop i) ++ M ++ (X.take i ++ Y.drop i) ++ Q
theorem fb {U V W : List Rw} {x y : Rw} {u v : Nat} (hu : U.length = u) (hv : (U ++ x :: V).length = v) : ((U ++ x :: V ++ y :: W).set u y).set v x = U ++ y :: V ++ x :: W := by
  subst hu hv
  have h1 : (U ++ x :: V ++ y :: W).set U.length y = U ++ y :: V ++ y :: W := by
    rw [List.append_assoc, List.set_append_right _ _ (Nat.le_refl _), Nat.sub_self, List.append_assoc]; rfl
  have h2 : (U ++ x :: V).length = (U ++ y :: V).length := by simp
  rw [h1, h2, List.set_append_right _ _ (Nat.le_refl _), Nat.sub_self]
  rfl
theorem eI (P X M Y Q : List Rw) (n : Nat) (hX : X.length = n) (hY : Y.length = n) (hl : (P ++ X ++ M ++ Y ++ Q).length ≤ 100000000) : zy Go.Proofs.Try.prog 133 [.sl 0 0 (P ++ X ++ M ++ Y ++ Q).length, I P.length, I (P ++ X ++ M).length, I n, .fn 64 []] [rwR (P ++ X ++ M ++ Y ++ Q)] (.tup []) [rwR (P ++ Y ++ M ++ X ++ Q)] true := by
  have hlen : (P ++ X ++ M ++ Y ++ Q).length = P.length + n + M.length + n + Q.length := by simp [hX, hY]; omega
  have hb0 : (P ++ X ++ M).length = P.length + n + M.length := by simp [hX]; omega
  refine zw [] Go.Proofs.Try.func133 rfl rfl ?_
  simp only [Go.Proofs.Try.ntmps133, List.length_cons, List.length_nil, Nat.reduceAdd, Nat.reduceSub, List.replicate_succ, List.replicate_zero, List.cons_append, List.nil_append]
  repeat' first | refine zL ?_ | refine zA ?_ | refine zQ [] ?_ | (refine isA ?_; refine zf rfl ?_) | (refine isL ?_; refine zV rfl (by kernel_rfl) rfl rfl ?_) | (refine zc rfl ?_; refine zU rfl (by kernel_rfl) rfl rfl ?_) | refine zD ?_ | refine zB _ rfl (by kernel_rfl) ?_ | refine zW rfl ?_ | refine zX rfl ?_ | refine zC ?_ | with_reducible refine zO ?_ | refine zI ?_ | refine zJ ?_ | (with_reducible first | refine zM ?_ | refine zN ?_ | refine zF ?_ | refine zH ?_ | refine zG ?_) | refine zP ?_
  refine z9 (α := { i : Nat // i ≤ n }) (fun i => ⟨[.sl 0 0 (P ++ X ++ M ++ Y ++ Q).length, I P.length, I (P ++ X ++ M).length, I n, .any, .any, .any, .any, .any, .any, I i.1, .any, .any, .any, .any, .any, .any, .any, .any, .any, .any, .any, .any, .any, .any, .any, .any, .any, .any, .any, .any, .any, .any, .any, .any, .any, .any, .any], [rwR (uV P X M Y Q i.1)], 1⟩) (fun i => n - i.1) ⟨0, Nat.zero_le _⟩ ?_ ?_
  · exact xE 1 [0] rfl rfl yo (by decide) (.cons rfl rfl rfl rfl (yd (show rwT.flat (P ++ X ++ M ++ Y ++ Q) = rwT.flat (uV P X M Y Q 0) by simp [uV]) (zE _ _)) .nil) (by repeat' first | exact zj | refine zZ ?_ ?_ | exact zp | exact le_refl rfl | exact zm rfl rfl | exact zu rfl)
  · rintro ⟨i, hi⟩
    repeat' first | refine zL ?_ | refine zA ?_ | refine zQ [] ?_ | (refine isA ?_; refine zf rfl ?_) | (refine isL ?_; refine zV rfl (by kernel_rfl) rfl rfl ?_) | (refine zc rfl ?_; refine zU rfl (by kernel_rfl) rfl rfl ?_) | refine zD ?_ | refine zB _ rfl (by kernel_rfl) ?_ | refine zW rfl ?_ | refine zX rfl ?_ | refine zC ?_ | with_reducible refine zO ?_ | refine zI ?_ | refine zJ ?_ | (with_reducible first | refine zM ?_ | refine zN ?_ | refine zF ?_ | refine zH ?_ | refine zG ?_) | refine zP ?_
    refine zh rfl (fun h => ?_) (fun h => ?_)
    · have hlt : i < n := by have := of_decide_eq_true h; simp only at this; omega
      obtain ⟨x, hx⟩ : ∃ z, X[i]? = some z := ⟨_, List.getElem?_eq_getElem (by omega)⟩
      obtain ⟨y, hy⟩ : ∃ z, Y[i]? = some z := ⟨_, List.getElem?_eq_getElem (by omega)⟩
      have hL : uV P X M Y Q i = (P ++ Y.take i) ++ x :: (X.drop (i + 1) ++ M ++ X.take i) ++ y :: (Y.drop (i + 1) ++ Q) := by
        rw [uV, yI hx, yI hy]; simp
      have hL2 : uV P X M Y Q (i + 1) = (P ++ Y.take i) ++ y :: (X.drop (i + 1) ++ M ++ X.take i) ++ x :: (Y.drop (i + 1) ++ Q) := by
        rw [uV, yw hx, yw hy]; simp
      have hu : (P ++ Y.take i).length = P.length + i := by simp; omega
      have hv : ((P ++ Y.take i) ++ x :: (X.drop (i + 1) ++ M ++ X.take i)).length = (P ++ X ++ M).length + i := by simp; omega
      have ea : IntKind.i64.wrap ((P.length : Int) + (i : Int)) = ((P.length + i : Nat) : Int) := by rw [IntKind.wrap_i64]; omega
      have eb : IntKind.i64.wrap (((P ++ X ++ M).length : Int) + (i : Int)) = (((P ++ X ++ M).length + i : Nat) : Int) := by rw [IntKind.wrap_i64]; omega
      have g0 : (uV P X M Y Q i)[0 + (P.length + i)]? = some x := by
        rw [hL, List.append_assoc, List.getElem?_append_right (by omega), hu, show 0 + (P.length + i) - (P.length + i) = 0 by omega]; rfl
      have g1 : (uV P X M Y Q i)[0 + ((P ++ X ++ M).length + i)]? = some y := by
        rw [hL, List.getElem?_append_right (by omega), hv, show 0 + ((P ++ X ++ M).length + i) - ((P ++ X ++ M).length + i) = 0 by omega]; rfl
      have g1' : ((uV P X M Y Q i).set (0 + (P.length + i)) y).length = (uV P X M Y Q i).length := List.length_set
      repeat' first | refine zL ?_ | refine zA ?_ | (refine isA ?_; refine zf rfl ?_) | (refine isL ?_; refine zV rfl (by kernel_rfl) rfl rfl ?_) | (refine zc rfl ?_; refine zU rfl (by kernel_rfl) rfl rfl ?_) | refine zD ?_ | refine zB _ rfl (by kernel_rfl) ?_ | refine zW rfl ?_ | refine zX rfl ?_ | refine zC ?_ | with_reducible refine zO ?_ | refine zI ?_ | refine zJ ?_ | (with_reducible first | refine zM ?_ | refine zN ?_ | refine zF ?_ | refine zH ?_ | refine zG ?_) | refine zP ?_
      refine pX [21, 23] 24 rfl ?_
      refine yg 0 rfl (by kernel_rfl) rfl (fun _ => rfl) rfl ?_
      refine yg 1 rfl (by kernel_rfl) rfl (fun _ => rfl) rfl ?_
      refine yg 2 rfl (by kernel_rfl) rfl (fun _ => rfl) rfl ?_
      refine yg 3 rfl (by kernel_rfl) rfl (fun _ => rfl) rfl ?_
      refine yg 4 rfl (by kernel_rfl) rfl (fun _ => rfl) rfl ?_
      refine yg 5 rfl (by kernel_rfl) rfl (fun _ => rfl) rfl ?_
      refine yg 6 rfl (by kernel_rfl) rfl (fun _ => rfl) rfl ?_
      refine yg 7 rfl (by kernel_rfl) rfl (fun _ => rfl) rfl ?_
      refine yg 8 rfl (by kernel_rfl) rfl (fun _ => rfl) rfl ?_
      refine yg 9 rfl (by kernel_rfl) rfl (fun _ => rfl) rfl ?_
      refine yg 10 rfl (by kernel_rfl) rfl (fun _ => rfl) rfl ?_
      refine yg 11 rfl (by kernel_rfl) rfl (fun _ => rfl) rfl ?_
      refine xe 12 rfl (by kernel_rfl) rfl (zo (j := (((P ++ X ++ M).length + i : Nat) : Int)) rfl rfl rfl (Nat.zero_le _) rfl (congrArg I eb) (Int.natCast_nonneg _) (by omega)) rfl ?_
      refine xe 13 rfl (by kernel_rfl) rfl (yv (T := rwT) (i := 0 + ((P ++ X ++ M).length + i)) (z := y) rfl rfl rfl g1) rfl ?_
      refine yg 14 rfl (by kernel_rfl) rfl (fun _ => rfl) rfl ?_
      refine yg 15 rfl (by kernel_rfl) rfl (fun _ => rfl) rfl ?_
      refine yg 16 rfl (by kernel_rfl) rfl (fun _ => rfl) rfl ?_
      refine yg 17 rfl (by kernel_rfl) rfl (fun _ => rfl) rfl ?_
      refine xe 18 rfl (by kernel_rfl) rfl (zo (j := ((P.length + i : Nat) : Int)) rfl rfl rfl (Nat.zero_le _) rfl (congrArg I ea) (Int.natCast_nonneg _) (by omega)) rfl ?_
      refine xe 19 rfl (by kernel_rfl) rfl (yv (T := rwT) (i := 0 + (P.length + i)) (z := x) rfl rfl rfl g0) rfl ?_
      refine xe 20 rfl (by kernel_rfl) rfl (zo (j := ((P.length + i : Nat) : Int)) rfl rfl rfl (Nat.zero_le _) rfl (congrArg I ea) (Int.natCast_nonneg _) (by omega)) rfl ?_
      refine tn 21 rfl (by kernel_rfl) rfl rfl (vt (T := rwT) (i := 0 + (P.length + i)) (z := y) rfl rfl rfl rfl rfl (List.getElem?_eq_some_iff.1 g0).1) rfl ?_
      refine xe 22 rfl (by kernel_rfl) rfl (zo (j := (((P ++ X ++ M).length + i : Nat) : Int)) rfl rfl rfl (Nat.zero_le _) rfl (congrArg I eb) (Int.natCast_nonneg _) (by omega)) rfl ?_
      refine tn 23 rfl (by kernel_rfl) rfl rfl (vt (T := rwT) (i := 0 + ((P ++ X ++ M).length + i)) (z := x) rfl rfl rfl rfl rfl (by rw [List.length_set]; exact (List.getElem?_eq_some_iff.1 g1).1)) rfl ?_
      refine u7 (by kernel_rfl) ?_
      repeat' first | refine zL ?_ | refine zA ?_ | refine zQ [] ?_ | (refine isA ?_; refine zf rfl ?_) | (refine isL ?_; refine zV rfl (by kernel_rfl) rfl rfl ?_) | (refine zc rfl ?_; refine zU rfl (by kernel_rfl) rfl rfl ?_) | refine zD ?_ | refine zB _ rfl (by kernel_rfl) ?_ | refine zW rfl ?_ | refine zX rfl ?_ | refine zC ?_ | with_reducible refine zO ?_ | refine zI ?_ | refine zJ ?_ | (with_reducible first | refine zM ?_ | refine zN ?_ | refine zF ?_ | refine zH ?_ | refine zG ?_) | refine zP ?_
      refine ⟨⟨i + 1, hlt⟩, by simp only; omega, ?_⟩
      exact xE 1 [0] rfl rfl yo (by decide) (.cons rfl rfl rfl rfl (yd (show rwT.flat (((uV P X M Y Q i).set (0 + (P.length + i)) y).set (0 + ((P ++ X ++ M).length + i)) x) = rwT.flat (uV P X M Y Q (i + 1)) by rw [hL, Nat.zero_add, Nat.zero_add, fb hu hv, hL2]) (zE _ _)) .nil) (by
        repeat' first | exact zj | refine zZ ?_ ?_ | exact zp | exact le_refl rfl | exact zm rfl rfl | exact xL hlt (by omega))
    · have hge : i = n := by have := of_decide_eq_false h; simp only at this; omega
      subst hge
      have e : uV P X M Y Q i = P ++ Y ++ M ++ X ++ Q := by
        rw [uV, List.take_of_length_le (by omega), List.take_of_length_le (by omega), List.drop_of_length_le (by omega), List.drop_of_length_le (by omega)]; simp
      repeat' first | refine zL ?_ | refine zA ?_ | refine zQ [] ?_ | (refine isA ?_; refine zf rfl ?_) | (refine isL ?_; refine zV rfl (by kernel_rfl) rfl rfl ?_) | (refine zc rfl ?_; refine zU rfl (by kernel_rfl) rfl rfl ?_) | exact tK 1 [0] yo (by decide) (.cons rfl rfl rfl rfl (yd (show rwT.flat (uV P X M Y Q i) = rwT.flat (P ++ Y ++ M ++ X ++ Q) by rw [e]) (zE _ _)) .nil) | refine zD ?_ | refine zB _ rfl (by kernel_rfl) ?_ | refine zW rfl ?_ | refine zX rfl ?_ | refine zC ?_ | with_reducible refine zO ?_ | refine zI ?_ | refine zJ ?_ | (with_reducible first | refine zM ?_ | refine zN ?_ | refine zF ?_ | refine zH ?_ | refine zG ?_) | refine zP ?_
end Go.Proofs.Ytojcojanokhnaaa.Ab
namespace Go.Proofs.Ytojcojanokhnaaa.Ab
open Go.RowKit
theorem pR {ds : List Rw} {L : Nat} {a b n : Int} (P X M Y Q : List Rw) (hd : ds = P ++ X ++ M ++ Y ++ Q) (hL : L = ds.length) (hl : L ≤ 100000000) (ha : a = (P.length : Int)) (hb : b = ((P ++ X ++ M).length : Int)) (hn : n = (X.length : Int)) (hY : Y.length = X.length) :
    zy Go.Proofs.Try.prog 133 [.sl 0 0 L, I a, I b, I n, .fn 64 []] [rwR ds] (.tup []) [rwR (P ++ Y ++ M ++ X ++ Q)] true := by
  subst hd hL ha hb hn
  exact eI P X M Y Q X.length rfl hY hl
structure RotI (m : Nat) (T : List Rw) (p : List Rw × List Rw × List Rw × List Rw) : Prop where
  m : p.1.length + p.2.1.length = m
  t : p.1 ++ p.2.2.1 ++ p.2.1 ++ p.2.2.2 = T
  x : 0 < p.2.1.length
  y : 0 < p.2.2.1.length
theorem RotI.len {m : Nat} {T : List Rw} {p : List Rw × List Rw × List Rw × List Rw} (h : RotI m T p) : (p.1 ++ p.2.1 ++ p.2.2.1 ++ p.2.2.2).length = T.length := by
  rw [← h.t]; simp; omega
theorem g9 (P X Y Q : List Rw) (hx : 0 < X.length) (hy : 0 < Y.length) (hl : (P ++ X ++ Y ++ Q).length ≤ 100000000) : zy Go.Proofs.Try.prog 132 [.sl 0 0 (P ++ X ++ Y ++ Q).length, I P.length, I (P ++ X).length, I (P ++ X ++ Y).length, .fn 64 []] [rwR (P ++ X ++ Y ++ Q)] (.tup []) [rwR (P ++ Y ++ X ++ Q)] true := by
  obtain ⟨T, hT⟩ : ∃ T, T = P ++ Y ++ X ++ Q := ⟨_, rfl⟩
  have hTl : (P ++ X ++ Y ++ Q).length = T.length := by rw [hT]; simp; omega
  have l1 : (P ++ X).length = P.length + X.length := by simp
  have l2 : (P ++ X ++ Y).length = P.length + X.length + Y.length := by simp; omega
  have l3 : (P ++ X ++ Y ++ Q).length = P.length + X.length + Y.length + Q.length := by simp; omega
  have I0 : RotI (P ++ X).length T (P, X, Y, Q) := ⟨l1.symm, hT.symm, hx, hy⟩
  rw [← hT]
  generalize hm : (P ++ X).length = m at I0 l1 ⊢
  generalize hL : (P ++ X ++ Y ++ Q).length = L at hl hTl l3 ⊢
  refine zw [] Go.Proofs.Try.func132 rfl rfl ?_
  simp only [Go.Proofs.Try.ntmps132, List.length_cons, List.length_nil, Nat.reduceAdd, Nat.reduceSub, List.replicate_succ, List.replicate_zero, List.cons_append, List.nil_append]
  repeat' first | refine zL ?_ | refine zA ?_ | refine zQ [] ?_ | (refine isA ?_; refine zf rfl ?_) | (refine isL ?_; refine zV rfl (by kernel_rfl) rfl rfl ?_) | (refine zc rfl ?_; refine zU rfl (by kernel_rfl) rfl rfl ?_) | refine zD ?_ | refine zB _ rfl (by kernel_rfl) ?_ | refine zW rfl ?_ | refine zX rfl ?_ | refine zC ?_ | with_reducible refine zO ?_ | refine zI ?_ | refine zJ ?_ | (with_reducible first | refine zM ?_ | refine zN ?_ | refine zF ?_ | refine zH ?_ | refine zG ?_) | refine zP ?_
  refine z9 (α := { p : List Rw × List Rw × List Rw × List Rw // RotI m T p }) (fun p => ⟨[.sl 0 0 L, .any, I m, .any, .fn 64 [], .any, .any, .any, .any, .any, I p.1.2.1.length, I p.1.2.2.1.length, .any, .any, .any, .any, .any, .any, .any, .any, .any, .any, .any, .any, .any, .any, .any, .any, .any, .any, .any, .any, .any, .any, .any, .any, .any, .any, .any, .any, .any, .any, .any, .any, .any, .any, .any, .any, .any, .any, .any, .any, .any, .any, .any, .any, .any, .any], [rwR (p.1.1 ++ p.1.2.1 ++ p.1.2.2.1 ++ p.1.2.2.2)], 1⟩) (fun p => p.1.2.1.length + p.1.2.2.1.length) ⟨(P, X, Y, Q), I0⟩ ?_ ?_
  · exact xE 1 [0] rfl rfl yo (by decide) (.cons rfl rfl rfl rfl (zY (zE _ _)) .nil) (by
      repeat' first | exact zj | refine zZ ?_ ?_ | exact zp | exact le_refl rfl | exact zm rfl rfl | exact yC (congrArg _ (show (X.length : Int) = IntKind.i64.wrap ((m : Int) - (P.length : Int)) by rw [IntKind.wrap_i64]; omega)) | exact yC (congrArg _ (show (Y.length : Int) = IntKind.i64.wrap (((P ++ X ++ Y).length : Int) - (m : Int)) by rw [IntKind.wrap_i64]; omega)))
  · rintro ⟨⟨A, C, D, E⟩, J⟩
    have j1 : A.length + C.length = m := J.m
    have j2 : A ++ D ++ C ++ E = T := J.t
    have j3 : 0 < C.length := J.x
    have j4 : 0 < D.length := J.y
    have j5 : (A ++ C ++ D ++ E).length = T.length := J.len
    have j6 : A.length + C.length + D.length + E.length = T.length := by rw [← j5]; simp; omega
    have e1 : IntKind.i64.wrap ((m : Int) - (C.length : Int)) = (A.length : Int) := by rw [IntKind.wrap_i64]; omega
    repeat' first | refine zL ?_ | refine zA ?_ | refine zQ [] ?_ | (refine isA ?_; refine zf rfl ?_) | (refine isL ?_; refine zV rfl (by kernel_rfl) rfl rfl ?_) | (refine zc rfl ?_; refine zU rfl (by kernel_rfl) rfl rfl ?_) | refine zD ?_ | refine zB _ rfl (by kernel_rfl) ?_ | refine zW rfl ?_ | refine zX rfl ?_ | refine zC ?_ | with_reducible refine zO ?_ | refine zI ?_ | refine zJ ?_ | (with_reducible first | refine zM ?_ | refine zN ?_ | refine zF ?_ | refine zH ?_ | refine zG ?_) | refine zP ?_
    refine zh rfl (fun h => ?_) (fun h => ?_)
    · have hne : C.length ≠ D.length := by intro e; simp [e] at h
      repeat' first | refine zL ?_ | refine zA ?_ | refine zQ [] ?_ | (refine isA ?_; refine zf rfl ?_) | (refine isL ?_; refine zV rfl (by kernel_rfl) rfl rfl ?_) | (refine zc rfl ?_; refine zU rfl (by kernel_rfl) rfl rfl ?_) | refine zD ?_ | refine zB _ rfl (by kernel_rfl) ?_ | refine zW rfl ?_ | refine zX rfl ?_ | refine zC ?_ | with_reducible refine zO ?_ | refine zI ?_ | refine zJ ?_ | (with_reducible first | refine zM ?_ | refine zN ?_ | refine zF ?_ | refine zH ?_ | refine zG ?_) | refine zP ?_
      refine zh rfl (fun q => ?_) (fun q => ?_)
      · have hgt : D.length < C.length := by have := of_decide_eq_true q; simp only at this; omega
        have t1 : (C.take D.length).length = D.length := by simp; omega
        have t2 : C.take D.length ++ C.drop D.length = C := List.take_append_drop _ _
        have sw := pR (ds := A ++ C ++ D ++ E) (L := L) (a := IntKind.i64.wrap ((m : Int) - (C.length : Int))) (b := (m : Int)) (n := (D.length : Int)) A (C.take D.length) (C.drop D.length) D E (by have q : A ++ (C.take D.length ++ C.drop D.length) ++ D ++ E = A ++ C.take D.length ++ C.drop D.length ++ D ++ E := (by simp only [List.append_assoc]); rw [t2] at q; exact q) (by omega) (by omega) e1 (by rw [List.append_assoc A, t2, List.length_append]; omega) (by omega) (by omega)
        repeat' first | refine zL ?_ | refine zA ?_ | refine zQ [] ?_ | (refine isA ?_; refine zf rfl ?_) | (refine isL ?_; refine zV rfl (by kernel_rfl) rfl rfl ?_) | (refine zc rfl ?_; refine zU rfl (by kernel_rfl) rfl rfl ?_) | (refine zr 133 ?_; refine za rfl (zv (K := []) (Rs' := [_]) [0] (by decide) rfl sw (.cons rfl rfl rfl (zE _ _) (zE _ _) .nil) (.cons (.sl rfl) (.cons (.same rfl) (.cons (.same rfl) (.cons (.same rfl) (.cons (.same rfl) .nil))))) (fun q hq => by cases hq) rfl) rfl ?_) | (refine zq 133 rfl ?_; refine zT rfl (by kernel_rfl) rfl (zv (K := []) (Rs' := [_]) [0] (by decide) rfl sw (.cons rfl rfl rfl (zE _ _) (zE _ _) .nil) (.cons (.sl rfl) (.cons (.same rfl) (.cons (.same rfl) (.cons (.same rfl) (.cons (.same rfl) .nil))))) (fun q hq => by cases hq) rfl) rfl ?_) | refine zD ?_ | refine zB _ rfl (by kernel_rfl) ?_ | refine zW rfl ?_ | refine zX rfl ?_ | refine zC ?_ | with_reducible refine zO ?_ | refine zI ?_ | refine zJ ?_ | (with_reducible first | refine zM ?_ | refine zN ?_ | refine zF ?_ | refine zH ?_ | refine zG ?_) | refine zP ?_
        refine ⟨⟨(A ++ D, C.drop D.length, C.take D.length, E), ⟨by simp; omega, by rw [← j2]; simp only [List.append_assoc]; rw [← List.append_assoc (C.take D.length), t2], by simp; omega, by simp; omega⟩⟩, by simp only [List.length_drop, t1]; omega, ?_⟩
        exact xE 1 [0] rfl rfl yo (by decide) (.cons rfl rfl rfl rfl (zY (zE _ _)) .nil) (by
          repeat' first | exact zj | refine zZ ?_ ?_ | exact zp | exact le_refl rfl | exact zm rfl rfl | exact yC (congrArg _ (show ((C.take D.length).length : Int) = (D.length : Int) by omega)) | exact yC (congrArg _ (show ((C.drop D.length).length : Int) = IntKind.i64.wrap ((C.length : Int) - (D.length : Int)) by rw [IntKind.wrap_i64, List.length_drop]; omega)))
      · have hlt : C.length < D.length := by have := of_decide_eq_false q; simp only at this; omega
        have t1 : (D.drop (D.length - C.length)).length = C.length := by simp; omega
        have t2 : D.take (D.length - C.length) ++ D.drop (D.length - C.length) = D := List.take_append_drop _ _
        have t3 : (D.take (D.length - C.length)).length = D.length - C.length := by simp
        have sw := pR (ds := A ++ C ++ D ++ E) (L := L) (a := IntKind.i64.wrap ((m : Int) - (C.length : Int))) (b := IntKind.i64.wrap (IntKind.i64.wrap ((m : Int) + (D.length : Int)) - (C.length : Int))) (n := (C.length : Int)) A C (D.take (D.length - C.length)) (D.drop (D.length - C.length)) E (by have q : A ++ C ++ (D.take (D.length - C.length) ++ D.drop (D.length - C.length)) ++ E = A ++ C ++ D.take (D.length - C.length) ++ D.drop (D.length - C.length) ++ E := (by simp only [List.append_assoc]); rw [t2] at q; exact q) (by omega) (by omega) e1 (by
          rw [show IntKind.i64.wrap ((m : Int) + (D.length : Int)) = (m : Int) + D.length by rw [IntKind.wrap_i64]; omega, IntKind.wrap_i64, List.length_append, List.length_append, t3]; omega) rfl t1
        repeat' first | refine zL ?_ | refine zA ?_ | refine zQ [] ?_ | (refine isA ?_; refine zf rfl ?_) | (refine isL ?_; refine zV rfl (by kernel_rfl) rfl rfl ?_) | (refine zc rfl ?_; refine zU rfl (by kernel_rfl) rfl rfl ?_) | (refine zr 133 ?_; refine za rfl (zv (K := []) (Rs' := [_]) [0] (by decide) rfl sw (.cons rfl rfl rfl (zE _ _) (zE _ _) .nil) (.cons (.sl rfl) (.cons (.same rfl) (.cons (.same rfl) (.cons (.same rfl) (.cons (.same rfl) .nil))))) (fun q hq => by cases hq) rfl) rfl ?_) | (refine zq 133 rfl ?_; refine zT rfl (by kernel_rfl) rfl (zv (K := []) (Rs' := [_]) [0] (by decide) rfl sw (.cons rfl rfl rfl (zE _ _) (zE _ _) .nil) (.cons (.sl rfl) (.cons (.same rfl) (.cons (.same rfl) (.cons (.same rfl) (.cons (.same rfl) .nil))))) (fun q hq => by cases hq) rfl) rfl ?_) | refine zD ?_ | refine zB _ rfl (by kernel_rfl) ?_ | refine zW rfl ?_ | refine zX rfl ?_ | refine zC ?_ | with_reducible refine zO ?_ | refine zI ?_ | refine zJ ?_ | (with_reducible first | refine zM ?_ | refine zN ?_ | refine zF ?_ | refine zH ?_ | refine zG ?_) | refine zP ?_
        refine ⟨⟨(A, D.drop (D.length - C.length), D.take (D.length - C.length), C ++ E), ⟨by simp only; omega, by rw [← j2]; simp only [List.append_assoc]; rw [← List.append_assoc (D.take (D.length - C.length)), t2], by simp only; omega, by simp only; omega⟩⟩, by simp only [t1, t3]; omega, ?_⟩
        exact xE 1 [0] rfl rfl yo (by decide) (.cons rfl rfl rfl rfl (yd (congrArg rwT.flat (by simp)) (zE _ _)) .nil) (by
          repeat' first | exact zj | refine zZ ?_ ?_ | exact zp | exact le_refl rfl | exact zm rfl rfl | exact yC (congrArg _ (show ((D.drop (D.length - C.length)).length : Int) = (C.length : Int) by omega)) | exact yC (congrArg _ (show ((D.take (D.length - C.length)).length : Int) = IntKind.i64.wrap ((D.length : Int) - (C.length : Int)) by rw [IntKind.wrap_i64, t3]; omega)))
    · have heq : C.length = D.length := by have : (C.length : Int) = D.length := (by simpa using h); omega
      have sw := pR (ds := A ++ C ++ D ++ E) (L := L) (a := IntKind.i64.wrap ((m : Int) - (C.length : Int))) (b := (m : Int)) (n := (C.length : Int)) A C [] D E (by simp) (by omega) (by omega) e1 (by simp; omega) rfl heq.symm
      repeat' first | refine zL ?_ | refine zA ?_ | refine zQ [] ?_ | (refine isA ?_; refine zf rfl ?_) | (refine isL ?_; refine zV rfl (by kernel_rfl) rfl rfl ?_) | (refine zc rfl ?_; refine zU rfl (by kernel_rfl) rfl rfl ?_) | (refine zr 133 ?_; refine za rfl (zv (K := []) (Rs' := [_]) [0] (by decide) rfl sw (.cons rfl rfl rfl (zE _ _) (zE _ _) .nil) (.cons (.sl rfl) (.cons (.same rfl) (.cons (.same rfl) (.cons (.same rfl) (.cons (.same rfl) .nil))))) (fun q hq => by cases hq) rfl) rfl ?_) | (refine zq 133 rfl ?_; refine zT rfl (by kernel_rfl) rfl (zv (K := []) (Rs' := [_]) [0] (by decide) rfl sw (.cons rfl rfl rfl (zE _ _) (zE _ _) .nil) (.cons (.sl rfl) (.cons (.same rfl) (.cons (.same rfl) (.cons (.same rfl) (.cons (.same rfl) .nil))))) (fun q hq => by cases hq) rfl) rfl ?_) | exact tK 1 [0] yo (by decide) (.cons rfl rfl rfl rfl (yd (congrArg rwT.flat (by rw [← j2]; simp)) (zE _ _)) .nil) | refine zD ?_ | refine zB _ rfl (by kernel_rfl) ?_ | refine zW rfl ?_ | refine zX rfl ?_ | refine zC ?_ | with_reducible refine zO ?_ | refine zI ?_ | refine zJ ?_ | (with_reducible first | refine zM ?_ | refine zN ?_ | refine zF ?_ | refine zH ?_ | refine zG ?_) | refine zP ?_
end Go.Proofs.Ytojcojanokhnaaa.Ab
namespace Go.Proofs.Ytojcojanokhnaaa.Ab
open Go.RowKit
theorem qN {xs : List Rw} (h : Srt xs) (u : Nat) : ∀ x ∈ xs.take u, ∀ y ∈ xs.drop u, leW x y := by
  have h' : Srt (xs.take u ++ xs.drop u) := by rw [List.take_append_drop]; exact h
  exact (List.pairwise_append.1 h').2.2
theorem pQ {A B : List Rw} {u v : Nat} (hA : Srt A) (hB : Srt B) (hu : u ≤ A.length) (h : ∀ x y, 0 < u → A[u - 1]? = some x → B[v]? = some y → leW x y) : ∀ x ∈ A.take u, ∀ y ∈ B.drop v, leW x y := fun x hx y hy => by
  obtain ⟨i, hi⟩ := List.getElem?_of_mem hx
  obtain ⟨j, hj⟩ := List.getElem?_of_mem hy
  have hlt : i < u := by
    have := (List.getElem?_eq_some_iff.1 hi).1
    simp at this
    omega
  rw [List.getElem?_take_of_lt hlt] at hi
  rw [List.getElem?_drop] at hj
  have hvl := (List.getElem?_eq_some_iff.1 hj).1
  obtain ⟨x', hx'⟩ : ∃ z, A[u - 1]? = some z := ⟨_, List.getElem?_eq_getElem (by omega)⟩
  obtain ⟨y', hy'⟩ : ∃ z, B[v]? = some z := ⟨_, List.getElem?_eq_getElem (by omega)⟩
  exact xa (v7 hA (show i ≤ u - 1 by omega) hi hx') (xa (h x' y' (by omega) hx' hy') (v7 hB (Nat.le_add_right v j) hy' hj))
theorem mZ {A B : List Rw} {u v : Nat} (hA : Srt A) (hB : Srt B) (hu : u ≤ A.length) (hv : v ≤ B.length) (h1 : ∀ x y, 0 < u → A[u - 1]? = some x → B[v]? = some y → leW x y) (h2 : ∀ y x, 0 < v → B[v - 1]? = some y → A[u]? = some x → leW y x) :
    yM (A.take u ++ B.take v) ++ yM (A.drop u ++ B.drop v) = yM (A ++ B) := by
  refine wh ?_ ?_
  · refine List.pairwise_append.2 ⟨xV _, xV _, fun x hx y hy => ?_⟩
    have hx' := (ya _).mem_iff.1 hx
    have hy' := (ya _).mem_iff.1 hy
    rcases List.mem_append.1 hx' with hx' | hx' <;> rcases List.mem_append.1 hy' with hy' | hy'
    · exact qN hA u x hx' y hy'
    · exact pQ hA hB hu h1 x hx' y hy'
    · exact pQ hB hA hv h2 x hx' y hy'
    · exact qN hB v x hx' y hy'
  · refine ((ya _).append (ya _)).trans ?_
    have e : (A ++ B).Perm ((A.take u ++ A.drop u) ++ (B.take v ++ B.drop v)) := by rw [List.take_append_drop, List.take_append_drop]
    refine List.Perm.trans ?_ e.symm
    rw [List.append_assoc, List.append_assoc]
    refine List.Perm.append_left _ ?_
    rw [← List.append_assoc, ← List.append_assoc]
    exact List.Perm.append_right _ List.perm_append_comm
end Go.Proofs.Ytojcojanokhnaaa.Ab
namespace Go.Proofs.Ytojcojanokhnaaa.Ab
open Go.RowKit
inductive Blk (s : Nat) : List Rw → Prop where
  | last {X : List Rw} (hl : X.length ≤ s) (h : Srt X) : Blk s X
  | cons {X Y : List Rw} (hl : X.length = s) (h : Srt X) (t : Blk s Y) : Blk s (X ++ Y)
def mR (s : Nat) (U : List Rw) : Prop := ∀ Z, Blk s Z → Blk s (U ++ Z)
theorem nS {s : Nat} : mR s [] := fun Z h => h
theorem qb {s : Nat} {U X : List Rw} (hU : mR s U) (hl : X.length = s) (h : Srt X) : mR s (U ++ X) := fun Z hZ => by
  rw [List.append_assoc]; exact hU _ (.cons hl h hZ)
theorem ta {s : Nat} {U X : List Rw} (hU : mR s U) (hl : X.length ≤ s) (h : Srt X) : Blk s (U ++ X) := hU _ (.last hl h)
theorem sJ {s : Nat} {V : List Rw} (h : Blk s V) (hl : V.length ≤ s) : Srt V := by
  cases h with
  | last _ h => exact h
  | @cons X Y hX h t =>
    have : Y = [] := List.eq_nil_of_length_eq_zero (by rw [List.length_append] at hl; omega)
    subst this
    rw [List.append_nil]
    exact h
theorem pW {s : Nat} {V : List Rw} (h : Blk s V) (hl : s < V.length) : ∃ X Y, V = X ++ Y ∧ X.length = s ∧ Srt X ∧ Blk s Y := by
  cases h with
  | last q h => omega
  | @cons X Y hX h t => exact ⟨X, Y, rfl, hX, h, t⟩
theorem eV {s : Nat} {V : List Rw} (hs : 0 < s) (h : Blk s V) (hl : 2 * s ≤ V.length) : ∃ X Y Z, V = X ++ Y ++ Z ∧ X.length = s ∧ Y.length = s ∧ Srt X ∧ Srt Y ∧ Blk s Z := by
  obtain ⟨X, W, rfl, hX, sX, hW⟩ := pW h (by omega)
  rw [List.length_append] at hl
  rcases Nat.lt_or_ge s W.length with hlt | hge
  · obtain ⟨Y, Z, rfl, hY, sY, hZ⟩ := pW hW hlt
    exact ⟨X, Y, Z, by rw [List.append_assoc], hX, hY, sX, sY, hZ⟩
  · exact ⟨X, W, [], by simp, hX, by omega, sX, sJ hW hge, .last (Nat.zero_le _) List.Pairwise.nil⟩
theorem fN {s : Nat} {V : List Rw} (h : Blk s V) (hl : s < V.length) (h2 : V.length < 2 * s) : ∃ X Y, V = X ++ Y ∧ X.length = s ∧ Srt X ∧ Srt Y ∧ 0 < Y.length := by
  obtain ⟨X, Y, rfl, hX, sX, hY⟩ := pW h hl
  rw [List.length_append] at hl h2
  exact ⟨X, Y, rfl, hX, sX, sJ hY (by omega), by omega⟩
theorem mf {xs : List Rw} (h : Srt xs) : yM xs = xs := (wh h (.refl _)).symm
end Go.Proofs.Ytojcojanokhnaaa.Ab
namespace Go.Proofs.Ytojcojanokhnaaa.Ab
open Go.RowKit
theorem s6 (k : Int) : zy Go.Proofs.Try.prog 46 [ww, I k] [] (I k) [] false := by
  refine zw [4] Go.Proofs.Try.func46 rfl rfl ?_
  simp only [Go.Proofs.Try.ntmps46, List.length_cons, List.length_nil, Nat.reduceAdd, Nat.reduceSub, List.replicate_succ, List.replicate_zero, List.cons_append, List.nil_append]
  repeat' first | refine zL ?_ | refine zA ?_ | refine zQ [] ?_ | (refine isA ?_; refine zf rfl ?_) | (refine isL ?_; refine zV rfl (by kernel_rfl) rfl rfl ?_) | (refine zc rfl ?_; refine zU rfl (by kernel_rfl) rfl rfl ?_) | refine zD ?_ | refine zB _ rfl (by kernel_rfl) ?_ | refine zW rfl ?_ | refine zX rfl ?_ | refine zC ?_ | with_reducible refine zO ?_ | refine zI ?_ | refine zJ ?_ | (with_reducible first | refine zM ?_ | refine zN ?_ | refine zF ?_ | refine zH ?_ | refine zG ?_) | refine zP ?_
  refine z9 (α := Unit) (fun _ => ⟨[ww, I k, .any, .any, .any, I 0, .any, .any, .any, .any, .any, .any, .any, .any, .any, .any, .any, .any, .any, .any, .any, .any, .any, .any, .any, .any, .any, .any, .any, .any, .any, .any, .any, .any], [], 0⟩) (fun _ => 0) () ?_ ?_
  · exact yW [] rfl rfl (by decide) .nil (by repeat' first | exact zj | refine zZ ?_ ?_ | exact zp | exact le_refl rfl | exact zm rfl rfl | exact zu rfl)
  · intro _
    repeat' first | refine zL ?_ | refine zA ?_ | refine zQ [] ?_ | (refine isA ?_; refine zf rfl ?_) | (refine isL ?_; refine zV rfl (by kernel_rfl) rfl rfl ?_) | (refine zc rfl ?_; refine zU rfl (by kernel_rfl) rfl rfl ?_) | exact yJ rfl rfl rfl | refine zD ?_ | refine zB _ rfl (by kernel_rfl) ?_ | refine zW rfl ?_ | refine zX rfl ?_ | refine zC ?_ | with_reducible refine zO ?_ | refine zI ?_ | refine zJ ?_ | (with_reducible first | refine zM ?_ | refine zN ?_ | refine zF ?_ | refine zH ?_ | refine zG ?_) | refine zP ?_
theorem dk {n : Nat} {l : Int} (hn : n ≤ 9223372036854775807) (h0 : 0 ≤ l) (h1 : l ≤ 1048576) (h : decide (szL n l < 0) = false) : (n : Int) ≤ l ∧ szL n l = l - n := by
  have e : IntKind.i64.wrap (l - n) = l - n := by rw [IntKind.wrap_i64]; omega
  unfold szL at h ⊢
  rw [e] at h ⊢
  by_cases hc : l - (n : Int) < 0
  · rw [decide_eq_true hc] at h; cases h
  · rw [show decide (l - (n : Int) < 0) = false from decide_eq_false hc, cond_false]
    exact ⟨by omega, rfl⟩
end Go.Proofs.Ytojcojanokhnaaa.Ab
namespace Go.Proofs.Ytojcojanokhnaaa.Ab
open Go.RowKit
structure So where
  input : List Rw
  pos : Int
  heap : List Rw
  dfr : List Rw
  out : List Rw
  runs : List Rn
  lp : Int
  rp : Int
  ph : Int
  wr : Int
def soE (s : So) : List V := [rwL s.input, I s.pos, rwL s.heap, rwL s.dfr, rwL s.out, rnL s.runs, I s.lp, I s.rp, I s.ph, I s.wr]
structure okSo (s : So) : Prop where
  input : s.input.length ≤ 10000000
  heap : s.heap.length ≤ 10000000
  dfr : s.dfr.length ≤ 10000000
  out : s.out.length ≤ 10000000
  runs : s.runs.length ≤ 10000000
  tot : tot s.runs ≤ 10000000
theorem okSo.rn {s : So} (h : okSo s) : t5 s.runs := ⟨by have := h.runs; omega, fun x hx => by
  have : x.length ≤ Ab.tot s.runs := m0 (List.mem_map.2 ⟨x, hx, rfl⟩)
  have := h.tot
  omega⟩
def szS (s : So) (l : Int) : Int :=
  let a := szL s.input.length l
  let b := szL s.heap.length a
  let c := szL s.dfr.length b
  let d := szL s.out.length c
  let e := szR s.runs d
  cond (decide (a < 0)) (-1) (cond (decide (b < 0)) (-1) (cond (decide (c < 0)) (-1) (cond (decide (d < 0)) (-1) (cond (decide (e < 0)) (-1) e))))
structure rdSo (s : So) : Prop where
  input : s.input.length ≤ 9223372036854775807
  heap : s.heap.length ≤ 9223372036854775807
  dfr : s.dfr.length ≤ 9223372036854775807
  out : s.out.length ≤ 9223372036854775807
  runs : s.runs.length ≤ 9223372036854775807
  each : ∀ x ∈ s.runs, x.length ≤ 9223372036854775807
def totS (s : So) : Nat := s.input.length + s.heap.length + s.dfr.length + s.out.length + tot s.runs
def mkSo (k : Int) (s : So) : So :=
  ⟨mkC k s.input s.input.length, s.pos, mkC (kk k (3 * s.input.length)) s.heap s.heap.length, mkC (kk k (3 * (s.input.length + s.heap.length))) s.dfr s.dfr.length, mkC (kk k (3 * (s.input.length + s.heap.length + s.dfr.length))) s.out s.out.length, d3 (kk k (3 * (s.input.length + s.heap.length + s.dfr.length + s.out.length))) s.runs, s.lp, s.rp, s.ph, s.wr⟩
end Go.Proofs.Ytojcojanokhnaaa.Ab
namespace Go.Proofs.Ytojcojanokhnaaa.Ab
open Go.RowKit
theorem s9 (xs ys : List Rw) (hl : xs.length ≤ 1000000000) : zy Go.Proofs.Try.prog 81 [rwL xs, rwL ys] [] (B (xj xs ys)) [] false := by
  refine zw [4] Go.Proofs.Try.func81 rfl rfl ?_
  simp only [Go.Proofs.Try.ntmps81, List.length_cons, List.length_nil, Nat.reduceAdd, Nat.reduceSub, List.replicate_succ, List.replicate_zero, List.cons_append, List.nil_append]
  repeat' first | refine zL ?_ | refine zA ?_ | refine zQ [] ?_ | (refine isA ?_; refine zf rfl ?_) | (refine isL ?_; refine zV rfl (by kernel_rfl) rfl rfl ?_) | (refine zc rfl ?_; refine zU rfl (by kernel_rfl) rfl rfl ?_) | refine zD ?_ | refine zB _ rfl (by kernel_rfl) ?_ | refine zW rfl ?_ | refine zX rfl ?_ | refine zC ?_ | with_reducible refine zO ?_ | refine zI ?_ | refine zJ ?_ | (with_reducible first | refine zM ?_ | refine zN ?_ | refine zF ?_ | refine zH ?_ | refine zG ?_) | refine zP ?_
  refine zh rfl (fun h => ?_) (fun h => ?_)
  · have hne : xs.length ≠ ys.length := by have : ¬ ((xs.length : Int) = ys.length) := (by simpa using h); omega
    repeat' first | refine zL ?_ | refine zA ?_ | refine zQ [] ?_ | (refine isA ?_; refine zf rfl ?_) | (refine isL ?_; refine zV rfl (by kernel_rfl) rfl rfl ?_) | (refine zc rfl ?_; refine zU rfl (by kernel_rfl) rfl rfl ?_) | exact yJ rfl rfl (by rw [tM hne]) | refine zD ?_ | refine zB _ rfl (by kernel_rfl) ?_ | refine zW rfl ?_ | refine zX rfl ?_ | refine zC ?_ | with_reducible refine zO ?_ | refine zI ?_ | refine zJ ?_ | (with_reducible first | refine zM ?_ | refine zN ?_ | refine zF ?_ | refine zH ?_ | refine zG ?_) | refine zP ?_
  have he : xs.length = ys.length := by have : ((xs.length : Int) = ys.length) := (by simpa using h); omega
  repeat' first | refine zL ?_ | refine zA ?_ | refine zQ [] ?_ | (refine isA ?_; refine zf rfl ?_) | (refine isL ?_; refine zV rfl (by kernel_rfl) rfl rfl ?_) | (refine zc rfl ?_; refine zU rfl (by kernel_rfl) rfl rfl ?_) | refine zD ?_ | refine zB _ rfl (by kernel_rfl) ?_ | refine zW rfl ?_ | refine zX rfl ?_ | refine zC ?_ | with_reducible refine zO ?_ | refine zI ?_ | refine zJ ?_ | (with_reducible first | refine zM ?_ | refine zN ?_ | refine zF ?_ | refine zH ?_ | refine zG ?_) | refine zP ?_
  refine z9 (α := { i : Nat // i ≤ xs.length ∧ xj (xs.drop i) (ys.drop i) = xj xs ys }) (fun i => ⟨[rwL xs, rwL ys, .any, .any, .any, .any, .any, .any, .any, .any, .any, .any, I xs.length, I i.1, .any, .any, .any, .any, .any, .any, .any, .any, .any, .any, .any, .any], [], 0⟩) (fun i => xs.length - i.1) ⟨0, Nat.zero_le _, rfl⟩ ?_ ?_
  · exact xl rfl (by repeat' first | exact EqS.nil | refine EqS.any ?_ | refine EqS.same rfl ?_)
  · rintro ⟨i, hi, hq⟩
    repeat' first | refine zL ?_ | refine zA ?_ | refine zQ [] ?_ | (refine isA ?_; refine zf rfl ?_) | (refine isL ?_; refine zV rfl (by kernel_rfl) rfl rfl ?_) | (refine zc rfl ?_; refine zU rfl (by kernel_rfl) rfl rfl ?_) | refine zD ?_ | refine zB _ rfl (by kernel_rfl) ?_ | refine zW rfl ?_ | refine zX rfl ?_ | refine zC ?_ | with_reducible refine zO ?_ | refine zI ?_ | refine zJ ?_ | (with_reducible first | refine zM ?_ | refine zN ?_ | refine zF ?_ | refine zH ?_ | refine zG ?_) | refine zP ?_
    refine zh rfl (fun h => ?_) (fun h => ?_)
    · have hlt : i < xs.length := by simpa using h
      obtain ⟨x, hx⟩ : ∃ z, xs[i]? = some z := ⟨_, List.getElem?_eq_getElem hlt⟩
      obtain ⟨y, hy⟩ : ∃ z, ys[i]? = some z := ⟨_, List.getElem?_eq_getElem (by omega)⟩
      rw [pP hx hy] at hq
      repeat' first | refine zL ?_ | refine zA ?_ | refine zQ [] ?_ | (refine isA ?_; refine zf rfl ?_) | (refine isL ?_; refine zV rfl (by kernel_rfl) rfl rfl ?_) | (refine zc rfl ?_; refine zU rfl (by kernel_rfl) rfl rfl ?_) | (refine yB (x := .tmp 16) ?_; refine za rfl (zz (t := rwT) (z := x) rfl rfl rfl rfl (Int.natCast_nonneg i) hx) rfl ?_) | (refine yA (x := .tmp 16) rfl ?_; refine zT rfl (by kernel_rfl) rfl (zz (t := rwT) (z := x) rfl rfl rfl rfl (Int.natCast_nonneg i) hx) rfl ?_) | (refine yB (x := .tmp 20) ?_; refine za rfl (zz (t := rwT) (z := y) rfl rfl rfl rfl (Int.natCast_nonneg i) hy) rfl ?_) | (refine yA (x := .tmp 20) rfl ?_; refine zT rfl (by kernel_rfl) rfl (zz (t := rwT) (z := y) rfl rfl rfl rfl (Int.natCast_nonneg i) hy) rfl ?_) | refine za rfl (qW rfl rfl rfl) rfl ?_ | refine zT rfl (by kernel_rfl) rfl (qW rfl rfl rfl) rfl ?_ | refine zD ?_ | refine zB _ rfl (by kernel_rfl) ?_ | refine zW rfl ?_ | refine zX rfl ?_ | refine zC ?_ | with_reducible refine zO ?_ | refine zI ?_ | refine zJ ?_ | (with_reducible first | refine zM ?_ | refine zN ?_ | refine zF ?_ | refine zH ?_ | refine zG ?_) | refine zP ?_
      refine zh rfl (fun h1 => ?_) (fun h1 => ?_)
      · have h2 : rwD x y = false := by simpa using h1
        rw [h2, Bool.false_and] at hq
        repeat' first | refine zL ?_ | refine zA ?_ | refine zQ [] ?_ | (refine isA ?_; refine zf rfl ?_) | (refine isL ?_; refine zV rfl (by kernel_rfl) rfl rfl ?_) | (refine zc rfl ?_; refine zU rfl (by kernel_rfl) rfl rfl ?_) | exact yJ rfl rfl (congrArg B hq) | refine zD ?_ | refine zB _ rfl (by kernel_rfl) ?_ | refine zW rfl ?_ | refine zX rfl ?_ | refine zC ?_ | with_reducible refine zO ?_ | refine zI ?_ | refine zJ ?_ | (with_reducible first | refine zM ?_ | refine zN ?_ | refine zF ?_ | refine zH ?_ | refine zG ?_) | refine zP ?_
      · have h2 : rwD x y = true := by simpa using h1
        rw [h2, Bool.true_and] at hq
        repeat' first | refine zL ?_ | refine zA ?_ | refine zQ [] ?_ | (refine isA ?_; refine zf rfl ?_) | (refine isL ?_; refine zV rfl (by kernel_rfl) rfl rfl ?_) | (refine zc rfl ?_; refine zU rfl (by kernel_rfl) rfl rfl ?_) | refine zD ?_ | refine zB _ rfl (by kernel_rfl) ?_ | refine zW rfl ?_ | refine zX rfl ?_ | refine zC ?_ | with_reducible refine zO ?_ | refine zI ?_ | refine zJ ?_ | (with_reducible first | refine zM ?_ | refine zN ?_ | refine zF ?_ | refine zH ?_ | refine zG ?_) | refine zP ?_
        refine ⟨⟨i + 1, hlt, hq⟩, by simp only; omega, ?_⟩
        exact xl rfl (by repeat' first | exact EqS.nil | refine EqS.any ?_ | refine EqS.same rfl ?_ | refine EqS.same (mG (by assumption) (by omega)) ?_)
    · have hge : i = xs.length := by
        have : ¬ ((i : Int) < xs.length) := by simpa using h
        omega
      subst hge
      have hq' : xj xs ys = true := by rw [← hq, List.drop_length, he, List.drop_length]; rfl
      repeat' first | refine zL ?_ | refine zA ?_ | refine zQ [] ?_ | (refine isA ?_; refine zf rfl ?_) | (refine isL ?_; refine zV rfl (by kernel_rfl) rfl rfl ?_) | (refine zc rfl ?_; refine zU rfl (by kernel_rfl) rfl rfl ?_) | exact yJ rfl rfl (by rw [hq']) | refine zD ?_ | refine zB _ rfl (by kernel_rfl) ?_ | refine zW rfl ?_ | refine zX rfl ?_ | refine zC ?_ | with_reducible refine zO ?_ | refine zI ?_ | refine zJ ?_ | (with_reducible first | refine zM ?_ | refine zN ?_ | refine zF ?_ | refine zH ?_ | refine zG ?_) | refine zP ?_
theorem nh (xs ys : List Rw) (hl : xs.length ≤ 1000000000) : zy Go.Proofs.Try.prog 72 [rwL xs, rwL ys] [] (B (xj xs ys)) [] false := by
  refine zw [4] Go.Proofs.Try.func72 rfl rfl ?_
  simp only [Go.Proofs.Try.ntmps72, List.length_cons, List.length_nil, Nat.reduceAdd, Nat.reduceSub, List.replicate_succ, List.replicate_zero, List.cons_append, List.nil_append]
  repeat' first | refine zL ?_ | refine zA ?_ | refine zQ [] ?_ | (refine isA ?_; refine zf rfl ?_) | (refine isL ?_; refine zV rfl (by kernel_rfl) rfl rfl ?_) | (refine zc rfl ?_; refine zU rfl (by kernel_rfl) rfl rfl ?_) | refine zD ?_ | refine zB _ rfl (by kernel_rfl) ?_ | refine zW rfl ?_ | refine zX rfl ?_ | refine zC ?_ | with_reducible refine zO ?_ | refine zI ?_ | refine zJ ?_ | (with_reducible first | refine zM ?_ | refine zN ?_ | refine zF ?_ | refine zH ?_ | refine zG ?_) | refine zP ?_
  refine zh rfl (fun h => ?_) (fun h => ?_)
  · have hne : xs.length ≠ ys.length := by have : ¬ ((xs.length : Int) = ys.length) := (by simpa using h); omega
    repeat' first | refine zL ?_ | refine zA ?_ | refine zQ [] ?_ | (refine isA ?_; refine zf rfl ?_) | (refine isL ?_; refine zV rfl (by kernel_rfl) rfl rfl ?_) | (refine zc rfl ?_; refine zU rfl (by kernel_rfl) rfl rfl ?_) | exact yJ rfl rfl (by rw [tM hne]) | refine zD ?_ | refine zB _ rfl (by kernel_rfl) ?_ | refine zW rfl ?_ | refine zX rfl ?_ | refine zC ?_ | with_reducible refine zO ?_ | refine zI ?_ | refine zJ ?_ | (with_reducible first | refine zM ?_ | refine zN ?_ | refine zF ?_ | refine zH ?_ | refine zG ?_) | refine zP ?_
  have he : xs.length = ys.length := by have : ((xs.length : Int) = ys.length) := (by simpa using h); omega
  repeat' first | refine zL ?_ | refine zA ?_ | refine zQ [] ?_ | (refine isA ?_; refine zf rfl ?_) | (refine isL ?_; refine zV rfl (by kernel_rfl) rfl rfl ?_) | (refine zc rfl ?_; refine zU rfl (by kernel_rfl) rfl rfl ?_) | refine zD ?_ | refine zB _ rfl (by kernel_rfl) ?_ | refine zW rfl ?_ | refine zX rfl ?_ | refine zC ?_ | with_reducible refine zO ?_ | refine zI ?_ | refine zJ ?_ | (with_reducible first | refine zM ?_ | refine zN ?_ | refine zF ?_ | refine zH ?_ | refine zG ?_) | refine zP ?_
  refine z9 (α := { i : Nat // i ≤ xs.length ∧ xj (xs.drop i) (ys.drop i) = xj xs ys }) (fun i => ⟨[rwL xs, rwL ys, .any, .any, .any, I i.1, .any, .any, .any, .any, .any, .any, .any, .any, .any, .any, .any, .any, .any, .any, .any, .any, .any, .any, .any, .any], [], 0⟩) (fun i => xs.length - i.1) ⟨0, Nat.zero_le _, rfl⟩ ?_ ?_
  · exact xl rfl (by repeat' first | exact EqS.nil | refine EqS.any ?_ | refine EqS.same rfl ?_)
  · rintro ⟨i, hi, hq⟩
    repeat' first | refine zL ?_ | refine zA ?_ | refine zQ [] ?_ | (refine isA ?_; refine zf rfl ?_) | (refine isL ?_; refine zV rfl (by kernel_rfl) rfl rfl ?_) | (refine zc rfl ?_; refine zU rfl (by kernel_rfl) rfl rfl ?_) | refine zD ?_ | refine zB _ rfl (by kernel_rfl) ?_ | refine zW rfl ?_ | refine zX rfl ?_ | refine zC ?_ | with_reducible refine zO ?_ | refine zI ?_ | refine zJ ?_ | (with_reducible first | refine zM ?_ | refine zN ?_ | refine zF ?_ | refine zH ?_ | refine zG ?_) | refine zP ?_
    refine zh rfl (fun h => ?_) (fun h => ?_)
    · have hlt : i < xs.length := by simpa using h
      obtain ⟨x, hx⟩ : ∃ z, xs[i]? = some z := ⟨_, List.getElem?_eq_getElem hlt⟩
      obtain ⟨y, hy⟩ : ∃ z, ys[i]? = some z := ⟨_, List.getElem?_eq_getElem (by omega)⟩
      rw [pP hx hy] at hq
      repeat' first | refine zL ?_ | refine zA ?_ | refine zQ [] ?_ | (refine isA ?_; refine zf rfl ?_) | (refine isL ?_; refine zV rfl (by kernel_rfl) rfl rfl ?_) | (refine zc rfl ?_; refine zU rfl (by kernel_rfl) rfl rfl ?_) | (refine yB (x := .tmp 17) ?_; refine za rfl (zz (t := rwT) (z := x) rfl rfl rfl rfl (Int.natCast_nonneg i) hx) rfl ?_) | (refine yA (x := .tmp 17) rfl ?_; refine zT rfl (by kernel_rfl) rfl (zz (t := rwT) (z := x) rfl rfl rfl rfl (Int.natCast_nonneg i) hx) rfl ?_) | (refine yB (x := .tmp 21) ?_; refine za rfl (zz (t := rwT) (z := y) rfl rfl rfl rfl (Int.natCast_nonneg i) hy) rfl ?_) | (refine yA (x := .tmp 21) rfl ?_; refine zT rfl (by kernel_rfl) rfl (zz (t := rwT) (z := y) rfl rfl rfl rfl (Int.natCast_nonneg i) hy) rfl ?_) | refine za rfl (qW rfl rfl rfl) rfl ?_ | refine zT rfl (by kernel_rfl) rfl (qW rfl rfl rfl) rfl ?_ | refine zD ?_ | refine zB _ rfl (by kernel_rfl) ?_ | refine zW rfl ?_ | refine zX rfl ?_ | refine zC ?_ | with_reducible refine zO ?_ | refine zI ?_ | refine zJ ?_ | (with_reducible first | refine zM ?_ | refine zN ?_ | refine zF ?_ | refine zH ?_ | refine zG ?_) | refine zP ?_
      refine zh rfl (fun h1 => ?_) (fun h1 => ?_)
      · have h2 : rwD x y = false := by simpa using h1
        rw [h2, Bool.false_and] at hq
        repeat' first | refine zL ?_ | refine zA ?_ | refine zQ [] ?_ | (refine isA ?_; refine zf rfl ?_) | (refine isL ?_; refine zV rfl (by kernel_rfl) rfl rfl ?_) | (refine zc rfl ?_; refine zU rfl (by kernel_rfl) rfl rfl ?_) | exact yJ rfl rfl (congrArg B hq) | refine zD ?_ | refine zB _ rfl (by kernel_rfl) ?_ | refine zW rfl ?_ | refine zX rfl ?_ | refine zC ?_ | with_reducible refine zO ?_ | refine zI ?_ | refine zJ ?_ | (with_reducible first | refine zM ?_ | refine zN ?_ | refine zF ?_ | refine zH ?_ | refine zG ?_) | refine zP ?_
      · have h2 : rwD x y = true := by simpa using h1
        rw [h2, Bool.true_and] at hq
        repeat' first | refine zL ?_ | refine zA ?_ | refine zQ [] ?_ | (refine isA ?_; refine zf rfl ?_) | (refine isL ?_; refine zV rfl (by kernel_rfl) rfl rfl ?_) | (refine zc rfl ?_; refine zU rfl (by kernel_rfl) rfl rfl ?_) | refine zD ?_ | refine zB _ rfl (by kernel_rfl) ?_ | refine zW rfl ?_ | refine zX rfl ?_ | refine zC ?_ | with_reducible refine zO ?_ | refine zI ?_ | refine zJ ?_ | (with_reducible first | refine zM ?_ | refine zN ?_ | refine zF ?_ | refine zH ?_ | refine zG ?_) | refine zP ?_
        refine ⟨⟨i + 1, hlt, hq⟩, by simp only; omega, ?_⟩
        exact xl rfl (by repeat' first | exact EqS.nil | refine EqS.any ?_ | refine EqS.same rfl ?_ | refine EqS.same (mG (by assumption) (by omega)) ?_)
    · have hge : i = xs.length := by
        have : ¬ ((i : Int) < xs.length) := by simpa using h
        omega
      subst hge
      have hq' : xj xs ys = true := by rw [← hq, List.drop_length, he, List.drop_length]; rfl
      repeat' first | refine zL ?_ | refine zA ?_ | refine zQ [] ?_ | (refine isA ?_; refine zf rfl ?_) | (refine isL ?_; refine zV rfl (by kernel_rfl) rfl rfl ?_) | (refine zc rfl ?_; refine zU rfl (by kernel_rfl) rfl rfl ?_) | exact yJ rfl rfl (by rw [hq']) | refine zD ?_ | refine zB _ rfl (by kernel_rfl) ?_ | refine zW rfl ?_ | refine zX rfl ?_ | refine zC ?_ | with_reducible refine zO ?_ | refine zI ?_ | refine zJ ?_ | (with_reducible first | refine zM ?_ | refine zN ?_ | refine zF ?_ | refine zH ?_ | refine zG ?_) | refine zP ?_
def eqRs : List Rn → List Rn → Bool
  | [], [] => true
  | x :: xs, y :: ys => xj x y && eqRs xs ys
  | _, _ => false
def eqSo (s t : So) : Bool := xj s.input t.input && (decide (s.pos = t.pos) && (xj s.heap t.heap && (xj s.dfr t.dfr && (xj s.out t.out && (eqRs s.runs t.runs && (decide (s.lp = t.lp) && (decide (s.rp = t.rp) && (decide (s.ph = t.ph) && decide (s.wr = t.wr)))))))))
end Go.Proofs.Ytojcojanokhnaaa.Ab
namespace Go.Proofs.Ytojcojanokhnaaa.Ab
open Go.RowKit
def rcV (rs : List Rn) (k : Nat) (p : Int) : Int := cond (decide (p < 0)) 0 (yR ((rs.getD k [])[p.toNat]?).toList)
def yj (s : So) : Int := cond (decide (s.ph = 1)) (yR s.heap + yR s.dfr) (cond (decide (s.ph = 2)) (cond (decide (s.lp < 0) || decide (s.rp < 0)) 0 (rcV s.runs 0 s.lp + rcV s.runs 1 s.rp)) (cond (decide (s.ph = 3)) (rcV s.runs 0 s.lp) 0))
def v4 (s : So) : Bool := avR s.input && (inV s.pos 0 s.input.length && (avS s.runs && (decide (0 ≤ s.wr) && (v2 s.out && s.heap.all fun r => !bel r s.out))))
def sM (s : So) : Bool := decide (s.lp = 0) && (decide (s.rp = 0) && ((decide (0 < s.out.length) || decide (s.dfr.length = 0)) && (decide (yj s ≤ 60) && eqB (s.runs.flatten ++ s.out ++ s.heap ++ s.dfr) (s.input.take s.pos.toNat))))
def vc (s : So) : Bool := decide (s.pos = s.input.length) && (decide (s.heap.length = 0) && (decide (s.dfr.length = 0) && eqB s.runs.flatten s.input))
def vV (s : So) : Bool := match s.runs with
  | a :: b :: _ => inV s.lp 0 a.length && (inV s.rp 0 b.length && (xj s.out (mgV (a.take s.lp.toNat) (b.take s.rp.toNat)) && xj s.out ((mgV a b).take (s.lp.toNat + s.rp.toNat))))
  | _ => false
def uY (s : So) : Bool := decide (s.runs.length = 1) && (inV s.lp 0 ((s.input.length : Int) - 1) && (decide (s.rp = 0) && decide (s.out.length = 0)))
def uZ (s : So) : Bool := decide (s.runs.length ≤ 1) && (decide (s.lp = s.input.length) && (decide (s.rp = 0) && decide (s.out.length = 0)))
def vS (s : So) : Bool := v4 s && cond (decide (s.ph = 1)) (sM s) (vc s && cond (decide (s.ph = 2)) (vV s) (cond (decide (s.ph = 3)) (uY s) (cond (decide (s.ph = 4)) (uZ s) false)))
def yG (s : So) : So := { s with lp := 0, rp := 0, ph := cond (decide (s.runs.length = 0)) 4 (cond (decide (s.runs.length = 1)) 3 2) }
def xk (s : So) : So := { s with runs := s.runs ++ [s.out], out := [] }
def ws (s : So) (r : Rw) : So := cond (bel r s.out) { s with dfr := s.dfr ++ [r], pos := s.pos + 1 } { s with heap := s.heap ++ [r], pos := s.pos + 1 }
def vy (s : So) (k : Nat) (r : Rw) : So := { s with heap := s.heap.take k ++ s.heap.drop (k + 1), out := s.out ++ [r], wr := IntKind.i64.wrap (s.wr + y3 r) }
def yf (s : So) : So := { s with runs := s.runs ++ [s.out], out := [], heap := s.dfr, dfr := [] }
def y8 (s : So) : So := cond (decide (0 < s.out.length)) (xk s) s
def w6 (s : So) : So := { s with runs := s.runs.drop 2 ++ [s.out], out := [] }
def w5 (s : So) (r : Rw) : So := { s with out := s.out ++ [r], wr := IntKind.i64.wrap (s.wr + y3 r), lp := s.lp + 1 }
def xx (s : So) (r : Rw) : So := { s with out := s.out ++ [r], wr := IntKind.i64.wrap (s.wr + y3 r), rp := s.rp + 1 }
def xr (s : So) : So := { s with lp := s.lp + 1, ph := cond (decide (s.lp + 1 = s.input.length)) 4 3 }
inductive StepV (s : So) (g : Int) : So → List Rw → Prop where
  | put {r : Rw} (hp : s.ph = 1) (hr : s.input[s.pos.toNat]? = some r) (hf : yj s + y3 r ≤ g) : StepV s g (ws s r) []
  | pop {k : Nat} {r : Rw} (hp : s.ph = 1) (hf : ∀ r, s.input[s.pos.toNat]? = some r → g < yj s + y3 r) (hh : 0 < s.heap.length) (hk : mC s.heap = (k : Nat)) (hr : s.heap[k]? = some r) : StepV s g (vy s k r) []
  | swap (hp : s.ph = 1) (hf : ∀ r, s.input[s.pos.toNat]? = some r → g < yj s + y3 r) (hh : s.heap = []) (hd : 0 < s.dfr.length) : StepV s g (yf s) []
  | close (hp : s.ph = 1) (hf : ∀ r, s.input[s.pos.toNat]? = some r → g < yj s + y3 r) (hh : s.heap = []) (hd : s.dfr = []) : StepV s g (yG (y8 s)) []
  | merged {a b : Rn} {rest : List Rn} (hp : s.ph = 2) (hr : s.runs = a :: b :: rest) (h1 : s.lp = a.length) (h2 : s.rp = b.length) : StepV s g (yG (w6 s)) []
  | left {a b : Rn} {rest : List Rn} {r : Rw} (hp : s.ph = 2) (hr : s.runs = a :: b :: rest) (h1 : a[s.lp.toNat]? = some r) (h2 : ∀ q, b[s.rp.toNat]? = some q → leW r q) : StepV s g (w5 s r) []
  | right {a b : Rn} {rest : List Rn} {r : Rw} (hp : s.ph = 2) (hr : s.runs = a :: b :: rest) (h1 : b[s.rp.toNat]? = some r) (h2 : ∀ q, a[s.lp.toNat]? = some q → ¬ leW q r) : StepV s g (xx s r) []
  | emit {a : Rn} {r : Rw} (hp : s.ph = 3) (hr : s.runs = [a]) (h1 : a[s.lp.toNat]? = some r) : StepV s g (xr s) [r]
end Go.Proofs.Ytojcojanokhnaaa.Ab
namespace Go.Proofs.Ytojcojanokhnaaa.Ab
open Go.RowKit
instance : DecidableEq Rw := fun x y => decidable_of_iff (rwD x y = true) mj
theorem vm {xs ys : List Rw} : xs.Perm ys ↔ ∀ a, xs.count a = ys.count a := List.perm_iff_count
theorem wR : ∀ xs ys : List Rw, (mgV xs ys).Perm (xs ++ ys)
  | [], ys => by rw [uD]; exact .refl _
  | x :: xs, [] => by rw [tC, List.append_nil]
  | x :: xs, y :: ys => by
    cases h : decide (yu x y ≤ 0) with
    | true => rw [my h]; exact (wR xs (y :: ys)).cons x
    | false =>
      rw [mz h]
      exact ((wR (x :: xs) ys).cons y).trans List.perm_middle.symm
termination_by xs ys => xs.length + ys.length
theorem vY : ∀ {xs ys : List Rw}, Srt xs → Srt ys → Srt (mgV xs ys)
  | [], ys, _, h => by rw [uD]; exact h
  | x :: xs, [], h, _ => by rw [tC]; exact h
  | x :: xs, y :: ys, hx, hy => by
    have hx' := List.pairwise_cons.1 hx
    have hy' := List.pairwise_cons.1 hy
    cases h : decide (yu x y ≤ 0) with
    | true =>
      have hle : leW x y := of_decide_eq_true h
      rw [my h]
      refine List.pairwise_cons.2 ⟨fun z hz => ?_, vY hx'.2 hy⟩
      rcases List.mem_append.1 ((wR xs (y :: ys)).mem_iff.1 hz) with hz | hz
      · exact hx'.1 z hz
      · rcases List.mem_cons.1 hz with rfl | hz
        · exact hle
        · exact xa hle (hy'.1 z hz)
    | false =>
      have hle : leW y x := vB (of_decide_eq_false h)
      rw [mz h]
      refine List.pairwise_cons.2 ⟨fun z hz => ?_, vY hx hy'.2⟩
      rcases List.mem_append.1 ((wR (x :: xs) ys).mem_iff.1 hz) with hz | hz
      · rcases List.mem_cons.1 hz with rfl | hz
        · exact hle
        · exact xa hle (hx'.1 z hz)
      · exact hy'.1 z hz
termination_by xs ys => xs.length + ys.length
theorem dM {xs ys : List Rw} (hx : Srt xs) (hy : Srt ys) : mgV xs ys = yM (xs ++ ys) := wh (vY hx hy) (wR xs ys)
theorem wm {xs : List Rw} (h : Srt xs) (n : Nat) : Srt (xs.take n) := h.sublist (List.take_sublist n xs)
theorem ky {xs : List Rw} (h : Srt xs) (n : Nat) : Srt (xs.drop n) := h.sublist (List.drop_sublist n xs)
theorem sn {S out D D' : List Rw} {r : Rw} (hS : Srt S) (ho : out = S.take out.length) (hp : (out ++ D).Perm S) (hD : D.Perm (r :: D')) (hr : ∀ z ∈ D', leW r z) : S.take (out.length + 1) = out ++ [r] := by
  have e : S = out ++ S.drop out.length := by
    have := List.take_append_drop out.length S
    rw [← ho] at this
    exact this.symm
  have hd : (S.drop out.length).Perm (r :: D') := by
    rw [vm] at *
    intro a
    have h1 := hp a
    have h2 := hD a
    rw [e] at h1
    simp only [List.count_append] at h1
    omega
  have hs : Srt (r :: yM D') := List.pairwise_cons.2 ⟨fun z hz => hr z ((ya D').mem_iff.1 hz), xV D'⟩
  have e2 : S.drop out.length = r :: yM D' := vk (ky hS _) hs (hd.trans ((ya D').symm.cons r))
  have e3 : S[out.length]? = some r := by
    have := congrArg (fun l => l[0]?) e2
    simp only [List.getElem?_drop, Nat.add_zero] at this
    exact this
  rw [List.take_add_one, e3, ← ho]
  rfl
theorem lP {xs : List Rw} {i : Nat} {r : Rw} (h : Srt xs) (hr : xs[i]? = some r) : ∀ z ∈ xs.drop i, leW r z := fun z hz => by
  obtain ⟨j, hj⟩ := List.getElem?_of_mem hz
  rw [List.getElem?_drop] at hj
  exact v7 h (Nat.le_add_right i j) hr hj
theorem nb {xs : List Rw} {i : Nat} {r : Rw} (h : Srt xs) (hr : ∀ q, xs[i]? = some q → leW r q) : ∀ z ∈ xs.drop i, leW r z := fun z hz => by
  obtain ⟨j, hj⟩ := List.getElem?_of_mem hz
  rw [List.getElem?_drop] at hj
  have hlt := (List.getElem?_eq_some_iff.1 hj).1
  obtain ⟨q, hq⟩ : ∃ z, xs[i]? = some z := ⟨_, List.getElem?_eq_getElem (by omega)⟩
  exact xa (hr q hq) (v7 h (Nat.le_add_right i j) hq hj)
structure MgI (a b : Rn) (i j : Nat) (out : List Rw) : Prop where
  ha : i ≤ a.length
  hb : j ≤ b.length
  o1 : out = mgV (a.take i) (b.take j)
  o2 : out = (mgV a b).take (i + j)
theorem MgI.len {a b : Rn} {i j : Nat} {out : List Rw} (h : MgI a b i j out) : out.length = i + j := by
  have h1 := h.ha
  have h2 := h.hb
  rw [h.o1, tW, List.length_take, List.length_take]; omega
theorem jR {a b : Rn} {i j : Nat} {out : List Rw} {r : Rw} (sa : Srt a) (sb : Srt b) (h : MgI a b i j out) (hr : a[i]? = some r) (hq : ∀ q, b[j]? = some q → leW r q) : MgI a b (i + 1) j (out ++ [r]) := by
  have hl := h.len
  have hlt := (List.getElem?_eq_some_iff.1 hr).1
  have p0 : out.Perm (a.take i ++ b.take j) := by have := wR (a.take i) (b.take j); rw [← h.o1] at this; exact this
  have ea : a = a.take i ++ r :: a.drop (i + 1) := by rw [← yI hr, List.take_append_drop]
  have eb : b = b.take j ++ b.drop j := (List.take_append_drop _ _).symm
  have p1 : (out ++ (a.drop i ++ b.drop j)).Perm (mgV a b) := by
    refine List.Perm.trans ?_ (wR a b).symm
    rw [vm] at *
    intro x
    have h1 := p0 x
    have h2 := congrArg (List.count x) ea
    have h3 := congrArg (List.count x) eb
    rw [yI hr]
    simp only [List.count_append, List.count_cons] at *
    omega
  have hn := sn (vY sa sb) (by rw [hl]; exact h.o2) p1 (D' := a.drop (i + 1) ++ b.drop j) (r := r) (by rw [yI hr]; exact .refl _) (fun z hz => by
    rcases List.mem_append.1 hz with hz | hz
    · exact lP sa hr z (by rw [yI hr]; exact List.mem_cons_of_mem _ hz)
    · exact nb sb hq z hz)
  refine ⟨hlt, h.hb, ?_, by rw [← hn, hl]; congr 1; omega⟩
  rw [dM (wm sa _) (wm sb _)]
  refine wh (by rw [← hn]; exact wm (vY sa sb) _) ?_
  rw [yw hr]
  rw [vm] at *
  intro x
  have h1 := p0 x
  simp only [List.count_append] at *
  omega
theorem kD {a b : Rn} {i j : Nat} {out : List Rw} {r : Rw} (sa : Srt a) (sb : Srt b) (h : MgI a b i j out) (hr : b[j]? = some r) (hq : ∀ q, a[i]? = some q → leW r q) : MgI a b i (j + 1) (out ++ [r]) := by
  have hl := h.len
  have hlt := (List.getElem?_eq_some_iff.1 hr).1
  have p0 : out.Perm (a.take i ++ b.take j) := by have := wR (a.take i) (b.take j); rw [← h.o1] at this; exact this
  have eb : b = b.take j ++ r :: b.drop (j + 1) := by rw [← yI hr, List.take_append_drop]
  have ea : a = a.take i ++ a.drop i := (List.take_append_drop _ _).symm
  have p1 : (out ++ (a.drop i ++ b.drop j)).Perm (mgV a b) := by
    refine List.Perm.trans ?_ (wR a b).symm
    rw [vm] at *
    intro x
    have h1 := p0 x
    have h2 := congrArg (List.count x) ea
    have h3 := congrArg (List.count x) eb
    rw [yI hr]
    simp only [List.count_append, List.count_cons] at *
    omega
  have hn := sn (vY sa sb) (by rw [hl]; exact h.o2) p1 (D' := a.drop i ++ b.drop (j + 1)) (r := r) (by rw [yI hr]; exact List.perm_middle) (fun z hz => by
    rcases List.mem_append.1 hz with hz | hz
    · exact nb sa hq z hz
    · exact lP sb hr z (by rw [yI hr]; exact List.mem_cons_of_mem _ hz))
  refine ⟨h.ha, hlt, ?_, by rw [← hn, hl]; congr 1⟩
  rw [dM (wm sa _) (wm sb _)]
  refine wh (by rw [← hn]; exact wm (vY sa sb) _) ?_
  rw [yw hr]
  rw [vm] at *
  intro x
  have h1 := p0 x
  simp only [List.count_append] at *
  omega
def qj (r : Rn) : Prop := r ≠ [] ∧ Srt r ∧ avR r = true
structure VBa (s : So) : Prop where
  input : avR s.input = true
  pos : ∃ p : Nat, s.pos = (p : Int) ∧ p ≤ s.input.length
  runs : ∀ r ∈ s.runs, qj r
  wr : 0 ≤ s.wr
  out : Srt s.out
  heap : ∀ x ∈ s.heap, bel x s.out = false
structure VRe (s : So) : Prop where
  ph : s.ph = 1
  lp : s.lp = 0
  rp : s.rp = 0
  dfr : s.dfr ≠ [] → s.out ≠ []
  mem : yR s.heap + yR s.dfr ≤ 60
  bag : (s.runs.flatten ++ s.out ++ s.heap ++ s.dfr).Perm (s.input.take s.pos.toNat)
structure VTe (s : So) : Prop where
  pos : s.pos = s.input.length
  heap : s.heap = []
  dfr : s.dfr = []
  bag : s.runs.flatten.Perm s.input
inductive VS (s : So) : Prop where
  | read (b : VBa s) (r : VRe s) : VS s
  | merge (b : VBa s) (t : VTe s) (ph : s.ph = 2) {x y : Rn} {rest : List Rn} {i j : Nat} (runs : s.runs = x :: y :: rest) (lp : s.lp = (i : Int)) (rp : s.rp = (j : Int)) (m : MgI x y i j s.out) : VS s
  | emit (b : VBa s) (t : VTe s) (ph : s.ph = 3) {x : Rn} {i : Nat} (runs : s.runs = [x]) (lp : s.lp = (i : Int)) (h : i < s.input.length) (rp : s.rp = 0) (out : s.out = []) : VS s
  | done (b : VBa s) (t : VTe s) (ph : s.ph = 4) (runs : s.runs.length ≤ 1) (lp : s.lp = s.input.length) (rp : s.rp = 0) (out : s.out = []) : VS s
theorem lg {s : So} : v4 s = true ↔ VBa s := by
  simp only [v4, Bool.and_eq_true, xS, decide_eq_true_eq, v2, List.all_eq_true, avS, Bool.not_eq_true']
  constructor
  · rintro ⟨h1, h2, h3, h4, h5, h6⟩
    refine ⟨h1, ⟨s.pos.toNat, by omega, by omega⟩, fun r hr => ?_, h4, h5, h6⟩
    obtain ⟨a, b, c⟩ := h3 r hr
    refine ⟨?_, b, c⟩
    rintro rfl
    simp at a
  · rintro ⟨h1, ⟨p, h2, h2'⟩, h3, h4, h5, h6⟩
    refine ⟨h1, by omega, fun r hr => ?_, h4, h5, h6⟩
    obtain ⟨a, b, c⟩ := h3 r hr
    refine ⟨?_, b, c⟩
    simpa using a
theorem gl {xs ys : List Rw} : (xj xs ys = true) = (xs = ys) := propext vg
theorem tS {s : So} : vS s = true ↔ VS s := by
  unfold vS
  rw [Bool.and_eq_true, lg]
  constructor
  · rintro ⟨b, h⟩
    rcases Classical.em (s.ph = 1) with h1 | h1
    · rw [decide_eq_true h1, cond_true] at h
      simp only [sM, Bool.and_eq_true, Bool.or_eq_true, decide_eq_true_eq, uS, yj, h1, decide_true, cond_true] at h
      obtain ⟨q1, q2, q3, q4, q5⟩ := h
      refine .read b ⟨h1, q1, q2, fun hd => ?_, q4, q5⟩
      rintro e
      rw [e] at q3
      rcases q3 with q3 | q3
      · simp at q3
      · exact hd (List.eq_nil_of_length_eq_zero q3)
    · rw [decide_eq_false h1, cond_false] at h
      simp only [vc, Bool.and_eq_true, decide_eq_true_eq, uS] at h
      obtain ⟨⟨t1, t2, t3, t4⟩, h⟩ := h
      have t : VTe s := ⟨t1, List.eq_nil_of_length_eq_zero t2, List.eq_nil_of_length_eq_zero t3, t4⟩
      rcases Classical.em (s.ph = 2) with h2 | h2
      · rw [decide_eq_true h2, cond_true] at h
        unfold vV at h
        split at h
        · rename_i a b' rest hr
          simp only [Bool.and_eq_true, xS, gl] at h
          obtain ⟨q1, q2, q3, q4⟩ := h
          exact .merge b t h2 hr (i := s.lp.toNat) (j := s.rp.toNat) (by omega) (by omega) ⟨by omega, by omega, q3, q4⟩
        · cases h
      · rw [decide_eq_false h2, cond_false] at h
        rcases Classical.em (s.ph = 3) with h3 | h3
        · rw [decide_eq_true h3, cond_true] at h
          simp only [uY, Bool.and_eq_true, xS, decide_eq_true_eq] at h
          obtain ⟨q1, q2, q3, q4⟩ := h
          obtain ⟨x, hx⟩ := List.length_eq_one_iff.1 q1
          exact .emit b t h3 hx (i := s.lp.toNat) (by omega) (by omega) q3 (List.eq_nil_of_length_eq_zero q4)
        · rw [decide_eq_false h3, cond_false] at h
          rcases Classical.em (s.ph = 4) with h4 | h4
          · rw [decide_eq_true h4, cond_true] at h
            simp only [uZ, Bool.and_eq_true, decide_eq_true_eq] at h
            obtain ⟨q1, q2, q3, q4⟩ := h
            exact .done b t h4 q1 q2 q3 (List.eq_nil_of_length_eq_zero q4)
          · rw [decide_eq_false h4, cond_false] at h
            cases h
  · intro h
    cases h with
    | read b r =>
      refine ⟨b, ?_⟩
      rw [decide_eq_true r.ph, cond_true]
      simp only [sM, Bool.and_eq_true, Bool.or_eq_true, decide_eq_true_eq, uS, yj, r.ph, decide_true, cond_true]
      refine ⟨r.lp, r.rp, ?_, r.mem, r.bag⟩
      rcases Classical.em (s.dfr = []) with e | e
      · right; rw [e]; rfl
      · left; exact List.length_pos_iff.2 (r.dfr e)
    | merge b t ph runs lp rp m =>
      refine ⟨b, ?_⟩
      have ht : vc s = true := by simp only [vc, Bool.and_eq_true, decide_eq_true_eq, uS]; exact ⟨t.pos, by rw [t.heap]; rfl, by rw [t.dfr]; rfl, t.bag⟩
      rw [decide_eq_false (by rw [ph]; decide), cond_false, ht, Bool.true_and, decide_eq_true ph, cond_true]
      have q1 := m.ha
      have q2 := m.hb
      simp only [vV, runs, Bool.and_eq_true, xS, gl, lp, rp, Int.toNat_natCast]
      exact ⟨by omega, by omega, m.o1, m.o2⟩
    | emit b t ph runs lp h rp out =>
      refine ⟨b, ?_⟩
      have ht : vc s = true := by simp only [vc, Bool.and_eq_true, decide_eq_true_eq, uS]; exact ⟨t.pos, by rw [t.heap]; rfl, by rw [t.dfr]; rfl, t.bag⟩
      rw [decide_eq_false (by rw [ph]; decide), cond_false, ht, Bool.true_and, decide_eq_false (by rw [ph]; decide), cond_false, decide_eq_true ph, cond_true]
      simp only [uY, Bool.and_eq_true, xS, decide_eq_true_eq]
      exact ⟨by rw [runs]; rfl, by omega, rp, by rw [out]; rfl⟩
    | done b t ph runs lp rp out =>
      refine ⟨b, ?_⟩
      have ht : vc s = true := by simp only [vc, Bool.and_eq_true, decide_eq_true_eq, uS]; exact ⟨t.pos, by rw [t.heap]; rfl, by rw [t.dfr]; rfl, t.bag⟩
      rw [decide_eq_false (by rw [ph]; decide), cond_false, ht, Bool.true_and, decide_eq_false (by rw [ph]; decide), cond_false, decide_eq_false (by rw [ph]; decide), cond_false, decide_eq_true ph, cond_true]
      simp only [uZ, Bool.and_eq_true, decide_eq_true_eq]
      exact ⟨runs, lp, rp, by rw [out]; rfl⟩
end Go.Proofs.Ytojcojanokhnaaa.Ab
namespace Go.Proofs.Ytojcojanokhnaaa.Ab
open Go.RowKit
theorem vU {xs : List Rw} : avR xs = true ↔ (∀ x ∈ xs, vRw x = true) ∧ xs.length ≤ 24 := by
  simp only [avR, Bool.and_eq_true, List.all_eq_true, decide_eq_true_eq]
  constructor
  · rintro ⟨a, b⟩; exact ⟨a, by omega⟩
  · rintro ⟨a, b⟩; exact ⟨a, by omega⟩
def uh (s : So) (g : Int) : Prop := ∀ r, s.input[s.pos.toNat]? = some r → g < yj s + y3 r
theorem ff {s : So} {g : Int} (hv : VS s) (hd : s.ph ≠ 4) : ∃ x r, StepV s g x r := by
  cases hv with
  | read b q =>
    rcases Classical.em (∃ r, s.input[s.pos.toNat]? = some r ∧ yj s + y3 r ≤ g) with ⟨r, h1, h2⟩ | hn
    · exact ⟨_, _, .put q.ph h1 h2⟩
    · have hf : uh s g := fun r hr => Classical.byContradiction fun h => hn ⟨r, hr, by omega⟩
      rcases Nat.eq_zero_or_pos s.heap.length with h0 | h0
      · rcases Nat.eq_zero_or_pos s.dfr.length with d0 | d0
        · exact ⟨_, _, .close q.ph hf (List.eq_nil_of_length_eq_zero h0) (List.eq_nil_of_length_eq_zero d0)⟩
        · exact ⟨_, _, .swap q.ph hf (List.eq_nil_of_length_eq_zero h0) d0⟩
      · obtain ⟨k, y, h1, h2, _⟩ := mw h0
        exact ⟨_, _, .pop q.ph hf h0 h1 h2⟩
  | @merge b t ph x y rest i j runs lp rp m =>
    have e1 : s.lp.toNat = i := by omega
    have e2 : s.rp.toNat = j := by omega
    rcases Classical.em (i = x.length) with h1 | h1
    · rcases Classical.em (j = y.length) with h2 | h2
      · exact ⟨_, _, .merged ph runs (by omega) (by omega)⟩
      · have := m.hb
        obtain ⟨r, hr⟩ : ∃ z, y[j]? = some z := ⟨_, List.getElem?_eq_getElem (by omega)⟩
        refine ⟨_, _, .right (r := r) ph runs (by rw [e2]; exact hr) (fun q hq => ?_)⟩
        rw [e1, h1, List.getElem?_eq_none (Nat.le_refl _)] at hq
        cases hq
    · have := m.ha
      obtain ⟨r, hr⟩ : ∃ z, x[i]? = some z := ⟨_, List.getElem?_eq_getElem (by omega)⟩
      rcases Classical.em (∀ q, y[j]? = some q → leW r q) with hq | hq
      · exact ⟨_, _, .left (r := r) ph runs (by rw [e1]; exact hr) (by rw [e2]; exact hq)⟩
      · obtain ⟨q, hq⟩ := Classical.not_forall.1 hq
        have h3 : y[j]? = some q := Classical.byContradiction fun h => hq fun h' => absurd h' h
        have h4 : ¬ leW r q := fun h => hq fun _ => h
        refine ⟨_, _, .right (r := q) ph runs (by rw [e2]; exact h3) (fun q' hq' => ?_)⟩
        rw [e1, hr] at hq'
        cases hq'
        exact h4
  | @emit b t ph x i runs lp h rp out =>
    have hb := t.bag.length_eq
    rw [runs] at hb
    simp at hb
    obtain ⟨r, hr⟩ : ∃ z, x[i]? = some z := ⟨_, List.getElem?_eq_getElem (by omega)⟩
    exact ⟨_, _, .emit ph runs (by rw [lp]; exact hr)⟩
  | done b t ph => exact absurd ph hd
theorem un {s : So} (b : VBa s) (t : VTe s) (ho : s.out = []) : VS (yG s) := by
  have b' : VBa (yG s) := ⟨b.input, b.pos, b.runs, b.wr, b.out, b.heap⟩
  have t' : VTe (yG s) := ⟨t.pos, t.heap, t.dfr, t.bag⟩
  match hr : s.runs with
  | [] =>
    have hb := t.bag.length_eq
    rw [hr] at hb
    simp at hb
    refine .done b' t' (by simp [yG, hr]) (by simp [yG, hr]) ?_ rfl ho
    show (0 : Int) = s.input.length
    omega
  | [x] =>
    have hb := t.bag.length_eq
    rw [hr] at hb
    simp at hb
    have hx : x ≠ [] := (b.runs x (by rw [hr]; simp)).1
    have := List.length_pos_iff.2 hx
    exact .emit b' t' (by simp [yG, hr]) hr (i := 0) rfl (by show 0 < s.input.length; omega) rfl ho
  | x :: y :: rest =>
    refine .merge b' t' ?_ hr (i := 0) (j := 0) rfl rfl ⟨Nat.zero_le _, Nat.zero_le _, ?_, ?_⟩
    · show cond (decide (s.runs.length = 0)) 4 (cond (decide (s.runs.length = 1)) 3 2) = 2
      rw [hr, decide_eq_false (by simp), decide_eq_false (by simp)]; rfl
    · show s.out = mgV [] []
      rw [uD]; exact ho
    · exact ho
theorem kR {xs : List Rw} {p : Int} (h : p = xs.length) : xs.take p.toNat = xs := by rw [h]; simp
theorem eX {s : So} (h : (s.runs.flatten ++ s.out ++ s.heap ++ s.dfr).Perm (s.input.take s.pos.toNat)) {x : Rw} (hx : x ∈ s.out) : x ∈ s.input :=
  List.mem_of_mem_take (h.mem_iff.1 (by simp [hx]))
theorem eY {s : So} (h : (s.runs.flatten ++ s.out ++ s.heap ++ s.dfr).Perm (s.input.take s.pos.toNat)) : s.out.length + s.heap.length + s.dfr.length ≤ s.input.length := by
  have := h.length_eq
  simp only [List.length_append, List.length_take] at this
  omega
theorem jO {s : So} (b : VBa s) (q : VRe s) (h : s.out ≠ []) : qj s.out := by
  refine ⟨h, b.out, vU.2 ⟨fun x hx => (vU.1 b.input).1 x (eX q.bag hx), ?_⟩⟩
  have := eY q.bag
  have := (vU.1 b.input).2
  omega
theorem vL {s : So} (q : s.ph = 1) : yj s = yR s.heap + yR s.dfr := by simp [yj, q]
theorem ll {s : So} {g : Int} (b : VBa s) (q : VRe s) (hg : 8 ≤ g) (hf : uh s g) (hh : s.heap = []) (hd : s.dfr = []) : s.pos = s.input.length := by
  obtain ⟨p, hp, hle⟩ := b.pos
  have hm : yj s = 0 := by rw [vL q.ph, hh, hd]; rfl
  rcases Nat.lt_or_ge p s.input.length with hlt | hge
  · exfalso
    have := hf _ (show s.input[s.pos.toNat]? = some _ from by rw [hp, Int.toNat_natCast]; exact List.getElem?_eq_getElem hlt)
    have := xy s.input[p]
    omega
  · omega
theorem vh {w c : Int} (h0 : 0 ≤ w) (h1 : w ≤ 4611686018427387904) (c0 : 0 ≤ c) (c1 : c ≤ 4) : IntKind.i64.wrap (w + c) = w + c := by rw [IntKind.wrap_i64]; omega
theorem ui {s x : So} {g : Int} {r : List Rw} (hv : VS s) (hg : 8 ≤ g) (hg2 : g ≤ 60) (hw : s.wr ≤ 4611686018427387904) (h : StepV s g x r) : VS x := by
  cases h with
  | @put r hp hr hf =>
    cases hv with
    | read b q =>
      obtain ⟨p, hpp, hle⟩ := b.pos
      have e : s.pos.toNat = p := by omega
      rw [e] at hr
      have hlt := (List.getElem?_eq_some_iff.1 hr).1
      have ew : (s.pos + 1).toNat = p + 1 := by omega
      have hm := vL q.ph
      have bg := q.bag
      rw [e] at bg
      unfold ws
      cases hb : bel r s.out with
      | true =>
        rw [cond_true]
        refine .read ⟨b.input, ⟨p + 1, by simp only; omega, hlt⟩, b.runs, b.wr, b.out, b.heap⟩ ⟨hp, q.lp, q.rp, fun _ he => ?_, ?_, ?_⟩
        · simp only at he
          rw [he] at hb
          cases hb
        · simp only [yt, yR]; omega
        · simp only [ew]
          rw [yw hr, ← List.append_assoc]
          exact bg.append_right [r]
      | false =>
        rw [cond_false]
        refine .read ⟨b.input, ⟨p + 1, by simp only; omega, hlt⟩, b.runs, b.wr, b.out, fun y hy => ?_⟩ ⟨hp, q.lp, q.rp, q.dfr, ?_, ?_⟩
        · simp only at hy ⊢
          rcases List.mem_append.1 hy with hy | hy
          · exact b.heap y hy
          · have : y = r := by simpa using hy
            rw [this]; exact hb
        · simp only [yt, yR]; omega
        · simp only [ew]
          rw [yw hr]
          rw [vm] at *
          intro a
          have := bg a
          simp only [List.count_append] at *
          omega
    | merge b t ph => rw [hp] at ph; cases ph
    | emit b t ph => rw [hp] at ph; cases ph
    | done b t ph => rw [hp] at ph; cases ph
  | @pop k r hp hf hh hk hr =>
    cases hv with
    | read b q =>
      obtain ⟨k', y, m1, m2, m3⟩ := mw hh
      obtain rfl : k' = k := by rw [hk] at m1; omega
      rw [hr] at m2
      cases m2
      have hb := b.heap r (List.mem_of_getElem? hr)
      have hp1 := qJ hr
      have bg := q.bag
      have c := xy r
      have e := vE hp1
      simp only [yt, yR] at e
      have hmem : ∀ z, z ∈ s.heap.take k' ++ s.heap.drop (k' + 1) → z ∈ s.heap := fun z hz => hp1.mem_iff.1 (List.mem_append_left _ hz)
      refine .read ⟨b.input, b.pos, b.runs, ?_, kx b.out hb, fun y hy => ?_⟩ ⟨hp, q.lp, q.rp, fun _ he => ?_, ?_, ?_⟩
      · simp only [vy]
        rw [vh b.wr hw c.1 c.2]
        have := b.wr
        omega
      · simp only [vy] at hy ⊢
        rw [fO]
        exact decide_eq_false (fun h => absurd (m3 y (hmem y hy)) (xg.1 h))
      · simp [vy] at he
      · have := q.mem
        simp only [vy, yt]; omega
      · simp only [vy]
        rw [vm] at *
        intro a
        have := bg a
        have := hp1 a
        simp only [List.count_append] at *
        omega
    | merge b t ph => rw [hp] at ph; cases ph
    | emit b t ph => rw [hp] at ph; cases ph
    | done b t ph => rw [hp] at ph; cases ph
  | swap hp hf hh hd =>
    cases hv with
    | read b q =>
      have hd' : s.dfr ≠ [] := List.ne_nil_of_length_pos hd
      have ho := jO b q (q.dfr hd')
      have bg := q.bag
      refine .read ⟨b.input, b.pos, fun r hr => ?_, b.wr, List.Pairwise.nil, fun y hy => rfl⟩ ⟨hp, q.lp, q.rp, fun h => absurd rfl h, ?_, ?_⟩
      · simp only [yf] at hr
        rcases List.mem_append.1 hr with hr | hr
        · exact b.runs r hr
        · have : r = s.out := by simpa using hr
          rw [this]; exact ho
      · have := q.mem
        rw [hh] at this
        simp only [yf, yR] at this ⊢
        omega
      · simp only [yf]
        rw [vm] at *
        intro a
        have := bg a
        rw [hh] at this
        simp only [List.count_append, List.flatten_append, List.flatten_cons, List.flatten_nil, List.append_nil] at *
        omega
    | merge b t ph => rw [hp] at ph; cases ph
    | emit b t ph => rw [hp] at ph; cases ph
    | done b t ph => rw [hp] at ph; cases ph
  | close hp hf hh hd =>
    cases hv with
    | read b q =>
      have hpos := ll b q hg hf hh hd
      have bg := q.bag
      rw [kR hpos, hh, hd, List.append_nil, List.append_nil] at bg
      unfold y8
      rcases Nat.eq_zero_or_pos s.out.length with h0 | h0
      · rw [decide_eq_false (by omega), cond_false]
        have ho := List.eq_nil_of_length_eq_zero h0
        rw [ho, List.append_nil] at bg
        exact un b ⟨hpos, hh, hd, bg⟩ ho
      · rw [decide_eq_true h0, cond_true]
        have ho := jO b q (List.ne_nil_of_length_pos h0)
        refine un ⟨b.input, b.pos, fun r hr => ?_, b.wr, List.Pairwise.nil, fun y hy => rfl⟩ ⟨hpos, hh, hd, ?_⟩ rfl
        · simp only [xk] at hr
          rcases List.mem_append.1 hr with hr | hr
          · exact b.runs r hr
          · have : r = s.out := by simpa using hr
            rw [this]; exact ho
        · simp only [xk, List.flatten_append, List.flatten_cons, List.flatten_nil, List.append_nil]
          exact bg
    | merge b t ph => rw [hp] at ph; cases ph
    | emit b t ph => rw [hp] at ph; cases ph
    | done b t ph => rw [hp] at ph; cases ph
  | @merged a c rest hp hr h1 h2 =>
    cases hv with
    | read b q => rw [q.ph] at hp; cases hp
    | @merge b t ph x y rest' i j runs lp rp m =>
      rw [hr] at runs
      cases runs
      have e1 : i = a.length := by omega
      have e2 : j = c.length := by omega
      subst e1 e2
      have bg := t.bag
      rw [hr] at bg
      have o1 := m.o1
      rw [List.take_length, List.take_length] at o1
      have oa := b.runs a (by rw [hr]; simp)
      have oc := b.runs c (by rw [hr]; simp)
      have po : s.out.Perm (a ++ c) := by rw [o1]; exact wR a c
      have hin : ∀ z ∈ s.out, z ∈ s.input := fun z hz => bg.mem_iff.1 (by
        have := po.mem_iff.1 hz
        simp only [List.flatten_cons, List.mem_append] at this ⊢
        rcases this with h | h
        · exact Or.inl h
        · exact Or.inr (Or.inl h))
      have hlen : s.out.length ≤ s.input.length := by
        have q1 := bg.length_eq
        have q2 := po.length_eq
        simp only [List.flatten_cons, List.length_append] at q1 q2
        omega
      have ed : s.runs.drop 2 = rest := by rw [hr]; rfl
      refine un ⟨b.input, b.pos, fun r hr' => ?_, b.wr, List.Pairwise.nil, fun y hy => rfl⟩ ⟨t.pos, t.heap, t.dfr, ?_⟩ rfl
      · simp only [w6, ed] at hr'
        rcases List.mem_append.1 hr' with hr' | hr'
        · exact b.runs r (by rw [hr]; simp [hr'])
        · have : r = s.out := by simpa using hr'
          rw [this]
          refine ⟨?_, by rw [o1]; exact vY oa.2.1 oc.2.1, vU.2 ⟨fun z hz => (vU.1 b.input).1 z (hin z hz), by have := (vU.1 b.input).2; omega⟩⟩
          intro he
          have := po.length_eq
          rw [he] at this
          have := List.length_pos_iff.2 oa.1
          simp only [List.length_append, List.length_nil] at *
          omega
      · simp only [w6, ed]
        rw [vm] at *
        intro z
        have := bg z
        have := po z
        simp only [List.count_append, List.flatten_append, List.flatten_cons, List.flatten_nil, List.append_nil] at *
        omega
    | emit b t ph => rw [hp] at ph; cases ph
    | done b t ph => rw [hp] at ph; cases ph
  | @left a c rest r hp hr h1 h2 =>
    cases hv with
    | read b q => rw [q.ph] at hp; cases hp
    | @merge b t ph x y rest' i j runs lp rp m =>
      rw [hr] at runs
      cases runs
      rw [show s.lp.toNat = i by omega] at h1
      rw [show s.rp.toNat = j by omega] at h2
      have hlt := (List.getElem?_eq_some_iff.1 h1).1
      have q := jR (b.runs a (by rw [hr]; simp)).2.1 (b.runs c (by rw [hr]; simp)).2.1 m h1 h2
      have cb := xy r
      refine .merge ⟨b.input, b.pos, b.runs, ?_, ?_, ?_⟩ ⟨t.pos, t.heap, t.dfr, t.bag⟩ hp hr (i := i + 1) (j := j) ?_ rp q
      · simp only [w5]; rw [vh b.wr hw cb.1 cb.2]; have := b.wr; omega
      · have := q.o2
        simp only [w5]
        rw [this]
        exact wm (vY (b.runs a (by rw [hr]; simp)).2.1 (b.runs c (by rw [hr]; simp)).2.1) _
      · simp only [w5]; rw [t.heap]; intro z hz; cases hz
      · simp only [w5]; omega
    | emit b t ph => rw [hp] at ph; cases ph
    | done b t ph => rw [hp] at ph; cases ph
  | @right a c rest r hp hr h1 h2 =>
    cases hv with
    | read b q => rw [q.ph] at hp; cases hp
    | @merge b t ph x y rest' i j runs lp rp m =>
      rw [hr] at runs
      cases runs
      rw [show s.rp.toNat = j by omega] at h1
      rw [show s.lp.toNat = i by omega] at h2
      have hlt := (List.getElem?_eq_some_iff.1 h1).1
      have q := kD (b.runs a (by rw [hr]; simp)).2.1 (b.runs c (by rw [hr]; simp)).2.1 m h1 (fun q hq => vB (h2 q hq))
      have cb := xy r
      refine .merge ⟨b.input, b.pos, b.runs, ?_, ?_, ?_⟩ ⟨t.pos, t.heap, t.dfr, t.bag⟩ hp hr (i := i) (j := j + 1) lp ?_ q
      · simp only [xx]; rw [vh b.wr hw cb.1 cb.2]; have := b.wr; omega
      · have := q.o2
        simp only [xx]
        rw [this]
        exact wm (vY (b.runs a (by rw [hr]; simp)).2.1 (b.runs c (by rw [hr]; simp)).2.1) _
      · simp only [xx]; rw [t.heap]; intro z hz; cases hz
      · simp only [xx]; omega
    | emit b t ph => rw [hp] at ph; cases ph
    | done b t ph => rw [hp] at ph; cases ph
  | @emit a r hp hr h1 =>
    cases hv with
    | read b q => rw [q.ph] at hp; cases hp
    | merge b t ph => rw [hp] at ph; cases ph
    | @emit b t ph x i runs lp hi rp out =>
      have b' : VBa (xr s) := ⟨b.input, b.pos, b.runs, b.wr, b.out, b.heap⟩
      have t' : VTe (xr s) := ⟨t.pos, t.heap, t.dfr, t.bag⟩
      rcases Classical.em (s.lp + 1 = s.input.length) with e | e
      · refine .done b' t' ?_ ?_ e rp out
        · show cond (decide (s.lp + 1 = s.input.length)) 4 3 = 4
          rw [decide_eq_true e]; rfl
        · show s.runs.length ≤ 1
          rw [runs]; simp
      · refine .emit b' t' ?_ runs (i := i + 1) ?_ ?_ rp out
        · show cond (decide (s.lp + 1 = s.input.length)) 4 3 = 3
          rw [decide_eq_false e]; rfl
        · show s.lp + 1 = _
          omega
        · show i + 1 < s.input.length
          omega
    | done b t ph => rw [hp] at ph; cases ph
end Go.Proofs.Ytojcojanokhnaaa.Ab
namespace Go.Proofs.Ytojcojanokhnaaa.Ab
open Go.RowKit
theorem l6 (rs : List Rn) (k : Nat) (p : Int) : 0 ≤ rcV rs k p ∧ rcV rs k p ≤ 4 := by
  unfold rcV
  cases decide (p < 0) with
  | true => simp
  | false =>
    rw [cond_false]
    cases (rs.getD k [])[p.toNat]? with
    | none => simp [yR]
    | some x => have := xy x; simp only [Option.toList_some, yR]; omega
theorem tX {s : So} (h : s.ph ≠ 1) : 0 ≤ yj s ∧ yj s ≤ 8 := by
  unfold yj
  rw [decide_eq_false h, cond_false]
  have h0 := l6 s.runs 0 s.lp
  have h1 := l6 s.runs 1 s.rp
  cases decide (s.ph = 2) with
  | true =>
    rw [cond_true]
    cases (decide (s.lp < 0) || decide (s.rp < 0)) with
    | true => simp
    | false => simp only [cond_false]; omega
  | false =>
    rw [cond_false]
    cases decide (s.ph = 3) with
    | true => simp only [cond_true]; omega
    | false => simp
theorem d4 (s : So) : 0 ≤ yj s := by
  rcases Classical.em (s.ph = 1) with h | h
  · rw [vL h]; have := ua s.heap; have := ua s.dfr; omega
  · exact (tX h).1
theorem vl (s : So) : (yG s).ph ≠ 1 := by
  show cond (decide (s.runs.length = 0)) 4 (cond (decide (s.runs.length = 1)) 3 2) ≠ (1 : Int)
  cases decide (s.runs.length = 0) <;> cases decide (s.runs.length = 1) <;> decide
theorem mr (s : So) : (xr s).ph ≠ 1 := by
  show cond (decide (s.lp + 1 = s.input.length)) 4 3 ≠ (1 : Int)
  cases decide (s.lp + 1 = s.input.length) <;> decide
theorem fk (s : So) (r : Rw) (h : s.ph = 1) : yj (ws s r) = yj s + y3 r := by
  rw [vL h]
  unfold ws
  cases bel r s.out with
  | true => rw [cond_true, vL (by exact h)]; simp only [yt, yR]; omega
  | false => rw [cond_false, vL (by exact h)]; simp only [yt, yR]; omega
theorem fq {s : So} {k : Nat} {r : Rw} (h : s.ph = 1) (hr : s.heap[k]? = some r) : yj (vy s k r) = yj s - y3 r := by
  rw [vL h, vL (by exact h)]
  have e := vE (qJ hr)
  simp only [yt, yR] at e
  simp only [vy, yt]; omega
theorem kS {s : So} (h : s.ph = 1) (hh : s.heap = []) : yj (yf s) = yj s := by
  rw [vL h, vL (by exact h), hh]
  simp only [yf, yR]; omega
theorem kh {s x : So} {g : Int} {r : List Rw} (hg : 8 ≤ g) (h : StepV s g x r) : yj x ≤ max (yj s) g := by
  cases h with
  | put hp hr hf => rw [fk _ _ hp]; omega
  | @pop k r hp hf hh hk hr => rw [fq hp hr]; have := xy r; omega
  | swap hp hf hh hd => rw [kS hp hh]; omega
  | close hp hf hh hd => have := tX (vl (y8 s)); omega
  | merged hp hr h1 h2 => have := tX (vl (w6 s)); omega
  | @left a b rest r hp hr h1 h2 => have := tX (s := w5 s r) (by show s.ph ≠ 1; rw [hp]; decide); omega
  | @right a b rest r hp hr h1 h2 => have := tX (s := xx s r) (by show s.ph ≠ 1; rw [hp]; decide); omega
  | emit hp hr h1 => have := tX (mr s); omega
theorem vd (s : So) (r : Rw) : (ws s r).input = s.input ∧ (ws s r).pos = s.pos + 1 ∧ (ws s r).wr = s.wr ∧ (ws s r).ph = s.ph ∧ (ws s r).runs = s.runs ∧ (ws s r).out = s.out ∧ (ws s r).lp = s.lp := by
  unfold ws; cases bel r s.out <;> exact ⟨rfl, rfl, rfl, rfl, rfl, rfl, rfl⟩
theorem wu (s : So) : (y8 s).input = s.input ∧ (y8 s).pos = s.pos ∧ (y8 s).wr = s.wr := by
  unfold y8; cases decide (0 < s.out.length) <;> exact ⟨rfl, rfl, rfl⟩
theorem vj {s x : So} {g : Int} {r : List Rw} (h : StepV s g x r) : x.input = s.input := by
  cases h with
  | @put r => exact (vd s r).1
  | close => exact (wu s).1
  | pop | swap | merged | left | right | emit => rfl
theorem qn {s x : So} {g : Int} {r : List Rw} (h : StepV s g x r) (h0 : 0 ≤ s.wr) (hw : s.wr ≤ 4611686018427387904) : s.wr ≤ x.wr ∧ x.wr ≤ s.wr + 4 := by
  cases h with
  | @put r => rw [(vd s r).2.2.1]; omega
  | close => rw [show (yG (y8 s)).wr = s.wr from (wu s).2.2]; omega
  | @pop k r => have c := xy r; simp only [vy]; rw [vh h0 hw c.1 c.2]; omega
  | swap => simp only [yf]; omega
  | merged => simp only [yG, w6]; omega
  | @left a b rest r => have c := xy r; simp only [w5]; rw [vh h0 hw c.1 c.2]; omega
  | @right a b rest r => have c := xy r; simp only [xx]; rw [vh h0 hw c.1 c.2]; omega
  | emit => simp only [xr]; omega
theorem pm {s x : So} {g : Int} {r : List Rw} (h : StepV s g x r) : r.length ≤ 1 := by
  cases h <;> simp
def remV (s : So) : Int := cond (decide (s.ph = 3) || decide (s.ph = 4)) (s.input.length - s.lp) s.input.length
inductive Fits (g : Int) : So → Nat → So → Prop where
  | stop {s : So} (h : yj s ≤ g) : Fits g s 0 s
  | step {s x y : So} {r : List Rw} {n : Nat} (h : g < yj s) (st : StepV s g x r) (f : Fits g x n y) : Fits g s (n + 1) y
def bufN (s : So) : Nat := s.heap.length + s.dfr.length + cond (decide (s.dfr.length = 0)) 0 1
end Go.Proofs.Ytojcojanokhnaaa.Ab
namespace Go.Proofs.Ytojcojanokhnaaa.Ab
open Go.RowKit
section
variable {P : Program} {o : Oper} {ρ : Operand → V} {H : List Reg} {α : Type} {T : Ty α}
theorem lc {ty e b h hz zi : Nat} {s x : Operand} {outs : List (List α)} {n : Nat} [ht : Sl P ty e 1 b] (ho : o.op = .call { callee := .builtin .append, args := #[s, x], argTypes := #[ty, ty] })
    (hs : ρ s = .sl h 0 outs.length) (hH : H[h]? = some ⟨e, 1, nC 1 outs, 0⟩) (hx : ρ x = .sl hz 0 1) (hzz : H[hz]? = some ⟨e, 1, [.sl zi 0 n], 0⟩) (hb : (outs.length + 1) * b ≤ 140737488355328) (hbp : decide (0 < b) = true) :
    z8 P o ρ H (.sl H.length 0 (outs.length + 1)) (H.set h ⟨e, 1, nC 1 outs, 2⟩ ++ [⟨e, 1, nC 1 outs ++ [.sl zi 0 n], 0⟩]) := by
  have hb0 : 0 < b := of_decide_eq_true hbp
  have hsrc : Src H (ρ x) 1 [.sl zi 0 n] := by
    rw [hx]
    have := Src.sl (H := H) (off := 0) (m := 1) (r := ⟨e, 1, [.sl zi 0 n], 0⟩) hzz (Nat.zero_le _) (Nat.le_refl _)
    exact this
  have := vP (P := P) (ρ := ρ) (ty := ty) (m := 1) ho hs hH rfl rfl rfl (by show outs.length * 1 ≤ (nC 1 outs).length; rw [xM]; omega) hsrc rfl (fun c hc => by simp at hc; subst hc; rfl) hb (by
    have := Nat.le_mul_of_pos_right (outs.length + 1) hb0
    simp only [maxLen]
    omega)
  have e1 : (⟨e, 1, nC 1 outs, 0⟩ : Reg).cells.take (outs.length * 1) = nC 1 outs := by
    show (nC 1 outs).take _ = _
    rw [List.take_of_length_le]
    rw [xM]; omega
  rw [e1] at this
  exact this
theorem fx (b : Nat) (outs : List (List α)) (z : List α) : nC b (outs ++ [z]) = nC b outs ++ [.sl (b + outs.length) 0 z.length] := by
  rw [qX]; rfl
theorem jX {outs : List (List α)} {z : List α} {e i zi ty : Nat} (hO : H[i]? = some ⟨ty, 1, nC 1 outs ++ [.sl zi 0 z.length], 0⟩) (hz : H[zi]? = some (yV T e z)) (hR : ∀ j x, outs[j]? = some x → H[1 + j]? = some (yV T e x))
    (h1 : outs.length < zi) (h2 : outs.length < i) (h3 : i ≠ zi) : HLe (i :: (List.range' 1 outs.length ++ [zi])) (⟨ty, 1, nC 1 (outs ++ [z]), 0⟩ :: nR T e (outs ++ [z])) H := by
  have hrl : (List.range' 1 outs.length).length = outs.length := by simp
  refine ⟨by simp [zn], ?_, fun k h hk => ?_⟩
  · rw [List.nodup_cons, List.nodup_append]
    refine ⟨?_, List.nodup_range', by simp, fun a ha c hc => ?_⟩
    · rw [List.mem_append, List.mem_range'_1, List.mem_singleton]
      omega
    · rw [List.mem_range'_1] at ha
      simp at hc
      omega
  · cases k with
    | zero =>
      simp at hk
      subst hk
      refine ⟨_, _, rfl, hO, fun _ => ⟨rfl, rfl, rfl, ?_⟩⟩
      show Les _ (nC 1 (outs ++ [z])) (nC 1 outs ++ [.sl zi 0 z.length])
      have hl : ∀ (b n m : Nat) (A : List (List α)), (∀ j, j < A.length → (i :: (List.range' 1 outs.length ++ [zi]))[b + j]? = some (b + j)) → (i :: (List.range' 1 outs.length ++ [zi]))[b + A.length]? = some zi →
          Les (i :: (List.range' 1 outs.length ++ [zi])) (nC b A ++ [.sl (b + A.length) 0 z.length]) (nC b A ++ [.sl zi 0 z.length]) := fun b n m A => by
        induction A generalizing b with
        | nil => exact fun _ h => zZ (zm h rfl) zj
        | cons x A ih => exact fun h hzz => zZ (zm (h 0 (by simp)) rfl) (by
            have := ih (b + 1) (fun j hj => by have := h (j + 1) (by simp; omega); rw [show b + 1 + j = b + (j + 1) by omega]; exact this) (by rw [show b + 1 + A.length = b + (x :: A).length by simp; omega]; exact hzz)
            rw [show b + (x :: A).length = b + 1 + A.length by simp; omega]
            exact this)
      rw [fx]
      refine hl 1 0 0 outs (fun j hj => ?_) ?_
      · rw [Nat.add_comm 1 j, List.getElem?_cons_succ, List.getElem?_append_left (by rw [hrl]; exact hj)]
        simp [hj]; omega
      · rw [Nat.add_comm 1, List.getElem?_cons_succ, List.getElem?_append_right (by rw [hrl]; exact Nat.le_refl _), hrl, Nat.sub_self]; rfl
    | succ k =>
      rw [List.getElem?_cons_succ] at hk
      rcases Nat.lt_or_ge k outs.length with hlt | hge
      · rw [List.getElem?_append_left (by rw [hrl]; exact hlt)] at hk
        have hh : h = 1 + k := by
          obtain ⟨_, q⟩ := List.getElem?_eq_some_iff.1 hk
          simp at q
          omega
        subst hh
        have hx := List.getElem?_eq_getElem hlt
        refine ⟨_, _, ?_, hR _ _ hx, fun _ => ⟨rfl, rfl, rfl, zY (zE T _)⟩⟩
        rw [List.getElem?_cons_succ]
        exact xQ (by rw [List.getElem?_append_left hlt]; exact hx)
      · rw [List.getElem?_append_right (by rw [hrl]; exact hge), hrl] at hk
        have hk0 : k - outs.length = 0 := by
          have := (List.getElem?_eq_some_iff.1 hk).1
          simp at this
          exact this
        rw [hk0] at hk
        simp at hk
        subst hk
        refine ⟨_, _, ?_, hz, fun _ => ⟨rfl, rfl, rfl, zY (zE T _)⟩⟩
        rw [List.getElem?_cons_succ]
        exact xQ (by rw [List.getElem?_append_right hge, hk0]; rfl)
end
section
variable {P : Program} {ops : Array Oper} {ds : List Nat} {k : Nat} {Q : Exit → St → Prop} {S : St}
theorem tq {d : Option Tmp} {t : TypeId} {n : Nat} {els : Array (Nat × Operand)} {ty : TypeId} {p : String} {a : Array Edge} {g : Option (Nat × Bool)} (ho : ops[k]? = some ⟨d, .buildSlice t n els, ty, p, a, g⟩) (h : ALex P ops ds k Q S) : ALex P ops ds k Q S := h
end
end Go.Proofs.Ytojcojanokhnaaa.Ab
namespace Go.Proofs.Ytojcojanokhnaaa.Ab
open Go.RowKit
theorem zg {L : List Reg} {N : Reg} {n : Nat} (h : L.length = n) : (L ++ [N])[n]? = some N := by
  rw [List.getElem?_append_right (by omega), show n - L.length = 0 by omega]; rfl
theorem jY {D S : Reg} {out : List Rn} {z : Rn} {A : List Reg} {k : Nat} (hE : A[k]? = some (rwR z)) : HLe ((out.length + A.length + 2) :: (List.range' 1 out.length ++ [1 + out.length + k])) (rnN (out ++ [z])) (D :: (nR rwT 78 out ++ A ++ [S]) ++ [⟨84, 1, nC 1 out ++ [.sl (1 + out.length + k) 0 z.length], 0⟩]) := by
  have hk : k < A.length := (List.getElem?_eq_some_iff.1 hE).1
  refine jX (zg (by simp [zn]; omega)) ?_ (jG (K0 := [D]) (D := A ++ [S] ++ [⟨84, 1, nC 1 out ++ [.sl (1 + out.length + k) 0 z.length], 0⟩]) rfl (by simp)) (by omega) (by omega) (by omega)
  rw [show 1 + out.length + k = (out.length + k) + 1 by omega, List.cons_append, List.getElem?_cons_succ, List.append_assoc, List.append_assoc, List.getElem?_append_right (by simp [zn]), zn, Nat.add_sub_cancel_left, List.getElem?_append_left hk]
  exact hE
theorem sf {L : List Reg} {b b' : Reg} {n : Nat} (h : L.length = n) : (L ++ [b]).set n b' = L ++ [b'] := by
  subst h; rw [List.set_append_right _ _ (Nat.le_refl _), Nat.sub_self]; rfl
theorem fK (rs : List Rn) (hok : t5 rs) : zy Go.Proofs.Try.prog 115 [rnL rs] [] (.sl 0 0 rs.length) (rnN rs) false := by
  have hl := hok.1
  refine zw [2] Go.Proofs.Try.func115 rfl rfl ?_
  simp only [Go.Proofs.Try.ntmps115, List.length_cons, List.length_nil, Nat.reduceAdd, Nat.reduceSub, List.replicate_succ, List.replicate_zero, List.cons_append, List.nil_append]
  repeat' first | refine zL ?_ | refine zA ?_ | refine zQ [] ?_ | (refine isA ?_; refine zf rfl ?_) | (refine isL ?_; refine zV rfl (by kernel_rfl) rfl rfl ?_) | (refine zc rfl ?_; refine zU rfl (by kernel_rfl) rfl rfl ?_) | refine zD ?_ | refine zB _ rfl (by kernel_rfl) ?_ | refine zW rfl ?_ | refine zX rfl ?_ | refine zC ?_ | with_reducible refine zO ?_ | refine zI ?_ | refine zJ ?_ | (with_reducible first | refine zM ?_ | refine zN ?_ | refine zF ?_ | refine zH ?_ | refine zG ?_) | refine zP ?_
  refine z9 (α := { i : Nat // i ≤ rs.length }) (fun i => ⟨[.any, .any, .any, .sl 0 0 (rs.take i.1).length, .any, .any, rnL rs, I rs.length, I i.1, .any, .any, .any, .any, .any, .any, .any, .any, .any, .any, .any, .any], rnN (rs.take i.1), 0⟩) (fun i => rs.length - i.1) ⟨0, Nat.zero_le _⟩ ?_ ?_
  · refine Sub.trans (T := ⟨[.any, .any, .any, ww, .any, .any, rnL rs, I rs.length, I 0, .any, .any, .any, .any, .any, .any, .any, .any, .any, .any, .any, .any], [], 0⟩) (vi 84 1 ?_ (.rest _)) (yW [] rfl rfl (by decide) .nil (by repeat' first | exact zj | refine zZ ?_ ?_ | exact zp | exact le_refl rfl | exact zm rfl rfl | exact zu rfl))
    exact .cons (.same _) (.cons (.same _) (.cons (.same _) (.cons .nil (.rest _))))
  · rintro ⟨i, hi⟩
    have hnl : (rnN (rs.take i)).length = (rs.take i).length + 1 := by simp [zn]
    repeat' first | refine zL ?_ | refine zA ?_ | refine zQ [] ?_ | (refine isA ?_; refine zf rfl ?_) | (refine isL ?_; refine zV rfl (by kernel_rfl) rfl rfl ?_) | (refine zc rfl ?_; refine zU rfl (by kernel_rfl) rfl rfl ?_) | refine zD ?_ | refine zB _ rfl (by kernel_rfl) ?_ | refine zW rfl ?_ | refine zX rfl ?_ | refine zC ?_ | with_reducible refine zO ?_ | refine zI ?_ | refine zJ ?_ | (with_reducible first | refine zM ?_ | refine zN ?_ | refine zF ?_ | refine zH ?_ | refine zG ?_) | refine zP ?_
    refine zh rfl (fun h => ?_) (fun h => ?_)
    · have hlt : i < rs.length := by simpa using h
      obtain ⟨x, hx⟩ : ∃ z, rs[i]? = some z := ⟨_, List.getElem?_eq_getElem hlt⟩
      have ets : rs.take (i + 1) = rs.take i ++ [x] := yw hx
      have etl : (rs.take i).length = i := by simp; omega
      repeat' first | refine zL ?_ | refine zA ?_ | refine zQ [] ?_ | (refine isA ?_; refine zf rfl ?_) | (refine isL ?_; refine zV rfl (by kernel_rfl) rfl rfl ?_) | (refine zc rfl ?_; refine zU rfl (by kernel_rfl) rfl rfl ?_) | (refine yB ?_; refine za rfl (zz (t := rnT) (z := x) rfl rfl rfl rfl (Int.natCast_nonneg i) hx) rfl ?_) | (refine yA rfl ?_; refine zT rfl (by kernel_rfl) rfl (zz (t := rnT) (z := x) rfl rfl rfl rfl (Int.natCast_nonneg i) hx) rfl ?_) | (refine tE (x := .tmp 5) ?_; refine za rfl (wC (vs := [rwL x]) rfl rfl rfl rfl (fun c hc => by simp at hc; subst hc; rfl) (zg rfl) rfl (Nat.le_refl _)) rfl ?_) | (refine tD (x := .tmp 5) rfl ?_; refine zT rfl (by kernel_rfl) rfl (wC (vs := [rwL x]) rfl rfl rfl rfl (fun c hc => by simp at hc; subst hc; rfl) (zg rfl) rfl (Nat.le_refl _)) rfl ?_) | refine zD ?_ | refine zB _ rfl (by kernel_rfl) ?_ | refine zW rfl ?_ | refine zX rfl ?_ | refine zC ?_ | with_reducible refine zO ?_ | refine zI ?_ | refine zJ ?_ | (with_reducible first | refine zM ?_ | refine zN ?_ | refine zF ?_ | refine zH ?_ | refine zG ?_) | refine zP ?_
      refine fQ (T := ⟨[.any, .any, .any, .sl 0 0 i, .any, .ptr (i + 1) 0, rnL rs, I rs.length, I i, .any, .any, .any, .sl 0 0 i, .ptr (i + 1) 0, .any, .any, .any, .any, .any, .any, .any], rnN (rs.take i) ++ [⟨84, 1, [rwL x], 0⟩], 0⟩) (xl (by rw [sf rfl]; rfl) (by
        repeat' first | exact EqS.nil | refine EqS.any ?_ | refine EqS.same rfl ?_ | refine EqS.same (congrArg (V.sl 0 0) etl) ?_ | refine EqS.same (congrArg (fun n => V.ptr n 0) (hnl.trans (by rw [etl]))) ?_)) ?_
      repeat' first | refine zL ?_ | refine zA ?_ | refine zQ [] ?_ | (refine isA ?_; refine zf rfl ?_) | (refine isL ?_; refine zV rfl (by kernel_rfl) rfl rfl ?_) | (refine zc rfl ?_; refine zU rfl (by kernel_rfl) rfl rfl ?_) | (refine xi (x := .tmp 13) ?_; refine za rfl (xv rfl rfl (zg (by rw [hnl, etl])) rfl rfl) rfl ?_) | (refine xh (x := .tmp 13) rfl ?_; refine zT rfl (by kernel_rfl) rfl (xv rfl rfl (zg (by rw [hnl, etl])) rfl rfl) rfl ?_) | (refine zr 114 ?_; refine za rfl (z6 (r' := .sl (i + 2) 0 x.length) (H' := rnN (rs.take i) ++ [⟨84, 1, [rwL x], 0⟩] ++ [rwR x]) rfl (x5 x (hok.at hx)) (.cons (.same rfl) .nil) (fun q hq => by simp at hq; subst hq; exact zE _ _) (by simp only [List.length_append, hnl, etl, shV, Nat.zero_add, List.length_singleton]) rfl) rfl ?_) | (refine zq 114 rfl ?_; refine zT rfl (by kernel_rfl) rfl (z6 (r' := .sl (i + 2) 0 x.length) (H' := rnN (rs.take i) ++ [⟨84, 1, [rwL x], 0⟩] ++ [rwR x]) rfl (x5 x (hok.at hx)) (.cons (.same rfl) .nil) (fun q hq => by simp at hq; subst hq; exact zE _ _) (by simp only [List.length_append, hnl, etl, shV, Nat.zero_add, List.length_singleton]) rfl) rfl ?_) | (refine xd ?_; refine za rfl (lc (outs := rs.take i) (hz := (rnN (rs.take i) ++ [(⟨84, 1, [rwL x], 0⟩ : Reg)] ++ [rwR x]).length) (zi := i + 2) (n := x.length) rfl (congrArg (V.sl 0 0) etl.symm) rfl rfl (zg rfl) (by omega) rfl) rfl ?_) | (refine xH rfl ?_; refine zT rfl (by kernel_rfl) rfl (lc (outs := rs.take i) (hz := (rnN (rs.take i) ++ [(⟨84, 1, [rwL x], 0⟩ : Reg)] ++ [rwR x]).length) (zi := i + 2) (n := x.length) rfl (congrArg (V.sl 0 0) etl.symm) rfl rfl (zg rfl) (by omega) rfl) rfl ?_) | refine zD ?_ | refine zB _ rfl (by kernel_rfl) ?_ | refine zW rfl ?_ | refine zX rfl ?_ | refine zC ?_ | with_reducible refine zO ?_ | refine zI ?_ | refine zJ ?_ | (with_reducible first | refine zM ?_ | refine zN ?_ | refine zF ?_ | refine zH ?_ | refine zG ?_) | refine zP ?_
      refine ⟨⟨i + 1, hlt⟩, by simp only; omega, ?_⟩
      have q := jY (D := ⟨84, 1, nC 1 (rs.take i), 2⟩) (S := ⟨84, 1, [.sl (i + 2) 0 x.length], 0⟩) (out := rs.take i) (z := x) (A := [⟨84, 1, [rwL x], 0⟩, rwR x]) (k := 1) rfl
      have ei : 1 + (rs.take i).length + 1 = i + 2 := by omega
      have ej : (rs.take i).length + 2 + 2 = i + 4 := by omega
      rw [ei, ← ets] at q
      simp only [List.length_cons, List.length_nil, Nat.zero_add, Nat.reduceAdd, ej, etl] at q
      refine sP ((i + 4) :: (List.range' 1 i ++ [i + 2])) rfl (fun i hi => absurd hi (Nat.not_lt_zero _)) ?_ (by
        repeat' first | exact zj | refine zZ ?_ ?_ | exact zp | exact le_refl rfl | exact zm (congrArg some (by simp only [List.length_append, List.length_set, hnl, etl, List.length_singleton])) (by rw [ets, List.length_append, etl]; rfl) | exact xL (by assumption) (by omega))
      show HLe _ (rnN (rs.take (i + 1))) (⟨84, 1, nC 1 (rs.take i), 2⟩ :: (nR rwT 78 (rs.take i) ++ [⟨84, 1, [rwL x], 0⟩] ++ [rwR x] ++ [⟨84, 1, [.sl (i + 2) 0 x.length], 0⟩]) ++ [⟨84, 1, nC 1 (rs.take i) ++ [.sl (i + 2) 0 x.length], 0⟩])
      simp only [List.append_assoc, List.cons_append, List.nil_append] at q ⊢
      exact q
    · have hge : i = rs.length := by
        have : ¬ ((i : Int) < rs.length) := by simpa using h
        omega
      subst hge
      repeat' first | refine zL ?_ | refine zA ?_ | refine zQ [] ?_ | (refine isA ?_; refine zf rfl ?_) | (refine isL ?_; refine zV rfl (by kernel_rfl) rfl rfl ?_) | (refine zc rfl ?_; refine zU rfl (by kernel_rfl) rfl rfl ?_) | exact jb _ rfl (by rw [List.take_length]; exact f8 _) (zm rfl (by rw [List.take_length])) (Or.inr ⟨rfl, by exact l5 _⟩) | refine zD ?_ | refine zB _ rfl (by kernel_rfl) ?_ | refine zW rfl ?_ | refine zX rfl ?_ | refine zC ?_ | with_reducible refine zO ?_ | refine zI ?_ | refine zJ ?_ | (with_reducible first | refine zM ?_ | refine zN ?_ | refine zF ?_ | refine zH ?_ | refine zG ?_) | refine zP ?_
end Go.Proofs.Ytojcojanokhnaaa.Ab
namespace Go.Proofs.Ytojcojanokhnaaa.Ab
open Go.RowKit
section
variable {P : Program} {o : Oper} {ρ : Operand → V} {H : List Reg}
theorem v6 {f : FuncId} {cargs : List V} {r : V} {K : List Reg}
    (hrun : ∀ (A : Nat → Prop) (φ : List Hd) (a : Act) (w : World), HeapOk A w φ H → (∀ x ∈ o.op.operands, Rel A w φ (ρ x) (a.eval x)) → ∃ xs : Array Value, (execOp a.eval o).run P w = .ok (.enter f xs) w ∧ xs.size = cargs.length ∧ zx A w φ cargs (fun i => xs[i]?))
    (hm : zy P f cargs H r K true) : z8 P o ρ H r K := by
  intro S hS hρ C φ a w hI next Q hn
  obtain ⟨hm0, ⟨A, hA, hr⟩, hs, hd⟩ := hI
  subst hS
  obtain ⟨xs, hexec, hxl, hargr⟩ := hrun A φ a w hA.ok (fun x hx => by rw [← hρ x hx]; exact wz hr x)
  have hcall := hm A φ w xs hA.ok hargr hxl
  unfold Oper.wp
  rw [hexec, Oper.upon_enter]
  refine hcall.mono ?_
  rintro e w' ⟨x, φ', A', rfl, k1, k2, k3, k4, k5, k6⟩
  have hfrA : ∀ b, A b → w'.heap[b]? = w.heap[b]? := fun b hb => k5.block b (hA.ok.low b hb) (fun h hl => hA.ok.apart h b hl hb)
  have wI : ∀ b, A' b → A b ∨ w.heap.size ≤ b := fun b hb => (k3 b hb).imp (fun h => h.2) id
  have hJ : InvA C (fun b => A b ∨ A' b) φ' K w' := by
    refine ⟨⟨k1.len, fun h hd q q1 q2 q3 => ?_, k1.inj, fun h b hl hb => ?_, fun h hd q b q1 q2 q3 q4 => Or.inr (k1.frz h hd q b q1 q2 q3 q4), fun b hb => ?_⟩, fun b hb => ?_, fun h b hl => ?_, ?_, fun h hd hh => k6 h hd (hA.pre h hd hh)⟩
    · obtain ⟨e1, e2⟩ := k1.regs h hd q q1 q2 q3
      refine ⟨e1, ?_⟩
      cases hb : hd.blk with
      | none => rw [hb] at e2; exact e2
      | some b =>
        rw [hb] at e2
        obtain ⟨c, c1, c2, c3, c4⟩ := e2
        exact ⟨c, c1, c2, c3, zx.mono (fun b hb => ⟨Or.inr hb, rfl⟩) (fun _ _ h => h) c4⟩
    · rcases hb with hb | hb
      · rcases k4 h b hl with h1 | ⟨h0, h1⟩
        · have := hA.ok.low b hb
          omega
        · exact hA.ok.apart h0 b h1 hb
      · exact k1.apart h b hl hb
    · rcases hb with hb | hb
      · exact Nat.lt_of_lt_of_le (hA.ok.low b hb) k5.size
      · exact k1.low b hb
    · rcases hb with hb | hb
      · exact hA.old b hb
      · rcases wI b hb with hb | hb
        · exact hA.old b hb
        · exact Or.inr (Nat.le_trans hA.frame.size hb)
    · rcases k4 h b hl with h1 | ⟨h0, h1⟩
      · exact Or.inl (Nat.le_trans hA.frame.size h1)
      · exact hA.own h0 b h1
    · obtain ⟨f1, f2, f3, f4, f5⟩ := hA.frame
      refine ⟨k5.os.trans f1, k5.tape.trans f2, k5.output.trans f3, Nat.le_trans f4 k5.size, fun b hb hno => ?_⟩
      rw [k5.block b (Nat.lt_of_lt_of_le hb f4) (fun h hl => ?_)]
      · exact f5 b hb hno
      · rcases hA.own h b hl with h1 | ⟨h0, h1⟩
        · have h2 : b < C.w0.heap.size := hb
          omega
        · exact hno h0 h1
  have hr' : zx (fun b => A b ∨ A' b) w' φ' S.tmps (fun i => a.tmps[i]?) := zx.mono (fun b hb => ⟨Or.inl hb, hfrA b hb⟩) (fun h hd hh => k6 h hd hh) hr
  have hx : Rel (fun b => A b ∨ A' b) w' φ' r x := Rel.mono (fun b hb => ⟨Or.inr hb, rfl⟩) (fun _ _ h => h) k2
  obtain ⟨h7, h8⟩ := vA (H := K) hs hr' hx o.dst
  refine hn x w' φ' ⟨by cases o.dst <;> exact hm0, ⟨_, ?_, h7⟩, h8, by cases o.dst <;> exact hd⟩
  rw [wD]
  exact hJ
theorem yN {f : FuncId} {args : List Operand} {ats : Array TypeId} {cargs : List V} {r : V} {K : List Reg} [he : Ent P f] (ho : o.op = .call { callee := .value (.func f), args := args.toArray, argTypes := ats })
    (hm : zy P f cargs H r K true) (hargs : args.map ρ = cargs) : z8 P o ρ H r K :=
  v6 (fun A φ a w _ hh => ⟨_, uA ho, by rw [← hargs]; simp, by rw [← hargs]; exact wo fun x hx => hh x (by rw [ho]; simp only [Op.operands, Call.operands]; simp [hx])⟩) hm
theorem pu {fo : Operand} {f : FuncId} {args : List Operand} {ats : Array TypeId} {caps cargs : List V} {r : V} {K : List Reg} [he : Ent P f] (ho : o.op = .call { callee := .value fo, args := args.toArray, argTypes := ats })
    (hf : ρ fo = .fn f caps) (hm : zy P f cargs H r K true) (hargs : args.map ρ ++ caps = cargs) : z8 P o ρ H r K :=
  v6 (fun A φ a w _ hh => by
    have h1 := hh fo (by rw [ho]; simp [Op.operands, Call.operands])
    rw [hf, Rel] at h1
    obtain ⟨ys, e1, e2, h2⟩ := h1
    refine ⟨(args.map a.eval).toArray ++ ys, ?_, by rw [← hargs]; simp [e2], ?_⟩
    · simp only [execOp, ho, resolve, e1, Deferred.ofValue, Sem.run_bind, Sem.run_pure, Result.andThen_ok, invoke, he.e]
      simp
    · rw [← hargs]
      refine yc (yF (wo fun x hx => hh x (by rw [ho]; simp only [Op.operands, Call.operands]; simp [hx])) fun i hi => ?_) (yF h2 fun i hi => ?_)
      · simp only [List.length_map] at hi
        rw [Array.getElem?_append_left (by simpa using hi)]
      · rw [Array.getElem?_append_right (by simp)]
        simp) hm
theorem mB {r : V} {S : St} : Out true r S.H r S := fun C A φ w x hm hA hv =>
  ⟨φ, A, hA.ok, hv, fun b hb => (hA.old b hb).imp (fun h => ⟨rfl, h⟩) id, fun h b hl => hA.own h b hl, fun h hd hh => hA.pre h hd hh⟩
theorem dU {l : List V} {H K : List Reg} {m : Nat} {e : Exit} (he : e = .ret ∨ e = .normal) (hK : H = K) : (e = .ret ∨ e = .normal) ∧ Out true (.tup []) K (uB ⟨l, H, m⟩ []) ⟨l, H, m⟩ := by
  subst hK; exact ⟨he, mB (S := ⟨l, H, m⟩)⟩
end
end Go.Proofs.Ytojcojanokhnaaa.Ab
namespace Go.Proofs.Ytojcojanokhnaaa.Ab
open Go.RowKit
def w9 (P : Program) (o : Oper) (ρ : Operand → V) (H : List Reg) (post : V → List Reg → Prop) : Prop :=
  ∀ S : St, S.H = H → (∀ x ∈ o.op.operands, S.ev x = ρ x) → ∀ C φ a w, Inv C φ S a w → ∀ (next : Act → World → Prop) (Q : Exit → Act → World → Prop),
    (∀ v H' x w' φ', post v H' → Inv C φ' (S.put o.dst v H') (a.put o.dst x) w' → next (a.put o.dst x) w') → o.wp P a w next Q
theorem w9.of {P : Program} {o : Oper} {ρ : Operand → V} {H H' : List Reg} {v : V} (h : z8 P o ρ H v H') : w9 P o ρ H (fun v1 H1 => v1 = v ∧ H1 = H') :=
  fun S hS hρ C φ a w hI next Q hn => h S hS hρ C φ a w hI next Q fun x w' φ' hI' => hn v H' x w' φ' ⟨rfl, rfl⟩ hI'
theorem w9.congr {P : Program} {o : Oper} {ρ ρ' : Operand → V} {H : List Reg} {post : V → List Reg → Prop} (h : w9 P o ρ H post) (hρ : ∀ x ∈ o.op.operands, ρ' x = ρ x) : w9 P o ρ' H post :=
  fun S hS hx => h S hS fun x hm => (hx x hm).trans (hρ x hm)
section
variable {P : Program} {ops : Array Oper} {md : Region.Mode} {s : Nat} {G : List Reg → Prop} {Q : Exit → St → Prop}
def tR (P : Program) (ops : Array Oper) (b : Prop) (G : List Reg → Prop) (i : Nat) (K : St → Prop) (S : St) : Prop :=
  match ops[i]? with
  | none => K S
  | some o => (ye ops S o = some true ∧ ∃ post : V → List Reg → Prop, w9 P o S.ev S.H post ∧ (∀ v H', post v H' → b → G H') ∧ ∀ v H', post v H' → K (S.put o.dst v H')) ∨ (ye ops S o = some false ∧ K (S.put o.dst (.k undef) S.H))
def uK (P : Program) (md : Region.Mode) (ops : Array Oper) (s : Nat) (G : List Reg → Prop) (Q : Exit → St → Prop) : Nat → Array Bool → St → Prop
  | 0, listed, S => Region.ready md ops listed = [] ∧ Q .normal S
  | n + 1, listed, S => (Region.ready md ops listed = [] → Q .normal S) ∧ ∀ i ∈ Region.ready md ops listed, tR P ops ((listed.setIfInBounds i true).getD s true = false) G i (uK P md ops s G Q n (listed.setIfInBounds i true)) S
theorem tR.mono {b : Prop} {i : Nat} {K K' : St → Prop} {S : St} (hk : ∀ S, K S → K' S) (h : tR P ops b G i K S) : tR P ops b G i K' S := by
  unfold tR at *
  split at h
  · exact hk _ h
  · rcases h with ⟨h1, post, h2, h3, h4⟩ | ⟨h1, h2⟩
    · exact Or.inl ⟨h1, post, h2, h3, fun v H' hp => hk _ (h4 v H' hp)⟩
    · exact Or.inr ⟨h1, hk _ h2⟩
theorem wJ : ∀ (n : Nat) (listed : Array Bool) (S : St), uK P md ops s G Q n listed S → ∀ (C : Cx) (φ : List Hd) (a : Act) (w : World), Inv C φ S a w → wpAny P md ops (fU C Q) n listed a w
  | 0, listed, S, h, C, φ, a, w, hI => ⟨h.1, S, φ, hI, h.2⟩
  | n + 1, listed, S, h, C, φ, a, w, hI => by
    refine ⟨fun h0 => ⟨S, φ, hI, h.1 h0⟩, fun i hi => ?_⟩
    have h1 := h.2 i hi
    unfold tR at h1
    unfold wpOp
    cases ho : ops[i]? with
    | none => rw [ho] at h1; exact wJ n _ S h1 C φ a w hI
    | some o =>
      rw [ho] at h1
      simp only at h1 ⊢
      rcases h1 with ⟨hw, post, hs, _, hk⟩ | ⟨hw, hk⟩
      · rw [if_pos (wA hI hw)]
        exact Or.inl (hs S rfl (fun _ _ => rfl) C φ a w hI _ _ fun v H' x w' φ' hp hI' => wJ n _ _ (hk v H' hp) C φ' _ _ hI')
      · rw [if_neg (by rw [wA hI hw]; simp)]
        exact wJ n _ _ hk C φ _ _ (tT C φ a w hI o.dst)
theorem xT {listed : Array Bool} {i j : Nat} (h : i ≠ j) : (listed.setIfInBounds i true).getD j true = listed.getD j true := getD_set_ne true h
theorem tu {B : Prop} {i : Nat} {oi : Oper} {v : V} (hi : ops[i]? = some oi) (hne : i ≠ s) (hed : B → ∃ os, ops[s]? = some os ∧ ∃ e ∈ os.after, Region.binds md e = true ∧ e.on = i) :
    ∀ (n : Nat) (listed : Array Bool) (S : St), (listed.getD s true = false → G S.H) → (B → listed.getD s true = false) →
      (∀ j oj, ops[j]? = some oj → j ≠ i → listed.getD j true = false → (∀ e ∈ oj.after, Region.binds md e = true → e.on ≠ i) → oi.apart ops oj = true) →
      i ∈ Region.ready md ops listed → vO P ops (fun H => B → G H) oi v S →
      uK P md ops s G Q n (listed.setIfInBounds i true) (S.put oi.dst v S.H) → uK P md ops s G Q (n + 1) listed S := by
  intro n
  induction n with
  | zero =>
    intro listed S hG hB _ hr hy H
    refine ⟨fun h => (by rw [h] at hr; cases hr), fun j hj => ?_⟩
    by_cases hji : j = i
    · subst hji
      unfold tR
      rw [hi]
      rcases hy with ⟨h1, h2⟩ | ⟨h1, rfl⟩
      · exact Or.inl ⟨h1, _, .of (h2 _ (fun b => hG (hB b))), fun v1 H1 hp hb => by obtain ⟨_, rfl⟩ := hp; exact hG (by rw [xT hne] at hb; exact hb), fun v1 H1 hp => by obtain ⟨rfl, rfl⟩ := hp; exact H⟩
      · exact Or.inr ⟨h1, H⟩
    · have := ready_mono hj hji
      rw [H.1] at this
      cases this
  | succ n ih =>
    intro listed S hG hB hfree hr hy H
    refine ⟨fun h => (by rw [h] at hr; cases hr), fun j hj => ?_⟩
    by_cases hji : j = i
    · subst hji
      unfold tR
      rw [hi]
      rcases hy with ⟨h1, h2⟩ | ⟨h1, rfl⟩
      · exact Or.inl ⟨h1, _, .of (h2 _ (fun b => hG (hB b))), fun v1 H1 hp hb => by obtain ⟨_, rfl⟩ := hp; exact hG (by rw [xT hne] at hb; exact hb), fun v1 H1 hp => by obtain ⟨rfl, rfl⟩ := hp; exact H⟩
      · exact Or.inr ⟨h1, H⟩
    · have h1 := H.2 j (ready_mono hj hji)
      obtain ⟨hjun, oj, hoj, hall⟩ := mem_ready.1 hj
      have hiun := (mem_ready.1 hr).1
      have hnot : ∀ e ∈ oj.after, Region.binds md e = true → e.on ≠ i := fun e he hb heq => by
        have h1 := hall e he hb
        rw [heq] at h1
        rcases Nat.lt_or_ge i listed.size with h' | h'
        · simp [h'] at hiun h1; rw [hiun] at h1; cases h1
        · simp [Array.getElem?_eq_none h'] at h1
      have hjs : B → j ≠ s := fun b hjs => by
        subst hjs
        obtain ⟨os, h3, e, h4, h5, h6⟩ := hed b
        rw [hoj] at h3
        cases h3
        exact hnot e h4 h5 h6
      have hfree' : ∀ k ok, ops[k]? = some ok → k ≠ i → (listed.setIfInBounds j true).getD k true = false →
          (∀ e ∈ ok.after, Region.binds md e = true → e.on ≠ i) → oi.apart ops ok = true := fun k ok hk hki hun hno => by
        refine hfree k ok hk hki ?_ hno
        by_cases hjk : j = k
        · subst hjk; exact hjun
        · rw [getD_set_ne true hjk] at hun; exact hun
      have hb2 : ((listed.setIfInBounds i true).setIfInBounds j true).getD s true = (listed.setIfInBounds j true).getD s true := by
        rw [Array.setIfInBounds_comm _ _ (Ne.symm hji), xT hne]
      obtain ⟨p1, p2, p3⟩ := Oper.apart_spec (hfree j oj hoj hji hjun hnot)
      have key : ∀ (u : V) (H' : List Reg), ((listed.setIfInBounds j true).getD s true = false → G H') → uK P md ops s G Q n ((listed.setIfInBounds j true).setIfInBounds i true) ((S.put oj.dst u H').put oi.dst v H') → uK P md ops s G Q (n + 1) (listed.setIfInBounds j true) (S.put oj.dst u H') := fun u H' hGH hk => by
        refine ih (listed.setIfInBounds j true) (S.put oj.dst u H') (by rw [wD]; exact hGH) (fun b => by rw [xT (hjs b)]; exact hB b) hfree' (ready_mono hr (Ne.symm hji)) (hy.keep p3) ?_
        rw [wD]
        exact hk
      unfold tR at h1 ⊢
      rw [hoj] at h1 ⊢
      simp only at h1 ⊢
      rw [vD p1, wD] at h1
      rcases h1 with ⟨hw, post, hs, hH, hk⟩ | ⟨hw, hk⟩
      · rw [hb2] at hH
        refine Or.inl ⟨hw, post, hs.congr (fun x hx => (xp p1 x hx).symm), hH, fun u H' hp => key u H' (hH u H' hp) ?_⟩
        rw [Array.setIfInBounds_comm _ _ hji, ← wq v u S.H H' p2]
        exact hk u H' hp
      · refine Or.inr ⟨hw, key (.k undef) S.H (fun hb => ?_) ?_⟩
        · by_cases hjs' : j = s
          · subst hjs'
            rcases Nat.lt_or_ge j listed.size with h' | h'
            · simp [Array.getD, h'] at hb
            · rw [Array.getD_eq_getD_getElem?, Array.getElem?_eq_none (by simpa using h')] at hb; cases hb
          · rw [xT hjs'] at hb
            exact hG hb
        · rw [Array.setIfInBounds_comm _ _ hji, ← wq v (.k undef) S.H S.H p2]
          exact hk
end
section
variable {P : Program} {T : Tab} {ops : Array Oper} {s : Nat} {G : List Reg → Prop} {Q : Exit → St → Prop} {l l' : List V} {H H' K : List Reg} {m : Nat} {o : Oper} {d : List Nat} {n : Nat}
structure APerS (P : Program) (ops : Array Oper) (s : Nat) (G : List Reg → Prop) (d : List Nat) (n : Nat) (Q : Exit → St → Prop) (S : St) : Prop where
  out : uK P .any ops s G Q n (mkL ops.size d) S
theorem uU {id : Nat} {S : St} (s : Nat) (G : List Reg → Prop) (n : Nat) (hn : ops.size = n) [hT : TabC P T] (h : APerS P ops s G [] n Q S) : AW P (.region id ops true) Q S := by
  subst hn
  exact ⟨fun C φ a w hI => wp_region_any hT.wide (wJ _ _ _ h.out C φ a _ (ne hI))⟩
theorem vF {S : St} (hr : (Region.ready .any ops (mkL ops.size d) == []) = true) (h : Q .normal S) : APerS P ops s G d 0 Q S := ⟨⟨by simpa using hr, h⟩⟩
def gn (ops : Array Oper) (d : List Nat) (s i : Nat) : Bool := !((mkL ops.size d).getD s true) && (match ops[s]? with | some os => os.after.any fun e => Region.binds .any e && e.on == i | none => false) && !(i == s)
def jZ (s i : Nat) : Bool := !(i == s)
theorem mK {i : Nat} (h : gn ops d s i = true) : (mkL ops.size d).getD s true = false ∧ (∃ os, ops[s]? = some os ∧ ∃ e ∈ os.after, Region.binds .any e = true ∧ e.on = i) ∧ i ≠ s := by
  simp only [gn, Bool.and_eq_true, Bool.not_eq_true'] at h
  obtain ⟨⟨h1, h2⟩, h3⟩ := h
  refine ⟨h1, ?_, by simpa using h3⟩
  cases ho : ops[s]? with
  | none => rw [ho] at h2; cases h2
  | some os =>
    rw [ho] at h2
    simp only [Array.any_eq_true'] at h2
    obtain ⟨e, h4, h5⟩ := h2
    simp only [Bool.and_eq_true, beq_iff_eq] at h5
    exact ⟨os, rfl, e, h4, h5.1, h5.2⟩
theorem vn (i : Nat) {v : V} (hG : G H) (he : gn ops d s i = true) (ho : ops[i]? = some o) (hc : u9 ops d i = true) (hw : ye ops ⟨l, H, m⟩ o = some true) (hs : ∀ H, G H → z8 P o (St.ev ⟨l, H, m⟩) H v H) (hp : vK l H o.dst v = some (l', K)) (hk : APerS P ops s G (i :: d) n Q ⟨l', K, m⟩) : APerS P ops s G d (n + 1) Q ⟨l, H, m⟩ := by
  simp only [u9, Bool.and_eq_true] at hc
  obtain ⟨e1, e2, e3⟩ := mK he
  refine ⟨tu (B := True) ho e3 (fun _ => e2) n _ _ (fun _ => hG) (fun _ => e1) (Region.free_spec ho hc.1) (by simpa using hc.2) (Or.inl ⟨hw, fun H1 h1 => hs H1 (h1 trivial)⟩) ?_⟩
  rw [show (⟨l, H, m⟩ : St).put o.dst v (⟨l, H, m⟩ : St).H = ⟨l', K, m⟩ from yz hp m]
  exact hk.out
theorem ul (i : Nat) {v : V} (hG : (mkL ops.size d).getD s true = true ∨ G H) (he : jZ s i = true) (ho : ops[i]? = some o) (hc : u9 ops d i = true) (hw : ye ops ⟨l, H, m⟩ o = some true) (hs : ∀ H, z8 P o (St.ev ⟨l, H, m⟩) H v H) (hp : vK l H o.dst v = some (l', K)) (hk : APerS P ops s G (i :: d) n Q ⟨l', K, m⟩) : APerS P ops s G d (n + 1) Q ⟨l, H, m⟩ := by
  simp only [u9, Bool.and_eq_true] at hc
  refine ⟨tu (B := False) ho (by simpa [jZ] using he) (fun h => h.elim) n _ _ (fun hb => hG.resolve_left (by rw [hb]; decide)) (fun h => h.elim) (Region.free_spec ho hc.1) (by simpa using hc.2) (Or.inl ⟨hw, fun H1 h1 => hs H1⟩) ?_⟩
  rw [show (⟨l, H, m⟩ : St).put o.dst v (⟨l, H, m⟩ : St).H = ⟨l', K, m⟩ from yz hp m]
  exact hk.out
theorem yD (i : Nat) {v : V} [hT : TabC P T] (hG : (mkL ops.size d).getD s true = true ∨ G H) (he : jZ s i = true) (ho : ops[i]? = some o) (hc : u9 ops d i = true) (hw : ye ops ⟨l, H, m⟩ o = some true) (h : ∀ H, ud T l H o.op = some (v, H)) (hp : vK l H o.dst v = some (l', K)) (hk : APerS P ops s G (i :: d) n Q ⟨l', K, m⟩) : APerS P ops s G d (n + 1) Q ⟨l, H, m⟩ :=
  ul i hG he ho hc hw (fun H1 => wk (m := m) hT.ok (h H1)) hp hk
theorem uk (i : Nat) {v : V} (hr : (Region.ready .any ops (mkL ops.size d) == [i]) = true) (ho : ops[i]? = some o) (hw : ye ops ⟨l, H, m⟩ o = some true) (hs : z8 P o (St.ev ⟨l, H, m⟩) H v H') (hG : (mkL ops.size (i :: d)).getD s true = true ∨ G H') (hp : vK l H' o.dst v = some (l', K)) (hk : APerS P ops s G (i :: d) n Q ⟨l', K, m⟩) : APerS P ops s G d (n + 1) Q ⟨l, H, m⟩ := by
  have hr' : Region.ready .any ops (mkL ops.size d) = [i] := by simpa using hr
  refine ⟨⟨fun h0 => (by rw [h0] at hr'; cases hr'), fun x hx => ?_⟩⟩
  rw [hr'] at hx
  simp at hx
  subst hx
  unfold tR
  rw [ho]
  refine Or.inl ⟨hw, _, .of hs, fun v1 H1 hq hb => ?_, fun v1 H1 hq => ?_⟩
  · obtain ⟨_, rfl⟩ := hq
    refine hG.resolve_left (fun ht => ?_)
    have hb' : (mkL ops.size (x :: d)).getD s true = false := hb
    rw [ht] at hb'
    cases hb'
  · obtain ⟨rfl, rfl⟩ := hq
    rw [yz hp m]
    exact hk.out
theorem jM (i : Nat) {post : V → List Reg → Prop} (hr : (Region.ready .any ops (mkL ops.size d) == [i]) = true) (ho : ops[i]? = some o) (hw : ye ops ⟨l, H, m⟩ o = some true) (hs : w9 P o (St.ev ⟨l, H, m⟩) H post) (hG : ∀ v H', post v H' → (mkL ops.size (i :: d)).getD s true = true ∨ G H') (hk : ∀ v H', post v H' → ∃ l' K, vK l H' o.dst v = some (l', K) ∧ APerS P ops s G (i :: d) n Q ⟨l', K, m⟩) : APerS P ops s G d (n + 1) Q ⟨l, H, m⟩ := by
  have hr' : Region.ready .any ops (mkL ops.size d) = [i] := by simpa using hr
  refine ⟨⟨fun h0 => (by rw [h0] at hr'; cases hr'), fun x hx => ?_⟩⟩
  rw [hr'] at hx
  simp at hx
  subst hx
  unfold tR
  rw [ho]
  refine Or.inl ⟨hw, post, hs, fun v1 H1 hq hb => ?_, fun v1 H1 hq => ?_⟩
  · refine (hG v1 H1 hq).resolve_left (fun ht => ?_)
    have hb' : (mkL ops.size (x :: d)).getD s true = false := hb
    rw [ht] at hb'
    cases hb'
  · obtain ⟨l', K, hp, hk⟩ := hk v1 H1 hq
    rw [yz hp m]
    exact hk.out
theorem do_X {rest : List Oper} {post : V → List Reg → Prop} (hw : ye ops ⟨l, H, m⟩ o = some true) (hs : w9 P o (St.ev ⟨l, H, m⟩) H post) (hk : ∀ v H', post v H' → ∃ l' K, vK l H' o.dst v = some (l', K) ∧ AOps P ops rest Q ⟨l', K, m⟩) : AOps P ops (o :: rest) Q ⟨l, H, m⟩ := ⟨fun C φ a w hI => by
  refine wpList_step fun K hK => ?_
  rw [if_pos (wA hI hw)]
  refine hs _ rfl (fun _ _ => rfl) C φ a w hI K _ fun v H' x w' φ' hp hI' => ?_
  obtain ⟨l', K', hp', hk⟩ := hk v H' hp
  rw [yz hp' m] at hI'
  exact hK _ _ (hk.out C φ' _ _ hI')⟩
theorem xR (i : Nat) {v : V} [hT : TabC P T] (hr : (Region.ready .any ops (mkL ops.size d) == [i]) = true) (ho : ops[i]? = some o) (hw : ye ops ⟨l, H, m⟩ o = some true) (h : ud T l H o.op = some (v, H')) (hG : (mkL ops.size (i :: d)).getD s true = true ∨ G H') (hp : vK l H' o.dst v = some (l', K)) (hk : APerS P ops s G (i :: d) n Q ⟨l', K, m⟩) : APerS P ops s G d (n + 1) Q ⟨l, H, m⟩ :=
  uk i hr ho hw (wk hT.ok h) hG hp hk
end
end Go.Proofs.Ytojcojanokhnaaa.Ab
namespace Go.Proofs.Ytojcojanokhnaaa.Ab
open Go.RowKit
theorem d9 {l : List V} {H : List Reg} {al : Bool} {t : Tmp} {n : Nat} {v r : V} {K : List Reg} (ψ : List Nat) (hv : CellIs l H t n v) (hr : Le ψ r v) (hH : HLe ψ K H) (hal : al = true ∨ (tJ r = true ∧ ∀ q ∈ K, q.mode ≠ 1 ∧ (q.mode = 0 → vw q.cells))) :
    (Exit.ret = .ret ∨ Exit.ret = .normal) ∧ ∃ v, CellIs l H t n v ∧ Out al r K v ⟨l, H, 0⟩ := ⟨Or.inl rfl, v, hv, t9 (S := ⟨l, H, 0⟩) ψ (fun i hi => absurd hi (Nat.not_lt_zero _)) hH hr hal⟩
abbrev soO (b : Nat) (s : So) : List V := [.sl b 0 s.input.length, I s.pos, .sl (b + 1) 0 s.heap.length, .sl (b + 2) 0 s.dfr.length, .sl (b + 3) 0 s.out.length, .sl (b + 4) 0 s.runs.length, I s.lp, I s.rp, I s.ph, I s.wr]
abbrev soR (b : Nat) (s : So) : List Reg := rwR s.input :: rwR s.heap :: rwR s.dfr :: rwR s.out :: ⟨84, 1, nC (b + 5) s.runs, 0⟩ :: nR rwT 78 s.runs
theorem xW (xs : List Rw) : (rwR xs).mode ≠ 1 ∧ ((rwR xs).mode = 0 → vw (rwR xs).cells) := ⟨Nat.zero_ne_one, fun _ => (xu _).flatS⟩
theorem jA (b : Nat) (s : So) : ∀ q ∈ soR b s, q.mode ≠ 1 ∧ (q.mode = 0 → vw q.cells) := fun q hq => by
  rcases List.mem_cons.1 hq with rfl | hq
  · exact xW _
  rcases List.mem_cons.1 hq with rfl | hq
  · exact xW _
  rcases List.mem_cons.1 hq with rfl | hq
  · exact xW _
  rcases List.mem_cons.1 hq with rfl | hq
  · exact xW _
  rcases List.mem_cons.1 hq with rfl | hq
  · exact ⟨Nat.zero_ne_one, fun _ => tA _ _⟩
  · obtain ⟨x, _, rfl⟩ := List.mem_map.1 hq
    exact xW _
theorem ni (s : So) (hok : okSo s) : zy Go.Proofs.Try.prog 56 [.agg (soE s)] [] (.agg (soO 0 s)) (soR 0 s) false := by
  have g1 := hok.input
  have g2 := hok.heap
  have g3 := hok.dfr
  have g4 := hok.out
  refine wa 2 27 Go.Proofs.Try.func56 rfl rfl ?_
  simp only [Go.Proofs.Try.ntmps56, List.length_cons, List.length_nil, Nat.reduceAdd, Nat.reduceSub, List.replicate_succ, List.replicate_zero, List.cons_append, List.nil_append]
  repeat' first | refine zL ?_ | refine zA ?_ | (refine isA ?_; refine zf rfl ?_) | (refine isL ?_; refine zV rfl (by kernel_rfl) rfl rfl ?_) | (refine zc rfl ?_; refine zU rfl (by kernel_rfl) rfl rfl ?_) | refine zD ?_ | refine zB _ rfl (by kernel_rfl) ?_ | refine zW rfl ?_ | refine zX rfl ?_ | refine zC ?_ | with_reducible refine zO ?_ | refine zI ?_ | refine zJ ?_ | (with_reducible first | refine zM ?_ | refine zN ?_ | refine zF ?_ | refine zH ?_ | refine zG ?_) | refine zP ?_
  refine uU 16 (fun H => H[0]? = some (⟨27, 10, soE s, 0⟩ : Reg)) 25 rfl ?_
  refine yD 0 (Or.inr rfl) rfl rfl (by kernel_rfl) rfl (fun _ => rfl) rfl ?_
  refine vn 1 rfl (by kernel_rfl) rfl (by kernel_rfl) rfl (fun _ hG => xv rfl rfl hG rfl rfl) rfl ?_
  refine yD 3 (Or.inr rfl) rfl rfl (by kernel_rfl) rfl (fun _ => rfl) rfl ?_
  refine vn 4 rfl (by kernel_rfl) rfl (by kernel_rfl) rfl (fun _ hG => xv rfl rfl hG rfl rfl) rfl ?_
  refine yD 6 (Or.inr rfl) rfl rfl (by kernel_rfl) rfl (fun _ => rfl) rfl ?_
  refine vn 7 rfl (by kernel_rfl) rfl (by kernel_rfl) rfl (fun _ hG => xv rfl rfl hG rfl rfl) rfl ?_
  refine yD 9 (Or.inr rfl) rfl rfl (by kernel_rfl) rfl (fun _ => rfl) rfl ?_
  refine vn 10 rfl (by kernel_rfl) rfl (by kernel_rfl) rfl (fun _ hG => xv rfl rfl hG rfl rfl) rfl ?_
  refine yD 12 (Or.inr rfl) rfl rfl (by kernel_rfl) rfl (fun _ => rfl) rfl ?_
  refine vn 13 rfl (by kernel_rfl) rfl (by kernel_rfl) rfl (fun _ hG => xv rfl rfl hG rfl rfl) rfl ?_
  refine uk 2 (by kernel_rfl) rfl rfl (z6 rfl (x5 s.input (by omega)) (.cons (.same rfl) .nil) (fun q hq => by simp at hq; subst hq; exact zE _ _) rfl rfl) (Or.inr rfl) rfl ?_
  refine yD 15 (Or.inr rfl) rfl rfl (by kernel_rfl) rfl (fun _ => rfl) rfl ?_
  refine uk 5 (by kernel_rfl) rfl rfl (z6 rfl (x5 s.heap (by omega)) (.cons (.same rfl) .nil) (fun q hq => by simp at hq; subst hq; exact zE _ _) rfl rfl) (Or.inr rfl) rfl ?_
  refine uk 8 (by kernel_rfl) rfl rfl (z6 rfl (x5 s.dfr (by omega)) (.cons (.same rfl) .nil) (fun q hq => by simp at hq; subst hq; exact zE _ _) rfl rfl) (Or.inr rfl) rfl ?_
  refine uk 11 (by kernel_rfl) rfl rfl (z6 rfl (x5 s.out (by omega)) (.cons (.same rfl) .nil) (fun q hq => by simp at hq; subst hq; exact zE _ _) rfl rfl) (Or.inr rfl) rfl ?_
  refine uk 14 (by kernel_rfl) rfl rfl (yO (r' := .sl 6 0 s.runs.length) (H' := [⟨27, 10, soE s, 0⟩, ⟨27, 10, [ww, I 0, ww, ww, ww, ww, I 0, I 0, I 0, I 0], 0⟩, rwR s.input, rwR s.heap, rwR s.dfr, rwR s.out] ++ (⟨84, 1, nC 7 s.runs, 0⟩ :: nR rwT 78 s.runs)) rfl (fK s.runs hok.rn) (.cons (.same rfl) .nil) rfl (by rw [fw]; rfl)) (Or.inr rfl) rfl ?_
  refine xR 16 (by kernel_rfl) rfl rfl rfl (Or.inl (by kernel_rfl)) rfl ?_
  refine yD 17 (Or.inl (by kernel_rfl)) rfl rfl (by kernel_rfl) rfl (fun _ => rfl) rfl ?_
  refine xR 18 (by kernel_rfl) rfl rfl rfl (Or.inl (by kernel_rfl)) rfl ?_
  refine yD 19 (Or.inl (by kernel_rfl)) rfl rfl (by kernel_rfl) rfl (fun _ => rfl) rfl ?_
  refine xR 20 (by kernel_rfl) rfl rfl rfl (Or.inl (by kernel_rfl)) rfl ?_
  refine yD 21 (Or.inl (by kernel_rfl)) rfl rfl (by kernel_rfl) rfl (fun _ => rfl) rfl ?_
  refine xR 22 (by kernel_rfl) rfl rfl rfl (Or.inl (by kernel_rfl)) rfl ?_
  refine yD 23 (Or.inl (by kernel_rfl)) rfl rfl (by kernel_rfl) rfl (fun _ => rfl) rfl ?_
  refine xR 24 (by kernel_rfl) rfl rfl rfl (Or.inl (by kernel_rfl)) rfl ?_
  refine vF (by kernel_rfl) ?_
  have hR : ∀ j x, s.runs[j]? = some x → ([⟨27, 10, [.sl 2 0 s.input.length, I s.pos, .sl 3 0 s.heap.length, .sl 4 0 s.dfr.length, .sl 5 0 s.out.length, .sl 6 0 s.runs.length, I s.lp, I s.rp, I s.ph, I s.wr], 0⟩, ⟨27, 10, [.sl 2 0 s.input.length, I s.pos, .sl 3 0 s.heap.length, .sl 4 0 s.dfr.length, .sl 5 0 s.out.length, .sl 6 0 s.runs.length, I s.lp, I s.rp, I s.ph, I s.wr], 0⟩, rwR s.input, rwR s.heap, rwR s.dfr, rwR s.out, ⟨84, 1, nC 7 s.runs, 0⟩] ++ nR rwT 78 s.runs)[7 + j]? = some (rwR x) := jG (D := []) rfl (by rw [List.append_nil])
  repeat' first | refine zL ?_ | refine zA ?_ | refine zQ [] ?_ | (refine isA ?_; refine zf rfl ?_) | (refine isL ?_; refine zV rfl (by kernel_rfl) rfl rfl ?_) | (refine zc rfl ?_; refine zU rfl (by kernel_rfl) rfl rfl ?_) | refine zD ?_ | refine zB _ rfl (by kernel_rfl) ?_ | refine zW rfl ?_ | refine zX rfl ?_ | refine zC ?_ | with_reducible refine zO ?_ | refine zI ?_ | refine zJ ?_ | (with_reducible first | refine zM ?_ | refine zN ?_ | refine zF ?_ | refine zH ?_ | refine zG ?_) | refine zP ?_
  exact d9 ([2, 3, 4, 5, 6] ++ List.range' 7 s.runs.length) (yU rfl rfl rfl rfl rfl) (su (by
        repeat' first | exact zj | refine zZ ?_ ?_ | exact le_refl rfl | exact zm rfl rfl)) (sx (hs := [2, 3, 4, 5, 6]) (K1 := [rwR s.input, rwR s.heap, rwR s.dfr, rwR s.out, ⟨84, 1, nC 5 s.runs, 0⟩]) (xI (by decide) (fun h hh => by simp at hh; omega)) (.cons rfl rfl rfl rfl (zY (zE _ _)) (.cons rfl rfl rfl rfl (zY (zE _ _)) (.cons rfl rfl rfl rfl (zY (zE _ _)) (.cons rfl rfl rfl rfl (zY (zE _ _)) (.cons rfl rfl rfl rfl (wB fun j hj => wQ [2, 3, 4, 5, 6] 7 s.runs.length j hj) .nil))))) hR) (Or.inr ⟨rfl, jA 0 s⟩)
end Go.Proofs.Ytojcojanokhnaaa.Ab
namespace Go.Proofs.Ytojcojanokhnaaa.Ab
open Go.RowKit
theorem w7 (x : Rw) : zy Go.Proofs.Try.prog 58 [.agg (rwE x)] [] (I (y3 x)) [] false := by
  refine zw [2] Go.Proofs.Try.func58 rfl rfl ?_
  simp only [Go.Proofs.Try.ntmps58, List.length_cons, List.length_nil, Nat.reduceAdd, Nat.reduceSub, List.replicate_succ, List.replicate_zero, List.cons_append, List.nil_append]
  repeat' first | refine zL ?_ | refine zA ?_ | refine zQ [] ?_ | (refine isA ?_; refine zf rfl ?_) | (refine isL ?_; refine zV rfl (by kernel_rfl) rfl rfl ?_) | (refine zc rfl ?_; refine zU rfl (by kernel_rfl) rfl rfl ?_) | (refine zr 116 ?_; refine za rfl (zK rfl (sI x) (.cons (.same rfl) .nil) rfl) rfl ?_) | (refine zq 116 rfl ?_; refine zT rfl (by kernel_rfl) rfl (zK rfl (sI x) (.cons (.same rfl) .nil) rfl) rfl ?_) | refine zD ?_ | refine zB _ rfl (by kernel_rfl) ?_ | refine zW rfl ?_ | refine zX rfl ?_ | refine zC ?_ | with_reducible refine zO ?_ | refine zI ?_ | refine zJ ?_ | (with_reducible first | refine zM ?_ | refine zN ?_ | refine zF ?_ | refine zH ?_ | refine zG ?_) | refine zP ?_
  refine zh rfl (fun h => ?_) (fun h => ?_)
  · have h : vRw x = false := by simpa using h
    repeat' first | refine zL ?_ | refine zA ?_ | refine zQ [] ?_ | (refine isA ?_; refine zf rfl ?_) | (refine isL ?_; refine zV rfl (by kernel_rfl) rfl rfl ?_) | (refine zc rfl ?_; refine zU rfl (by kernel_rfl) rfl rfl ?_) | exact yJ rfl rfl (by simp only [y3, h, cond_false]) | refine zD ?_ | refine zB _ rfl (by kernel_rfl) ?_ | refine zW rfl ?_ | refine zX rfl ?_ | refine zC ?_ | with_reducible refine zO ?_ | refine zI ?_ | refine zJ ?_ | (with_reducible first | refine zM ?_ | refine zN ?_ | refine zF ?_ | refine zH ?_ | refine zG ?_) | refine zP ?_
  · have h : vRw x = true := by simpa using h
    have := (qk.1 h).2.2
    repeat' first | refine zL ?_ | refine zA ?_ | refine zQ [] ?_ | (refine isA ?_; refine zf rfl ?_) | (refine isL ?_; refine zV rfl (by kernel_rfl) rfl rfl ?_) | (refine zc rfl ?_; refine zU rfl (by kernel_rfl) rfl rfl ?_) | exact yJ rfl rfl (by simp only [y3, h, cond_true]; refine congrArg I ?_; rw [IntKind.wrap_i64]; omega) | refine zD ?_ | refine zB _ rfl (by kernel_rfl) ?_ | refine zW rfl ?_ | refine zX rfl ?_ | refine zC ?_ | with_reducible refine zO ?_ | refine zI ?_ | refine zJ ?_ | (with_reducible first | refine zM ?_ | refine zN ?_ | refine zF ?_ | refine zH ?_ | refine zG ?_) | refine zP ?_
theorem wE (x : Rw) : zy Go.Proofs.Try.prog 67 [.agg (rwE x)] [] (I (y3 x)) [] false := by
  refine zw [2] Go.Proofs.Try.func67 rfl rfl ?_
  simp only [Go.Proofs.Try.ntmps67, List.length_cons, List.length_nil, Nat.reduceAdd, Nat.reduceSub, List.replicate_succ, List.replicate_zero, List.cons_append, List.nil_append]
  repeat' first | refine zL ?_ | refine zA ?_ | refine zQ [] ?_ | (refine isA ?_; refine zf rfl ?_) | (refine isL ?_; refine zV rfl (by kernel_rfl) rfl rfl ?_) | (refine zc rfl ?_; refine zU rfl (by kernel_rfl) rfl rfl ?_) | (refine zr 99 ?_; refine za rfl (zK rfl (sG x) (.cons (.same rfl) .nil) rfl) rfl ?_) | (refine zq 99 rfl ?_; refine zT rfl (by kernel_rfl) rfl (zK rfl (sG x) (.cons (.same rfl) .nil) rfl) rfl ?_) | refine zD ?_ | refine zB _ rfl (by kernel_rfl) ?_ | refine zW rfl ?_ | refine zX rfl ?_ | refine zC ?_ | with_reducible refine zO ?_ | refine zI ?_ | refine zJ ?_ | (with_reducible first | refine zM ?_ | refine zN ?_ | refine zF ?_ | refine zH ?_ | refine zG ?_) | refine zP ?_
  refine zh rfl (fun h => ?_) (fun h => ?_)
  · have h : vRw x = false := by simpa using h
    repeat' first | refine zL ?_ | refine zA ?_ | refine zQ [] ?_ | (refine isA ?_; refine zf rfl ?_) | (refine isL ?_; refine zV rfl (by kernel_rfl) rfl rfl ?_) | (refine zc rfl ?_; refine zU rfl (by kernel_rfl) rfl rfl ?_) | exact yJ rfl rfl (by simp only [y3, h, cond_false]) | refine zD ?_ | refine zB _ rfl (by kernel_rfl) ?_ | refine zW rfl ?_ | refine zX rfl ?_ | refine zC ?_ | with_reducible refine zO ?_ | refine zI ?_ | refine zJ ?_ | (with_reducible first | refine zM ?_ | refine zN ?_ | refine zF ?_ | refine zH ?_ | refine zG ?_) | refine zP ?_
  · have h : vRw x = true := by simpa using h
    have := (qk.1 h).2.2
    repeat' first | refine zL ?_ | refine zA ?_ | refine zQ [] ?_ | (refine isA ?_; refine zf rfl ?_) | (refine isL ?_; refine zV rfl (by kernel_rfl) rfl rfl ?_) | (refine zc rfl ?_; refine zU rfl (by kernel_rfl) rfl rfl ?_) | exact yJ rfl rfl (by simp only [y3, h, cond_true]; refine congrArg I ?_; rw [IntKind.wrap_i64]; omega) | refine zD ?_ | refine zB _ rfl (by kernel_rfl) ?_ | refine zW rfl ?_ | refine zX rfl ?_ | refine zC ?_ | with_reducible refine zO ?_ | refine zI ?_ | refine zJ ?_ | (with_reducible first | refine zM ?_ | refine zN ?_ | refine zF ?_ | refine zH ?_ | refine zG ?_) | refine zP ?_
theorem pf {xs : List Rw} {i : Nat} {z : Rw} (hz : xs[i]? = some z) (hl : xs.length ≤ 1000000000) : I (yR (xs.take (i + 1))) = I (IntKind.i64.wrap (yR (xs.take i) + y3 z)) := by
  have h1 := ua (xs.take i)
  have h2 := xy z
  have h3 := (List.getElem?_eq_some_iff.1 hz).1
  have h4 : (xs.take i).length ≤ xs.length := by simp; omega
  rw [lh hz]
  refine congrArg I ?_
  rw [IntKind.wrap_i64]
  omega
theorem pU (xs : List Rw) (hl : xs.length ≤ 1000000000) : zy Go.Proofs.Try.prog 88 [rwL xs] [] (I (yR xs)) [] false := by
  refine zw [2] Go.Proofs.Try.func88 rfl rfl ?_
  simp only [Go.Proofs.Try.ntmps88, List.length_cons, List.length_nil, Nat.reduceAdd, Nat.reduceSub, List.replicate_succ, List.replicate_zero, List.cons_append, List.nil_append]
  repeat' first | refine zL ?_ | refine zA ?_ | refine zQ [] ?_ | (refine isA ?_; refine zf rfl ?_) | (refine isL ?_; refine zV rfl (by kernel_rfl) rfl rfl ?_) | (refine zc rfl ?_; refine zU rfl (by kernel_rfl) rfl rfl ?_) | refine zD ?_ | refine zB _ rfl (by kernel_rfl) ?_ | refine zW rfl ?_ | refine zX rfl ?_ | refine zC ?_ | with_reducible refine zO ?_ | refine zI ?_ | refine zJ ?_ | (with_reducible first | refine zM ?_ | refine zN ?_ | refine zF ?_ | refine zH ?_ | refine zG ?_) | refine zP ?_
  refine z9 (α := { i : Nat // i ≤ xs.length }) (fun i => ⟨[.any, .any, .any, I (yR (xs.take i.1)), .any, .any, rwL xs, I xs.length, I i.1, .any, .any, .any, .any, .any, .any, .any, .any, .any], [], 0⟩) (fun i => xs.length - i.1) ⟨0, Nat.zero_le _⟩ ?_ ?_
  · exact yW [] rfl rfl (by decide) .nil (by repeat' first | exact zj | refine zZ ?_ ?_ | exact zp | exact le_refl rfl | exact zm rfl rfl | exact zu rfl)
  · rintro ⟨i, hi⟩
    repeat' first | refine zL ?_ | refine zA ?_ | refine zQ [] ?_ | (refine isA ?_; refine zf rfl ?_) | (refine isL ?_; refine zV rfl (by kernel_rfl) rfl rfl ?_) | (refine zc rfl ?_; refine zU rfl (by kernel_rfl) rfl rfl ?_) | refine zD ?_ | refine zB _ rfl (by kernel_rfl) ?_ | refine zW rfl ?_ | refine zX rfl ?_ | refine zC ?_ | with_reducible refine zO ?_ | refine zI ?_ | refine zJ ?_ | (with_reducible first | refine zM ?_ | refine zN ?_ | refine zF ?_ | refine zH ?_ | refine zG ?_) | refine zP ?_
    refine zh rfl (fun h => ?_) (fun h => ?_)
    · have hlt : i < xs.length := by simpa using h
      obtain ⟨z, hz⟩ : ∃ z, xs[i]? = some z := ⟨_, List.getElem?_eq_getElem hlt⟩
      repeat' first | refine zL ?_ | refine zA ?_ | refine zQ [] ?_ | (refine isA ?_; refine zf rfl ?_) | (refine isL ?_; refine zV rfl (by kernel_rfl) rfl rfl ?_) | (refine zc rfl ?_; refine zU rfl (by kernel_rfl) rfl rfl ?_) | refine za rfl (zz (z := z) rfl rfl rfl rfl (Int.natCast_nonneg _) hz) rfl ?_ | refine zT rfl (by kernel_rfl) rfl (zz (z := z) rfl rfl rfl rfl (Int.natCast_nonneg _) hz) rfl ?_ | (refine zr 58 ?_; refine za rfl (zK rfl (w7 z) (.cons (.same rfl) .nil) rfl) rfl ?_) | (refine zq 58 rfl ?_; refine zT rfl (by kernel_rfl) rfl (zK rfl (w7 z) (.cons (.same rfl) .nil) rfl) rfl ?_) | refine zD ?_ | refine zB _ rfl (by kernel_rfl) ?_ | refine zW rfl ?_ | refine zX rfl ?_ | refine zC ?_ | with_reducible refine zO ?_ | refine zI ?_ | refine zJ ?_ | (with_reducible first | refine zM ?_ | refine zN ?_ | refine zF ?_ | refine zH ?_ | refine zG ?_) | refine zP ?_
      refine ⟨⟨i + 1, hlt⟩, by simp only; omega, ?_⟩
      exact yW [] rfl rfl (by decide) .nil (by
        repeat' first | exact zj | refine zZ ?_ ?_ | exact zp | exact le_refl rfl | exact dQ (pf hz hl).symm rfl | exact xL (by assumption) (by omega))
    · have hge : i = xs.length := by
        have : ¬ ((i : Int) < xs.length) := by simpa using h
        omega
      subst hge
      repeat' first | refine zL ?_ | refine zA ?_ | refine zQ [] ?_ | (refine isA ?_; refine zf rfl ?_) | (refine isL ?_; refine zV rfl (by kernel_rfl) rfl rfl ?_) | (refine zc rfl ?_; refine zU rfl (by kernel_rfl) rfl rfl ?_) | exact yJ rfl rfl (by simp only [List.take_length]) | refine zD ?_ | refine zB _ rfl (by kernel_rfl) ?_ | refine zW rfl ?_ | refine zX rfl ?_ | refine zC ?_ | with_reducible refine zO ?_ | refine zI ?_ | refine zJ ?_ | (with_reducible first | refine zM ?_ | refine zN ?_ | refine zF ?_ | refine zH ?_ | refine zG ?_) | refine zP ?_
theorem va (xs : List Rw) (hl : xs.length ≤ 1000000000) : zy Go.Proofs.Try.prog 90 [rwL xs] [] (I (yR xs)) [] false := by
  refine zw [2] Go.Proofs.Try.func90 rfl rfl ?_
  simp only [Go.Proofs.Try.ntmps90, List.length_cons, List.length_nil, Nat.reduceAdd, Nat.reduceSub, List.replicate_succ, List.replicate_zero, List.cons_append, List.nil_append]
  repeat' first | refine zL ?_ | refine zA ?_ | refine zQ [] ?_ | (refine isA ?_; refine zf rfl ?_) | (refine isL ?_; refine zV rfl (by kernel_rfl) rfl rfl ?_) | (refine zc rfl ?_; refine zU rfl (by kernel_rfl) rfl rfl ?_) | refine zD ?_ | refine zB _ rfl (by kernel_rfl) ?_ | refine zW rfl ?_ | refine zX rfl ?_ | refine zC ?_ | with_reducible refine zO ?_ | refine zI ?_ | refine zJ ?_ | (with_reducible first | refine zM ?_ | refine zN ?_ | refine zF ?_ | refine zH ?_ | refine zG ?_) | refine zP ?_
  refine z9 (α := { i : Nat // i ≤ xs.length }) (fun i => ⟨[rwL xs, .any, .any, I (yR (xs.take i.1)), I i.1, .any, .any, .any, .any, .any, .any, .any, .any, .any, .any, .any, .any, .any, .any], [], 0⟩) (fun i => xs.length - i.1) ⟨0, Nat.zero_le _⟩ ?_ ?_
  · exact yW [] rfl rfl (by decide) .nil (by repeat' first | exact zj | refine zZ ?_ ?_ | exact zp | exact le_refl rfl | exact zm rfl rfl | exact zu rfl)
  · rintro ⟨i, hi⟩
    repeat' first | refine zL ?_ | refine zA ?_ | refine zQ [] ?_ | (refine isA ?_; refine zf rfl ?_) | (refine isL ?_; refine zV rfl (by kernel_rfl) rfl rfl ?_) | (refine zc rfl ?_; refine zU rfl (by kernel_rfl) rfl rfl ?_) | refine zD ?_ | refine zB _ rfl (by kernel_rfl) ?_ | refine zW rfl ?_ | refine zX rfl ?_ | refine zC ?_ | with_reducible refine zO ?_ | refine zI ?_ | refine zJ ?_ | (with_reducible first | refine zM ?_ | refine zN ?_ | refine zF ?_ | refine zH ?_ | refine zG ?_) | refine zP ?_
    refine zh rfl (fun h => ?_) (fun h => ?_)
    · have hlt : i < xs.length := by simpa using h
      obtain ⟨z, hz⟩ : ∃ z, xs[i]? = some z := ⟨_, List.getElem?_eq_getElem hlt⟩
      repeat' first | refine zL ?_ | refine zA ?_ | refine zQ [] ?_ | (refine isA ?_; refine zf rfl ?_) | (refine isL ?_; refine zV rfl (by kernel_rfl) rfl rfl ?_) | (refine zc rfl ?_; refine zU rfl (by kernel_rfl) rfl rfl ?_) | refine za rfl (zz (z := z) rfl rfl rfl rfl (Int.natCast_nonneg _) hz) rfl ?_ | refine zT rfl (by kernel_rfl) rfl (zz (z := z) rfl rfl rfl rfl (Int.natCast_nonneg _) hz) rfl ?_ | (refine zr 67 ?_; refine za rfl (zK rfl (wE z) (.cons (.same rfl) .nil) rfl) rfl ?_) | (refine zq 67 rfl ?_; refine zT rfl (by kernel_rfl) rfl (zK rfl (wE z) (.cons (.same rfl) .nil) rfl) rfl ?_) | refine zD ?_ | refine zB _ rfl (by kernel_rfl) ?_ | refine zW rfl ?_ | refine zX rfl ?_ | refine zC ?_ | with_reducible refine zO ?_ | refine zI ?_ | refine zJ ?_ | (with_reducible first | refine zM ?_ | refine zN ?_ | refine zF ?_ | refine zH ?_ | refine zG ?_) | refine zP ?_
      refine ⟨⟨i + 1, hlt⟩, by simp only; omega, ?_⟩
      exact yW [] rfl rfl (by decide) .nil (by
        repeat' first | exact zj | refine zZ ?_ ?_ | exact zp | exact le_refl rfl | exact dQ (pf hz hl).symm rfl | exact xL (by assumption) (by omega))
    · have hge : i = xs.length := by
        have : ¬ ((i : Int) < xs.length) := by simpa using h
        omega
      subst hge
      repeat' first | refine zL ?_ | refine zA ?_ | refine zQ [] ?_ | (refine isA ?_; refine zf rfl ?_) | (refine isL ?_; refine zV rfl (by kernel_rfl) rfl rfl ?_) | (refine zc rfl ?_; refine zU rfl (by kernel_rfl) rfl rfl ?_) | exact yJ rfl rfl (by simp only [List.take_length]) | refine zD ?_ | refine zB _ rfl (by kernel_rfl) ?_ | refine zW rfl ?_ | refine zX rfl ?_ | refine zC ?_ | with_reducible refine zO ?_ | refine zI ?_ | refine zJ ?_ | (with_reducible first | refine zM ?_ | refine zN ?_ | refine zF ?_ | refine zH ?_ | refine zG ?_) | refine zP ?_
theorem nP {xs : List Rw} {i : Nat} {z y : Rw} (h : Srt (xs.take (i + 1))) (hz : xs[i + 1]? = some z) (hy : xs[i]? = some y) (hle : leW y z) : Srt (xs.take (i + 2)) := by
  rw [yw hz]
  refine List.pairwise_append.2 ⟨h, List.pairwise_singleton _ _, fun a ha c hc => ?_⟩
  have hc' : c = z := by simpa using hc
  subst hc'
  obtain ⟨j, hj⟩ := List.getElem?_of_mem ha
  have hlt := (List.getElem?_eq_some_iff.1 hj).1
  simp only [List.length_take] at hlt
  have hy' : (xs.take (i + 1))[i]? = some y := by rw [List.getElem?_take_of_lt (by omega)]; exact hy
  exact xa (v7 h (show j ≤ i by omega) hj hy') hle
theorem jV {xs : List Rw} {i : Nat} {z y : Rw} (hz : xs[i + 1]? = some z) (hy : xs[i]? = some y) (hle : ¬ leW y z) : v2 xs = false := by
  refine decide_eq_false fun h => hle ?_
  exact v7 h (Nat.le_succ i) hy hz
theorem lA {xs : List Rw} {i : Nat} (h : Srt (xs.take i)) (hi : xs.length ≤ i) : v2 xs = true := by
  rw [List.take_of_length_le hi] at h
  exact decide_eq_true h
theorem me (xs : List Rw) : Srt (xs.take 1) := by
  cases xs with
  | nil => exact List.Pairwise.nil
  | cons x xs => exact List.pairwise_singleton _ _
theorem fF (xs : List Rw) (hl : xs.length ≤ 1000000000) : zy Go.Proofs.Try.prog 77 [rwL xs] [] (B (v2 xs)) [] false := by
  refine zw [2] Go.Proofs.Try.func77 rfl rfl ?_
  simp only [Go.Proofs.Try.ntmps77, List.length_cons, List.length_nil, Nat.reduceAdd, Nat.reduceSub, List.replicate_succ, List.replicate_zero, List.cons_append, List.nil_append]
  repeat' first | refine zL ?_ | refine zA ?_ | refine zQ [] ?_ | (refine isA ?_; refine zf rfl ?_) | (refine isL ?_; refine zV rfl (by kernel_rfl) rfl rfl ?_) | (refine zc rfl ?_; refine zU rfl (by kernel_rfl) rfl rfl ?_) | refine zD ?_ | refine zB _ rfl (by kernel_rfl) ?_ | refine zW rfl ?_ | refine zX rfl ?_ | refine zC ?_ | with_reducible refine zO ?_ | refine zI ?_ | refine zJ ?_ | (with_reducible first | refine zM ?_ | refine zN ?_ | refine zF ?_ | refine zH ?_ | refine zG ?_) | refine zP ?_
  refine z9 (α := { i : Nat // Srt (xs.take (i + 1)) }) (fun i => ⟨[rwL xs, .any, .any, I ((i.1 + 1 : Nat) : Int), .any, .any, .any, .any, .any, .any, .any, .any, .any, .any, .any, .any, .any, .any, .any, .any, .any], [], 0⟩) (fun i => xs.length - i.1) ⟨0, me xs⟩ ?_ ?_
  · exact yW [] rfl rfl (by decide) .nil (by repeat' first | exact zj | refine zZ ?_ ?_ | exact zp | exact le_refl rfl | exact zm rfl rfl | exact zu rfl)
  · rintro ⟨i, hi⟩
    repeat' first | refine zL ?_ | refine zA ?_ | refine zQ [] ?_ | (refine isA ?_; refine zf rfl ?_) | (refine isL ?_; refine zV rfl (by kernel_rfl) rfl rfl ?_) | (refine zc rfl ?_; refine zU rfl (by kernel_rfl) rfl rfl ?_) | refine zD ?_ | refine zB _ rfl (by kernel_rfl) ?_ | refine zW rfl ?_ | refine zX rfl ?_ | refine zC ?_ | with_reducible refine zO ?_ | refine zI ?_ | refine zJ ?_ | (with_reducible first | refine zM ?_ | refine zN ?_ | refine zF ?_ | refine zH ?_ | refine zG ?_) | refine zP ?_
    refine zh rfl (fun h => ?_) (fun h => ?_)
    · have hlt : i + 1 < xs.length := by have := of_decide_eq_true h; simp only at this; omega
      obtain ⟨z, hz⟩ : ∃ z, xs[i + 1]? = some z := ⟨_, List.getElem?_eq_getElem hlt⟩
      obtain ⟨y, hy⟩ : ∃ z, xs[i]? = some z := ⟨_, List.getElem?_eq_getElem (by omega)⟩
      have ew : IntKind.i64.wrap (((i + 1 : Nat) : Int) - 1) = ((i : Nat) : Int) := by rw [IntKind.wrap_i64]; omega
      repeat' first | refine zL ?_ | refine zA ?_ | refine zQ [] ?_ | (refine isA ?_; refine zf rfl ?_) | (refine isL ?_; refine zV rfl (by kernel_rfl) rfl rfl ?_) | (refine zc rfl ?_; refine zU rfl (by kernel_rfl) rfl rfl ?_) | (refine yB (x := .tmp 10) ?_; refine za rfl (zz (t := rwT) (z := z) rfl rfl rfl rfl (Int.natCast_nonneg _) hz) rfl ?_) | (refine yA (x := .tmp 10) rfl ?_; refine zT rfl (by kernel_rfl) rfl (zz (t := rwT) (z := z) rfl rfl rfl rfl (Int.natCast_nonneg _) hz) rfl ?_) | (refine yB (x := .tmp 14) ?_; refine za rfl (zz (t := rwT) (j := ((i : Nat) : Int)) (z := y) rfl rfl rfl (congrArg I ew) (Int.natCast_nonneg _) hy) rfl ?_) | (refine yA (x := .tmp 14) rfl ?_; refine zT rfl (by kernel_rfl) rfl (zz (t := rwT) (j := ((i : Nat) : Int)) (z := y) rfl rfl rfl (congrArg I ew) (Int.natCast_nonneg _) hy) rfl ?_) | (refine zr 64 ?_; refine za rfl (zK rfl (xO z y) (.cons (.same rfl) (.cons (.same rfl) .nil)) rfl) rfl ?_) | (refine zq 64 rfl ?_; refine zT rfl (by kernel_rfl) rfl (zK rfl (xO z y) (.cons (.same rfl) (.cons (.same rfl) .nil)) rfl) rfl ?_) | refine zD ?_ | refine zB _ rfl (by kernel_rfl) ?_ | refine zW rfl ?_ | refine zX rfl ?_ | refine zC ?_ | with_reducible refine zO ?_ | refine zI ?_ | refine zJ ?_ | (with_reducible first | refine zM ?_ | refine zN ?_ | refine zF ?_ | refine zH ?_ | refine zG ?_) | refine zP ?_
      refine zh rfl (fun p => ?_) (fun p => ?_)
      · have e := jV hz hy (xg.1 (of_decide_eq_true p))
        repeat' first | refine zL ?_ | refine zA ?_ | refine zQ [] ?_ | (refine isA ?_; refine zf rfl ?_) | (refine isL ?_; refine zV rfl (by kernel_rfl) rfl rfl ?_) | (refine zc rfl ?_; refine zU rfl (by kernel_rfl) rfl rfl ?_) | exact yJ rfl rfl (by rw [e]) | refine zD ?_ | refine zB _ rfl (by kernel_rfl) ?_ | refine zW rfl ?_ | refine zX rfl ?_ | refine zC ?_ | with_reducible refine zO ?_ | refine zI ?_ | refine zJ ?_ | (with_reducible first | refine zM ?_ | refine zN ?_ | refine zF ?_ | refine zH ?_ | refine zG ?_) | refine zP ?_
      · have q : leW y z := Classical.byContradiction fun hn => absurd (xg.2 hn) (of_decide_eq_false p)
        repeat' first | refine zL ?_ | refine zA ?_ | refine zQ [] ?_ | (refine isA ?_; refine zf rfl ?_) | (refine isL ?_; refine zV rfl (by kernel_rfl) rfl rfl ?_) | (refine zc rfl ?_; refine zU rfl (by kernel_rfl) rfl rfl ?_) | refine zD ?_ | refine zB _ rfl (by kernel_rfl) ?_ | refine zW rfl ?_ | refine zX rfl ?_ | refine zC ?_ | with_reducible refine zO ?_ | refine zI ?_ | refine zJ ?_ | (with_reducible first | refine zM ?_ | refine zN ?_ | refine zF ?_ | refine zH ?_ | refine zG ?_) | refine zP ?_
        refine ⟨⟨i + 1, nP hi hz hy q⟩, by simp only; omega, ?_⟩
        exact yW [] rfl rfl (by decide) .nil (by
          repeat' first | exact zj | refine zZ ?_ ?_ | exact zp | exact le_refl rfl | exact yC (congrArg _ (show ((i + 1 + 1 : Nat) : Int) = IntKind.i64.wrap (((i + 1 : Nat) : Int) + 1) by rw [IntKind.wrap_i64]; omega)))
    · have e := lA hi (by have := of_decide_eq_false h; simp only at this; omega)
      repeat' first | refine zL ?_ | refine zA ?_ | refine zQ [] ?_ | (refine isA ?_; refine zf rfl ?_) | (refine isL ?_; refine zV rfl (by kernel_rfl) rfl rfl ?_) | (refine zc rfl ?_; refine zU rfl (by kernel_rfl) rfl rfl ?_) | exact yJ rfl rfl (by rw [e]) | refine zD ?_ | refine zB _ rfl (by kernel_rfl) ?_ | refine zW rfl ?_ | refine zX rfl ?_ | refine zC ?_ | with_reducible refine zO ?_ | refine zI ?_ | refine zJ ?_ | (with_reducible first | refine zM ?_ | refine zN ?_ | refine zF ?_ | refine zH ?_ | refine zG ?_) | refine zP ?_
theorem gv (xs : List Rw) (hl : xs.length ≤ 1000000000) : zy Go.Proofs.Try.prog 84 [rwL xs] [] (B (v2 xs)) [] false := by
  refine zw [2] Go.Proofs.Try.func84 rfl rfl ?_
  simp only [Go.Proofs.Try.ntmps84, List.length_cons, List.length_nil, Nat.reduceAdd, Nat.reduceSub, List.replicate_succ, List.replicate_zero, List.cons_append, List.nil_append]
  repeat' first | refine zL ?_ | refine zA ?_ | refine zQ [] ?_ | (refine isA ?_; refine zf rfl ?_) | (refine isL ?_; refine zV rfl (by kernel_rfl) rfl rfl ?_) | (refine zc rfl ?_; refine zU rfl (by kernel_rfl) rfl rfl ?_) | refine zD ?_ | refine zB _ rfl (by kernel_rfl) ?_ | refine zW rfl ?_ | refine zX rfl ?_ | refine zC ?_ | with_reducible refine zO ?_ | refine zI ?_ | refine zJ ?_ | (with_reducible first | refine zM ?_ | refine zN ?_ | refine zF ?_ | refine zH ?_ | refine zG ?_) | refine zP ?_
  refine z9 (α := { i : Nat // Srt (xs.take (i + 1)) }) (fun i => ⟨[rwL xs, .any, .any, I ((i.1 + 1 : Nat) : Int), .any, .any, .any, .any, .any, .any, .any, .any, .any, .any, .any, .any, .any, .any, .any, .any, .any], [], 0⟩) (fun i => xs.length - i.1) ⟨0, me xs⟩ ?_ ?_
  · exact yW [] rfl rfl (by decide) .nil (by repeat' first | exact zj | refine zZ ?_ ?_ | exact zp | exact le_refl rfl | exact zm rfl rfl | exact zu rfl)
  · rintro ⟨i, hi⟩
    repeat' first | refine zL ?_ | refine zA ?_ | refine zQ [] ?_ | (refine isA ?_; refine zf rfl ?_) | (refine isL ?_; refine zV rfl (by kernel_rfl) rfl rfl ?_) | (refine zc rfl ?_; refine zU rfl (by kernel_rfl) rfl rfl ?_) | refine zD ?_ | refine zB _ rfl (by kernel_rfl) ?_ | refine zW rfl ?_ | refine zX rfl ?_ | refine zC ?_ | with_reducible refine zO ?_ | refine zI ?_ | refine zJ ?_ | (with_reducible first | refine zM ?_ | refine zN ?_ | refine zF ?_ | refine zH ?_ | refine zG ?_) | refine zP ?_
    refine zh rfl (fun h => ?_) (fun h => ?_)
    · have hlt : i + 1 < xs.length := by have := of_decide_eq_true h; simp only at this; omega
      obtain ⟨z, hz⟩ : ∃ z, xs[i + 1]? = some z := ⟨_, List.getElem?_eq_getElem hlt⟩
      obtain ⟨y, hy⟩ : ∃ z, xs[i]? = some z := ⟨_, List.getElem?_eq_getElem (by omega)⟩
      have ew : IntKind.i64.wrap (((i + 1 : Nat) : Int) - 1) = ((i : Nat) : Int) := by rw [IntKind.wrap_i64]; omega
      repeat' first | refine zL ?_ | refine zA ?_ | refine zQ [] ?_ | (refine isA ?_; refine zf rfl ?_) | (refine isL ?_; refine zV rfl (by kernel_rfl) rfl rfl ?_) | (refine zc rfl ?_; refine zU rfl (by kernel_rfl) rfl rfl ?_) | (refine yB (x := .tmp 15) ?_; refine za rfl (zz (t := rwT) (z := z) rfl rfl rfl rfl (Int.natCast_nonneg _) hz) rfl ?_) | (refine yA (x := .tmp 15) rfl ?_; refine zT rfl (by kernel_rfl) rfl (zz (t := rwT) (z := z) rfl rfl rfl rfl (Int.natCast_nonneg _) hz) rfl ?_) | (refine yB (x := .tmp 10) ?_; refine za rfl (zz (t := rwT) (j := ((i : Nat) : Int)) (z := y) rfl rfl rfl (congrArg I ew) (Int.natCast_nonneg _) hy) rfl ?_) | (refine yA (x := .tmp 10) rfl ?_; refine zT rfl (by kernel_rfl) rfl (zz (t := rwT) (j := ((i : Nat) : Int)) (z := y) rfl rfl rfl (congrArg I ew) (Int.natCast_nonneg _) hy) rfl ?_) | (refine zr 68 ?_; refine za rfl (zK rfl (xz y z) (.cons (.same rfl) (.cons (.same rfl) .nil)) rfl) rfl ?_) | (refine zq 68 rfl ?_; refine zT rfl (by kernel_rfl) rfl (zK rfl (xz y z) (.cons (.same rfl) (.cons (.same rfl) .nil)) rfl) rfl ?_) | refine zD ?_ | refine zB _ rfl (by kernel_rfl) ?_ | refine zW rfl ?_ | refine zX rfl ?_ | refine zC ?_ | with_reducible refine zO ?_ | refine zI ?_ | refine zJ ?_ | (with_reducible first | refine zM ?_ | refine zN ?_ | refine zF ?_ | refine zH ?_ | refine zG ?_) | refine zP ?_
      refine zh rfl (fun p => ?_) (fun p => ?_)
      · have e := jV hz hy (fun h => by have h : yu y z ≤ 0 := h; have := of_decide_eq_true p; omega)
        repeat' first | refine zL ?_ | refine zA ?_ | refine zQ [] ?_ | (refine isA ?_; refine zf rfl ?_) | (refine isL ?_; refine zV rfl (by kernel_rfl) rfl rfl ?_) | (refine zc rfl ?_; refine zU rfl (by kernel_rfl) rfl rfl ?_) | exact yJ rfl rfl (by rw [e]) | refine zD ?_ | refine zB _ rfl (by kernel_rfl) ?_ | refine zW rfl ?_ | refine zX rfl ?_ | refine zC ?_ | with_reducible refine zO ?_ | refine zI ?_ | refine zJ ?_ | (with_reducible first | refine zM ?_ | refine zN ?_ | refine zF ?_ | refine zH ?_ | refine zG ?_) | refine zP ?_
      · have q : leW y z := by show yu y z ≤ 0; have := of_decide_eq_false p; omega
        repeat' first | refine zL ?_ | refine zA ?_ | refine zQ [] ?_ | (refine isA ?_; refine zf rfl ?_) | (refine isL ?_; refine zV rfl (by kernel_rfl) rfl rfl ?_) | (refine zc rfl ?_; refine zU rfl (by kernel_rfl) rfl rfl ?_) | refine zD ?_ | refine zB _ rfl (by kernel_rfl) ?_ | refine zW rfl ?_ | refine zX rfl ?_ | refine zC ?_ | with_reducible refine zO ?_ | refine zI ?_ | refine zJ ?_ | (with_reducible first | refine zM ?_ | refine zN ?_ | refine zF ?_ | refine zH ?_ | refine zG ?_) | refine zP ?_
        refine ⟨⟨i + 1, nP hi hz hy q⟩, by simp only; omega, ?_⟩
        exact yW [] rfl rfl (by decide) .nil (by
          repeat' first | exact zj | refine zZ ?_ ?_ | exact zp | exact le_refl rfl | exact yC (congrArg _ (show ((i + 1 + 1 : Nat) : Int) = IntKind.i64.wrap (((i + 1 : Nat) : Int) + 1) by rw [IntKind.wrap_i64]; omega)))
    · have e := lA hi (by have := of_decide_eq_false h; simp only at this; omega)
      repeat' first | refine zL ?_ | refine zA ?_ | refine zQ [] ?_ | (refine isA ?_; refine zf rfl ?_) | (refine isL ?_; refine zV rfl (by kernel_rfl) rfl rfl ?_) | (refine zc rfl ?_; refine zU rfl (by kernel_rfl) rfl rfl ?_) | exact yJ rfl rfl (by rw [e]) | refine zD ?_ | refine zB _ rfl (by kernel_rfl) ?_ | refine zW rfl ?_ | refine zX rfl ?_ | refine zC ?_ | with_reducible refine zO ?_ | refine zI ?_ | refine zJ ?_ | (with_reducible first | refine zM ?_ | refine zN ?_ | refine zF ?_ | refine zH ?_ | refine zG ?_) | refine zP ?_
theorem pV (x : Rw) (out : List Rw) (hl : out.length ≤ 1000000000) : zy Go.Proofs.Try.prog 59 [.agg (rwE x), rwL out] [] (B (bel x out)) [] false := by
  rcases Nat.eq_zero_or_pos out.length with h0 | h0
  · rw [List.eq_nil_of_length_eq_zero h0]
    refine zw [4] Go.Proofs.Try.func59 rfl rfl ?_
    simp only [Go.Proofs.Try.ntmps59, List.length_cons, List.length_nil, Nat.reduceAdd, Nat.reduceSub, List.replicate_succ, List.replicate_zero, List.cons_append, List.nil_append]
    repeat' first | refine zL ?_ | refine zA ?_ | refine zQ [] ?_ | (refine isA ?_; refine zf rfl ?_) | (refine isL ?_; refine zV rfl (by kernel_rfl) rfl rfl ?_) | (refine zc rfl ?_; refine zU rfl (by kernel_rfl) rfl rfl ?_) | exact yJ rfl rfl rfl | refine zD ?_ | refine zB _ rfl (by kernel_rfl) ?_ | refine zW rfl ?_ | refine zX rfl ?_ | refine zC ?_ | with_reducible refine zO ?_ | refine zI ?_ | refine zJ ?_ | (with_reducible first | refine zM ?_ | refine zN ?_ | refine zF ?_ | refine zH ?_ | refine zG ?_) | refine zP ?_
  · obtain ⟨y, hy⟩ : ∃ z, out[out.length - 1]? = some z := ⟨_, List.getElem?_eq_getElem (by omega)⟩
    have ew : IntKind.i64.wrap ((out.length : Int) - 1) = ((out.length - 1 : Nat) : Int) := by rw [IntKind.wrap_i64]; omega
    have e : bel x out = decide (yu x y < 0) := by unfold bel; rw [hy]; rfl
    refine zw [4] Go.Proofs.Try.func59 rfl rfl ?_
    simp only [Go.Proofs.Try.ntmps59, List.length_cons, List.length_nil, Nat.reduceAdd, Nat.reduceSub, List.replicate_succ, List.replicate_zero, List.cons_append, List.nil_append]
    repeat' first | refine zL ?_ | refine zA ?_ | refine zQ [] ?_ | (refine isA ?_; refine zf rfl ?_) | (refine isL ?_; refine zV rfl (by kernel_rfl) rfl rfl ?_) | (refine zc rfl ?_; refine zU rfl (by kernel_rfl) rfl rfl ?_) | refine zD ?_ | refine zB _ rfl (by kernel_rfl) ?_ | refine zW rfl ?_ | refine zX rfl ?_ | refine zC ?_ | with_reducible refine zO ?_ | refine zI ?_ | refine zJ ?_ | (with_reducible first | refine zM ?_ | refine zN ?_ | refine zF ?_ | refine zH ?_ | refine zG ?_) | refine zP ?_
    refine yK rfl rfl rfl rfl (fun p1 => ?_) (fun p1 => absurd (of_decide_eq_false p1) (by omega))
    repeat' first | refine zL ?_ | refine zA ?_ | refine zQ [] ?_ | (refine isA ?_; refine zf rfl ?_) | (refine isL ?_; refine zV rfl (by kernel_rfl) rfl rfl ?_) | (refine zc rfl ?_; refine zU rfl (by kernel_rfl) rfl rfl ?_) | (refine yB ?_; refine za rfl (zz (t := rwT) (j := ((out.length - 1 : Nat) : Int)) (z := y) rfl rfl rfl (congrArg I ew) (Int.natCast_nonneg _) hy) rfl ?_) | (refine yA rfl ?_; refine zT rfl (by kernel_rfl) rfl (zz (t := rwT) (j := ((out.length - 1 : Nat) : Int)) (z := y) rfl rfl rfl (congrArg I ew) (Int.natCast_nonneg _) hy) rfl ?_) | (refine zr 64 ?_; refine za rfl (zK rfl (xO x y) (.cons (.same rfl) (.cons (.same rfl) .nil)) rfl) rfl ?_) | (refine zq 64 rfl ?_; refine zT rfl (by kernel_rfl) rfl (zK rfl (xO x y) (.cons (.same rfl) (.cons (.same rfl) .nil)) rfl) rfl ?_) | exact yJ rfl rfl (by rw [e]) | refine zD ?_ | refine zB _ rfl (by kernel_rfl) ?_ | refine zW rfl ?_ | refine zX rfl ?_ | refine zC ?_ | with_reducible refine zO ?_ | refine zI ?_ | refine zJ ?_ | (with_reducible first | refine zM ?_ | refine zN ?_ | refine zF ?_ | refine zH ?_ | refine zG ?_) | refine zP ?_
end Go.Proofs.Ytojcojanokhnaaa.Ab
namespace Go.Proofs.Ytojcojanokhnaaa.Ab
open Go.RowKit
def qF (r : Rn) : Bool := !decide (r.length = 0) && (v2 r && avR r)
theorem fP {rs : List Rn} {i : Nat} {z : Rn} (hz : rs[i]? = some z) (h : qF z = false) : avS rs = false := by
  cases e : avS rs with
  | false => rfl
  | true =>
    have := List.all_eq_true.1 e z (List.mem_of_getElem? hz)
    rw [show (!decide (z.length = 0) && (v2 z && avR z)) = qF z from rfl, h] at this
    cases this
theorem lZ {rs : List Rn} (h : ∀ j z, j < rs.length → rs[j]? = some z → qF z = true) : avS rs = true := List.all_eq_true.2 fun z hz => by
  obtain ⟨j, hj⟩ := List.getElem?_of_mem hz
  exact h j z (List.getElem?_eq_some_iff.1 hj).1 hj
theorem jF {z : Rn} : qF z = (!decide ((z.length : Int) = 0) && (v2 z && avR z)) := by
  unfold qF
  congr 2
  exact decide_eq_decide.2 (by omega)
theorem pw {rs : List Rn} {i : Nat} {z : Rn} (hb : ∀ j z, j < i → rs[j]? = some z → qF z = true) (hz : rs[i]? = some z) (h : qF z = true) : ∀ j z, j < i + 1 → rs[j]? = some z → qF z = true := fun j y hj hy => by
  rcases Nat.lt_or_ge j i with hlt | hge
  · exact hb j y hlt hy
  · obtain rfl : j = i := by omega
    rw [hz] at hy
    cases hy
    exact h
theorem cS (rs : List Rn) (hok : t5 rs) : zy Go.Proofs.Try.prog 76 [rnL rs] [] (B (avS rs)) [] false := by
  have hl := hok.1
  refine zw [2] Go.Proofs.Try.func76 rfl rfl ?_
  simp only [Go.Proofs.Try.ntmps76, List.length_cons, List.length_nil, Nat.reduceAdd, Nat.reduceSub, List.replicate_succ, List.replicate_zero, List.cons_append, List.nil_append]
  repeat' first | refine zL ?_ | refine zA ?_ | refine zQ [] ?_ | (refine isA ?_; refine zf rfl ?_) | (refine isL ?_; refine zV rfl (by kernel_rfl) rfl rfl ?_) | (refine zc rfl ?_; refine zU rfl (by kernel_rfl) rfl rfl ?_) | refine zD ?_ | refine zB _ rfl (by kernel_rfl) ?_ | refine zW rfl ?_ | refine zX rfl ?_ | refine zC ?_ | with_reducible refine zO ?_ | refine zI ?_ | refine zJ ?_ | (with_reducible first | refine zM ?_ | refine zN ?_ | refine zF ?_ | refine zH ?_ | refine zG ?_) | refine zP ?_
  refine z9 (α := { i : Nat // i ≤ rs.length ∧ ∀ j z, j < i → rs[j]? = some z → qF z = true }) (fun i => ⟨[.any, .any, .any, .any, .any, rnL rs, I rs.length, I i.1, .any, .any, .any, .any, .any, .any, .any, .any, .any, .any, .any, .any, .any, .any, .any, .any, .any, .any, .any, .any], [], 0⟩) (fun i => rs.length - i.1) ⟨0, Nat.zero_le _, fun j z h => absurd h (Nat.not_lt_zero j)⟩ ?_ ?_
  · exact yW [] rfl rfl (by decide) .nil (by repeat' first | exact zj | refine zZ ?_ ?_ | exact zp | exact le_refl rfl | exact zm rfl rfl | exact zu rfl)
  · rintro ⟨i, hi, hb⟩
    repeat' first | refine zL ?_ | refine zA ?_ | refine zQ [] ?_ | (refine isA ?_; refine zf rfl ?_) | (refine isL ?_; refine zV rfl (by kernel_rfl) rfl rfl ?_) | (refine zc rfl ?_; refine zU rfl (by kernel_rfl) rfl rfl ?_) | refine zD ?_ | refine zB _ rfl (by kernel_rfl) ?_ | refine zW rfl ?_ | refine zX rfl ?_ | refine zC ?_ | with_reducible refine zO ?_ | refine zI ?_ | refine zJ ?_ | (with_reducible first | refine zM ?_ | refine zN ?_ | refine zF ?_ | refine zH ?_ | refine zG ?_) | refine zP ?_
    refine zh rfl (fun h => ?_) (fun h => ?_)
    · have hlt : i < rs.length := by simpa using h
      obtain ⟨z, hz⟩ : ∃ z, rs[i]? = some z := ⟨_, List.getElem?_eq_getElem hlt⟩
      have zl := hok.at hz
      have hno := fP hz
      have hyes := pw hb hz
      rw [jF] at hno hyes
      have c1 := fF z zl
      have c2 := th z zl
      generalize v2 z = p at hno hyes c1
      generalize avR z = q at hno hyes c2
      repeat' first | refine zL ?_ | refine zA ?_ | refine zQ [] ?_ | (refine isA ?_; refine zf rfl ?_) | (refine isL ?_; refine zV rfl (by kernel_rfl) rfl rfl ?_) | (refine zc rfl ?_; refine zU rfl (by kernel_rfl) rfl rfl ?_) | (refine yB ?_; refine za rfl (zz (t := rnT) (z := z) rfl rfl rfl rfl (Int.natCast_nonneg i) hz) rfl ?_) | (refine yA rfl ?_; refine zT rfl (by kernel_rfl) rfl (zz (t := rnT) (z := z) rfl rfl rfl rfl (Int.natCast_nonneg i) hz) rfl ?_) | (refine zr 77 ?_; refine za rfl (zK rfl c1 (.cons (.same rfl) .nil) rfl) rfl ?_) | (refine zq 77 rfl ?_; refine zT rfl (by kernel_rfl) rfl (zK rfl c1 (.cons (.same rfl) .nil) rfl) rfl ?_) | (refine zr 74 ?_; refine za rfl (zK rfl c2 (.cons (.same rfl) .nil) rfl) rfl ?_) | (refine zq 74 rfl ?_; refine zT rfl (by kernel_rfl) rfl (zK rfl c2 (.cons (.same rfl) .nil) rfl) rfl ?_) | refine zD ?_ | refine zB _ rfl (by kernel_rfl) ?_ | refine zW rfl ?_ | refine zX rfl ?_ | refine zC ?_ | with_reducible refine zO ?_ | refine zI ?_ | refine zJ ?_ | (with_reducible first | refine zM ?_ | refine zN ?_ | refine zF ?_ | refine zH ?_ | refine zG ?_) | refine zP ?_ | refine zh rfl (fun hbr => ?_) (fun hbr => ?_) | (refine wy ?_; refine yb rfl rfl (fun hbr => ?_) (fun hbr => ?_) <;> (fail_if_success (with_reducible (have hx : true = true := hbr))) <;> (fail_if_success (with_reducible (have hx : false = false := hbr)))) | (refine zc rfl ?_; refine yK rfl rfl rfl rfl (fun hbr => ?_) (fun hbr => ?_) <;> (fail_if_success (with_reducible (have hx : true = true := hbr))) <;> (fail_if_success (with_reducible (have hx : false = false := hbr))))
      all_goals first
        | exact yJ rfl rfl (congrArg B (hno (by simp_all)).symm)
        | (refine ⟨⟨i + 1, hlt, hyes (by simp_all)⟩, by simp only; omega, ?_⟩; exact yW [] rfl rfl (by decide) .nil (by repeat' first | exact zj | refine zZ ?_ ?_ | exact zp | exact le_refl rfl | exact zm rfl rfl | exact zu rfl | exact xL (by assumption) (by omega)))
    · have hge : i = rs.length := by
        have : ¬ ((i : Int) < rs.length) := by simpa using h
        omega
      subst hge
      repeat' first | refine zL ?_ | refine zA ?_ | refine zQ [] ?_ | (refine isA ?_; refine zf rfl ?_) | (refine isL ?_; refine zV rfl (by kernel_rfl) rfl rfl ?_) | (refine zc rfl ?_; refine zU rfl (by kernel_rfl) rfl rfl ?_) | exact yJ rfl rfl (by rw [lZ hb]) | refine zD ?_ | refine zB _ rfl (by kernel_rfl) ?_ | refine zW rfl ?_ | refine zX rfl ?_ | refine zC ?_ | with_reducible refine zO ?_ | refine zI ?_ | refine zJ ?_ | (with_reducible first | refine zM ?_ | refine zN ?_ | refine zF ?_ | refine zH ?_ | refine zG ?_) | refine zP ?_
theorem cI (rs : List Rn) (hok : t5 rs) : zy Go.Proofs.Try.prog 83 [rnL rs] [] (B (avS rs)) [] false := by
  have hl := hok.1
  refine zw [2] Go.Proofs.Try.func83 rfl rfl ?_
  simp only [Go.Proofs.Try.ntmps83, List.length_cons, List.length_nil, Nat.reduceAdd, Nat.reduceSub, List.replicate_succ, List.replicate_zero, List.cons_append, List.nil_append]
  repeat' first | refine zL ?_ | refine zA ?_ | refine zQ [] ?_ | (refine isA ?_; refine zf rfl ?_) | (refine isL ?_; refine zV rfl (by kernel_rfl) rfl rfl ?_) | (refine zc rfl ?_; refine zU rfl (by kernel_rfl) rfl rfl ?_) | refine zD ?_ | refine zB _ rfl (by kernel_rfl) ?_ | refine zW rfl ?_ | refine zX rfl ?_ | refine zC ?_ | with_reducible refine zO ?_ | refine zI ?_ | refine zJ ?_ | (with_reducible first | refine zM ?_ | refine zN ?_ | refine zF ?_ | refine zH ?_ | refine zG ?_) | refine zP ?_
  refine z9 (α := { i : Nat // i ≤ rs.length ∧ ∀ j z, j < i → rs[j]? = some z → qF z = true }) (fun i => ⟨[rnL rs, .any, .any, I i.1, .any, .any, .any, .any, .any, .any, .any, .any, .any, .any, .any, .any, .any, .any, .any, .any, .any, .any, .any, .any, .any, .any, .any, .any, .any, .any, .any, .any, .any, .any, .any], [], 0⟩) (fun i => rs.length - i.1) ⟨0, Nat.zero_le _, fun j z h => absurd h (Nat.not_lt_zero j)⟩ ?_ ?_
  · exact yW [] rfl rfl (by decide) .nil (by repeat' first | exact zj | refine zZ ?_ ?_ | exact zp | exact le_refl rfl | exact zm rfl rfl | exact zu rfl)
  · rintro ⟨i, hi, hb⟩
    repeat' first | refine zL ?_ | refine zA ?_ | refine zQ [] ?_ | (refine isA ?_; refine zf rfl ?_) | (refine isL ?_; refine zV rfl (by kernel_rfl) rfl rfl ?_) | (refine zc rfl ?_; refine zU rfl (by kernel_rfl) rfl rfl ?_) | refine zD ?_ | refine zB _ rfl (by kernel_rfl) ?_ | refine zW rfl ?_ | refine zX rfl ?_ | refine zC ?_ | with_reducible refine zO ?_ | refine zI ?_ | refine zJ ?_ | (with_reducible first | refine zM ?_ | refine zN ?_ | refine zF ?_ | refine zH ?_ | refine zG ?_) | refine zP ?_
    refine zh rfl (fun h => ?_) (fun h => ?_)
    · have hlt : i < rs.length := by simpa using h
      obtain ⟨z, hz⟩ : ∃ z, rs[i]? = some z := ⟨_, List.getElem?_eq_getElem hlt⟩
      have zl := hok.at hz
      have hno := fP hz
      have hyes := pw hb hz
      rw [jF] at hno hyes
      have c1 := gv z zl
      have c2 := pT z zl
      generalize v2 z = p at hno hyes c1
      generalize avR z = q at hno hyes c2
      repeat' first | refine zL ?_ | refine zA ?_ | refine zQ [] ?_ | (refine isA ?_; refine zf rfl ?_) | (refine isL ?_; refine zV rfl (by kernel_rfl) rfl rfl ?_) | (refine zc rfl ?_; refine zU rfl (by kernel_rfl) rfl rfl ?_) | (refine yB ?_; refine za rfl (zz (t := rnT) (z := z) rfl rfl rfl rfl (Int.natCast_nonneg i) hz) rfl ?_) | (refine yA rfl ?_; refine zT rfl (by kernel_rfl) rfl (zz (t := rnT) (z := z) rfl rfl rfl rfl (Int.natCast_nonneg i) hz) rfl ?_) | (refine zr 84 ?_; refine za rfl (zK rfl c1 (.cons (.same rfl) .nil) rfl) rfl ?_) | (refine zq 84 rfl ?_; refine zT rfl (by kernel_rfl) rfl (zK rfl c1 (.cons (.same rfl) .nil) rfl) rfl ?_) | (refine zr 25 ?_; refine za rfl (zK rfl c2 (.cons (.same rfl) .nil) rfl) rfl ?_) | (refine zq 25 rfl ?_; refine zT rfl (by kernel_rfl) rfl (zK rfl c2 (.cons (.same rfl) .nil) rfl) rfl ?_) | refine zD ?_ | refine zB _ rfl (by kernel_rfl) ?_ | refine zW rfl ?_ | refine zX rfl ?_ | refine zC ?_ | with_reducible refine zO ?_ | refine zI ?_ | refine zJ ?_ | (with_reducible first | refine zM ?_ | refine zN ?_ | refine zF ?_ | refine zH ?_ | refine zG ?_) | refine zP ?_ | refine zh rfl (fun hbr => ?_) (fun hbr => ?_) | (refine wy ?_; refine yb rfl rfl (fun hbr => ?_) (fun hbr => ?_) <;> (fail_if_success (with_reducible (have hx : true = true := hbr))) <;> (fail_if_success (with_reducible (have hx : false = false := hbr)))) | (refine zc rfl ?_; refine yK rfl rfl rfl rfl (fun hbr => ?_) (fun hbr => ?_) <;> (fail_if_success (with_reducible (have hx : true = true := hbr))) <;> (fail_if_success (with_reducible (have hx : false = false := hbr))))
      all_goals first
        | exact yJ rfl rfl (congrArg B (hno (by simp_all)).symm)
        | (refine ⟨⟨i + 1, hlt, hyes (by simp_all)⟩, by simp only; omega, ?_⟩; exact yW [] rfl rfl (by decide) .nil (by repeat' first | exact zj | refine zZ ?_ ?_ | exact zp | exact le_refl rfl | exact zm rfl rfl | exact zu rfl | exact xL (by assumption) (by omega)))
    · have hge : i = rs.length := by
        have : ¬ ((i : Int) < rs.length) := by simpa using h
        omega
      subst hge
      repeat' first | refine zL ?_ | refine zA ?_ | refine zQ [] ?_ | (refine isA ?_; refine zf rfl ?_) | (refine isL ?_; refine zV rfl (by kernel_rfl) rfl rfl ?_) | (refine zc rfl ?_; refine zU rfl (by kernel_rfl) rfl rfl ?_) | exact yJ rfl rfl (by rw [lZ hb]) | refine zD ?_ | refine zB _ rfl (by kernel_rfl) ?_ | refine zW rfl ?_ | refine zX rfl ?_ | refine zC ?_ | with_reducible refine zO ?_ | refine zI ?_ | refine zJ ?_ | (with_reducible first | refine zM ?_ | refine zN ?_ | refine zF ?_ | refine zH ?_ | refine zG ?_) | refine zP ?_
end Go.Proofs.Ytojcojanokhnaaa.Ab
namespace Go.Proofs.Ytojcojanokhnaaa.Ab
open Go.RowKit
theorem lW (xs ys : List Rw) (h1 : xs.length ≤ 100000000) (h2 : ys.length ≤ 100000000) : zy Go.Proofs.Try.prog 86 [rwL xs, rwL ys] [] (B (eqB xs ys)) [] false := by
  have s1 := (lS xs h1).frozen (zk rfl)
  have s2 := (lS ys h2).frozen (zk rfl)
  have l1 := xo xs
  have l2 := xo ys
  show zy Go.Proofs.Try.prog 86 [rwL xs, rwL ys] [] (B (xj (yM xs) (yM ys))) [] false
  generalize yM xs = us at s1 l1 ⊢
  generalize yM ys = vs at s2 l2 ⊢
  refine zw [4] Go.Proofs.Try.func86 rfl rfl ?_
  simp only [Go.Proofs.Try.ntmps86, List.length_cons, List.length_nil, Nat.reduceAdd, Nat.reduceSub, List.replicate_succ, List.replicate_zero, List.cons_append, List.nil_append]
  repeat' first | refine zL ?_ | refine zA ?_ | refine zQ [] ?_ | (refine isA ?_; refine zf rfl ?_) | (refine isL ?_; refine zV rfl (by kernel_rfl) rfl rfl ?_) | (refine zc rfl ?_; refine zU rfl (by kernel_rfl) rfl rfl ?_) | (refine zr 28 (x := #[.tmp 8]) ?_; refine za rfl (zK rfl s1 (.cons (.same rfl) .nil) rfl) rfl ?_) | (refine zq 28 (x := #[.tmp 8]) rfl ?_; refine zT rfl (by kernel_rfl) rfl (zK rfl s1 (.cons (.same rfl) .nil) rfl) rfl ?_) | (refine zr 28 (x := #[.tmp 10]) ?_; refine za rfl (zK rfl s2 (.cons (.same rfl) .nil) rfl) rfl ?_) | (refine zq 28 (x := #[.tmp 10]) rfl ?_; refine zT rfl (by kernel_rfl) rfl (zK rfl s2 (.cons (.same rfl) .nil) rfl) rfl ?_) | refine zD ?_ | refine zB _ rfl (by kernel_rfl) ?_ | refine zW rfl ?_ | refine zX rfl ?_ | refine zC ?_ | with_reducible refine zO ?_ | refine zI ?_ | refine zJ ?_ | (with_reducible first | refine zM ?_ | refine zN ?_ | refine zF ?_ | refine zH ?_ | refine zG ?_) | refine zP ?_
  refine zh rfl (fun h => ?_) (fun h => ?_)
  · have hne : us.length ≠ vs.length := by have : ¬ ((us.length : Int) = vs.length) := (by simpa using h); omega
    repeat' first | refine zL ?_ | refine zA ?_ | refine zQ [] ?_ | (refine isA ?_; refine zf rfl ?_) | (refine isL ?_; refine zV rfl (by kernel_rfl) rfl rfl ?_) | (refine zc rfl ?_; refine zU rfl (by kernel_rfl) rfl rfl ?_) | exact yJ rfl rfl (by rw [tM hne]) | refine zD ?_ | refine zB _ rfl (by kernel_rfl) ?_ | refine zW rfl ?_ | refine zX rfl ?_ | refine zC ?_ | with_reducible refine zO ?_ | refine zI ?_ | refine zJ ?_ | (with_reducible first | refine zM ?_ | refine zN ?_ | refine zF ?_ | refine zH ?_ | refine zG ?_) | refine zP ?_
  have he : us.length = vs.length := by have : ((us.length : Int) = vs.length) := (by simpa using h); omega
  repeat' first | refine zL ?_ | refine zA ?_ | refine zQ [] ?_ | (refine isA ?_; refine zf rfl ?_) | (refine isL ?_; refine zV rfl (by kernel_rfl) rfl rfl ?_) | (refine zc rfl ?_; refine zU rfl (by kernel_rfl) rfl rfl ?_) | refine zD ?_ | refine zB _ rfl (by kernel_rfl) ?_ | refine zW rfl ?_ | refine zX rfl ?_ | refine zC ?_ | with_reducible refine zO ?_ | refine zI ?_ | refine zJ ?_ | (with_reducible first | refine zM ?_ | refine zN ?_ | refine zF ?_ | refine zH ?_ | refine zG ?_) | refine zP ?_
  refine z9 (α := { i : Nat // i ≤ us.length ∧ xj (us.drop i) (vs.drop i) = xj us vs }) (fun i => ⟨[.any, .any, .any, .any, .any, rwL us, rwL vs, I i.1, .any, .any, .any, .any, .any, .any, .any, .any, .any, .any, .any, .any, .any, .any, .any, .any, .any, .any, .any, .any, .any, .any, .any, .any], [], 0⟩) (fun i => us.length - i.1) ⟨0, Nat.zero_le _, rfl⟩ ?_ ?_
  · exact xl rfl (by repeat' first | exact EqS.nil | refine EqS.any ?_ | refine EqS.same rfl ?_)
  · rintro ⟨i, hi, hq⟩
    repeat' first | refine zL ?_ | refine zA ?_ | refine zQ [] ?_ | (refine isA ?_; refine zf rfl ?_) | (refine isL ?_; refine zV rfl (by kernel_rfl) rfl rfl ?_) | (refine zc rfl ?_; refine zU rfl (by kernel_rfl) rfl rfl ?_) | refine zD ?_ | refine zB _ rfl (by kernel_rfl) ?_ | refine zW rfl ?_ | refine zX rfl ?_ | refine zC ?_ | with_reducible refine zO ?_ | refine zI ?_ | refine zJ ?_ | (with_reducible first | refine zM ?_ | refine zN ?_ | refine zF ?_ | refine zH ?_ | refine zG ?_) | refine zP ?_
    refine zh rfl (fun h => ?_) (fun h => ?_)
    · have hlt : i < us.length := by simpa using h
      obtain ⟨x, hx⟩ : ∃ z, us[i]? = some z := ⟨_, List.getElem?_eq_getElem hlt⟩
      obtain ⟨y, hy⟩ : ∃ z, vs[i]? = some z := ⟨_, List.getElem?_eq_getElem (by omega)⟩
      rw [pP hx hy] at hq
      repeat' first | refine zL ?_ | refine zA ?_ | refine zQ [] ?_ | (refine isA ?_; refine zf rfl ?_) | (refine isL ?_; refine zV rfl (by kernel_rfl) rfl rfl ?_) | (refine zc rfl ?_; refine zU rfl (by kernel_rfl) rfl rfl ?_) | (refine yB (x := .tmp 23) ?_; refine za rfl (zz (t := rwT) (z := x) rfl rfl rfl rfl (Int.natCast_nonneg i) hx) rfl ?_) | (refine yA (x := .tmp 23) rfl ?_; refine zT rfl (by kernel_rfl) rfl (zz (t := rwT) (z := x) rfl rfl rfl rfl (Int.natCast_nonneg i) hx) rfl ?_) | (refine yB (x := .tmp 27) ?_; refine za rfl (zz (t := rwT) (z := y) rfl rfl rfl rfl (Int.natCast_nonneg i) hy) rfl ?_) | (refine yA (x := .tmp 27) rfl ?_; refine zT rfl (by kernel_rfl) rfl (zz (t := rwT) (z := y) rfl rfl rfl rfl (Int.natCast_nonneg i) hy) rfl ?_) | refine za rfl (qW rfl rfl rfl) rfl ?_ | refine zT rfl (by kernel_rfl) rfl (qW rfl rfl rfl) rfl ?_ | refine zD ?_ | refine zB _ rfl (by kernel_rfl) ?_ | refine zW rfl ?_ | refine zX rfl ?_ | refine zC ?_ | with_reducible refine zO ?_ | refine zI ?_ | refine zJ ?_ | (with_reducible first | refine zM ?_ | refine zN ?_ | refine zF ?_ | refine zH ?_ | refine zG ?_) | refine zP ?_
      refine zh rfl (fun h1 => ?_) (fun h1 => ?_)
      · have h2 : rwD x y = false := by simpa using h1
        rw [h2, Bool.false_and] at hq
        repeat' first | refine zL ?_ | refine zA ?_ | refine zQ [] ?_ | (refine isA ?_; refine zf rfl ?_) | (refine isL ?_; refine zV rfl (by kernel_rfl) rfl rfl ?_) | (refine zc rfl ?_; refine zU rfl (by kernel_rfl) rfl rfl ?_) | exact yJ rfl rfl (congrArg B hq) | refine zD ?_ | refine zB _ rfl (by kernel_rfl) ?_ | refine zW rfl ?_ | refine zX rfl ?_ | refine zC ?_ | with_reducible refine zO ?_ | refine zI ?_ | refine zJ ?_ | (with_reducible first | refine zM ?_ | refine zN ?_ | refine zF ?_ | refine zH ?_ | refine zG ?_) | refine zP ?_
      · have h2 : rwD x y = true := by simpa using h1
        rw [h2, Bool.true_and] at hq
        repeat' first | refine zL ?_ | refine zA ?_ | refine zQ [] ?_ | (refine isA ?_; refine zf rfl ?_) | (refine isL ?_; refine zV rfl (by kernel_rfl) rfl rfl ?_) | (refine zc rfl ?_; refine zU rfl (by kernel_rfl) rfl rfl ?_) | refine zD ?_ | refine zB _ rfl (by kernel_rfl) ?_ | refine zW rfl ?_ | refine zX rfl ?_ | refine zC ?_ | with_reducible refine zO ?_ | refine zI ?_ | refine zJ ?_ | (with_reducible first | refine zM ?_ | refine zN ?_ | refine zF ?_ | refine zH ?_ | refine zG ?_) | refine zP ?_
        refine ⟨⟨i + 1, hlt, hq⟩, by simp only; omega, ?_⟩
        exact xl rfl (by repeat' first | exact EqS.nil | refine EqS.any ?_ | refine EqS.same rfl ?_ | refine EqS.same (mG (by assumption) (by omega)) ?_)
    · have hge : i = us.length := by
        have : ¬ ((i : Int) < us.length) := by simpa using h
        omega
      subst hge
      have hq' : xj us vs = true := by rw [← hq, List.drop_length, he, List.drop_length]; rfl
      repeat' first | refine zL ?_ | refine zA ?_ | refine zQ [] ?_ | (refine isA ?_; refine zf rfl ?_) | (refine isL ?_; refine zV rfl (by kernel_rfl) rfl rfl ?_) | (refine zc rfl ?_; refine zU rfl (by kernel_rfl) rfl rfl ?_) | exact yJ rfl rfl (by rw [hq']) | refine zD ?_ | refine zB _ rfl (by kernel_rfl) ?_ | refine zW rfl ?_ | refine zX rfl ?_ | refine zC ?_ | with_reducible refine zO ?_ | refine zI ?_ | refine zJ ?_ | (with_reducible first | refine zM ?_ | refine zN ?_ | refine zF ?_ | refine zH ?_ | refine zG ?_) | refine zP ?_
end Go.Proofs.Ytojcojanokhnaaa.Ab
namespace Go.Proofs.Ytojcojanokhnaaa.Ab
open Go.RowKit
structure CutI (A B : List Rw) (w : Nat) (p : Nat × Nat) : Prop where
  lo : w - B.length ≤ p.1
  le : p.1 ≤ p.2
  hi : p.2 ≤ min A.length w
  hlo : ∀ x y, w - B.length < p.1 → A[p.1 - 1]? = some x → B[w - p.1]? = some y → leW x y
  hhi : ∀ y x, p.2 < min A.length w → B[w - 1 - p.2]? = some y → A[p.2]? = some x → leW y x
theorem cut0 {A B : List Rw} {w : Nat} (hw : w = (A.length + B.length) / 2) : CutI A B w (w - B.length, min A.length w) :=
  ⟨Nat.le_refl _, by simp only; omega, Nat.le_refl _, fun _ _ h => absurd h (Nat.lt_irrefl _), fun _ _ h => absurd h (Nat.lt_irrefl _)⟩
theorem eG {A B : List Rw} {w u : Nat} (hw : w = (A.length + B.length) / 2) (hA : Srt A) (hB : Srt B) (h : CutI A B w (u, u)) :
    u ≤ A.length ∧ u ≤ w ∧ w - u ≤ B.length ∧ yM (A.take u ++ B.take (w - u)) ++ yM (A.drop u ++ B.drop (w - u)) = yM (A ++ B) := by
  obtain ⟨h1, h2, h3, h4, h5⟩ := h
  simp only at h1 h2 h3 h4 h5
  refine ⟨by omega, by omega, by omega, mZ hA hB (by omega) (by omega) (fun x y h0 hx hy => ?_) (fun y x h0 hy hx => ?_)⟩
  · refine h4 x y ?_ hx hy
    have := (List.getElem?_eq_some_iff.1 hy).1
    omega
  · refine h5 y x ?_ ?_ hx
    · have := (List.getElem?_eq_some_iff.1 hx).1
      omega
    · rw [show w - 1 - u = w - u - 1 by omega]; exact hy
end Go.Proofs.Ytojcojanokhnaaa.Ab
namespace Go.Proofs.Ytojcojanokhnaaa.Ab
open Go.RowKit
theorem jC {v : Int} (h0 : 0 ≤ v) : uJ .u64 v 1 = v / 2 := by
  unfold uJ
  show v.fdiv 2 = v / 2
  exact Int.fdiv_eq_ediv_of_nonneg v (by omega)
theorem tH {i j : Nat} (h : i + j ≤ 1000000000000) : IntKind.i64.wrap (uJ .u64 (IntKind.u64.wrap (IntKind.i64.wrap ((i : Int) + (j : Int)))) 1) = (((i + j) / 2 : Nat) : Int) := by
  have e1 : IntKind.i64.wrap ((i : Int) + (j : Int)) = ((i + j : Nat) : Int) := by rw [IntKind.wrap_i64]; omega
  have e2 : IntKind.u64.wrap (((i + j : Nat) : Int)) = ((i + j : Nat) : Int) := by
    unfold IntKind.wrap
    simp [IntKind.bits, IntKind.signed]
    omega
  rw [e1, e2, jC (by omega), IntKind.wrap_i64]
  omega
end Go.Proofs.Ytojcojanokhnaaa.Ab
namespace Go.Proofs.Ytojcojanokhnaaa.Ab
open Go.RowKit
theorem qO {x : Rw} {B : List Rw} {u : Nat} (hB : Srt B) (hu : u ≤ B.length) (h1 : ∀ z, 0 < u → B[u - 1]? = some z → leW z x) (h2 : ∀ z, B[u]? = some z → leW x z) : B.take u ++ x :: B.drop u = yM ([x] ++ B) := by
  have h := mZ (A := [x]) (B := B) (u := 0) (v := u) (List.pairwise_singleton _ _) hB (Nat.zero_le _) hu (fun _ _ h => absurd h (Nat.lt_irrefl 0)) (fun y z h0 hy hz => by
    simp at hz
    subst hz
    exact h1 y h0 hy)
  refine wh ?_ ?_
  · have hs : Srt (B.take u ++ B.drop u) := by rw [List.take_append_drop]; exact hB
    obtain ⟨q1, q2, q3⟩ := List.pairwise_append.1 hs
    have hlo := pQ (A := B) (B := [x]) (u := u) (v := 0) hB (List.pairwise_singleton _ _) hu (fun z y h0 hz hy => by simp at hy; subst hy; exact h1 z h0 hz)
    have hhi := pQ (A := [x]) (B := B) (u := 1) (v := u) (List.pairwise_singleton _ _) hB (by simp) (fun z y _ hz hy => by simp at hz; subst hz; exact h2 y hy)
    refine List.pairwise_append.2 ⟨q1, List.pairwise_cons.2 ⟨fun y hy => hhi x (by simp) y hy, q2⟩, fun a ha c hc => ?_⟩
    rcases List.mem_cons.1 hc with rfl | hc
    · exact hlo a ha _ (by simp)
    · exact q3 a ha c hc
  · exact List.perm_middle.trans (by rw [List.take_append_drop]; exact .refl _)
theorem kz {x : Rw} {A : List Rw} {u : Nat} (hA : Srt A) (hu : u ≤ A.length) (h1 : ∀ z, 0 < u → A[u - 1]? = some z → leW z x) (h2 : ∀ z, A[u]? = some z → leW x z) : A.take u ++ x :: A.drop u = yM (A ++ [x]) := by
  rw [qO hA hu h1 h2]
  exact wh (xV _) ((ya _).trans List.perm_append_comm)
theorem jc {l : List V} {H : List Reg} {K : List Reg} (k : Nat) (ψ : List Nat) (hfix : ∀ i, i < k → ψ[i]? = some i) (hnd : ψ.Nodup) (hH : HLes ψ H ψ K) : (Exit.ret = .ret ∨ Exit.ret = .normal) ∧ Out true (.tup []) K (uB ⟨l, H, k⟩ []) ⟨l, H, k⟩ :=
  ⟨Or.inl rfl, uC (S := ⟨l, H, k⟩) ψ hfix (wb hnd hH) (sr zj) (Or.inl rfl)⟩
theorem fc {U W : List Rw} {x y : Rw} {u : Nat} (hu : U.length = u) : ((U ++ x :: y :: W).set u y).set (u + 1) x = U ++ y :: x :: W := by
  subst hu
  have h1 : (U ++ x :: y :: W).set U.length y = U ++ y :: y :: W := by rw [List.set_append_right _ _ (Nat.le_refl _), Nat.sub_self]; rfl
  rw [h1, List.set_append_right _ _ (by omega), show U.length + 1 - U.length = 1 by omega]
  rfl
def upL (P B Q : List Rw) (x : Rw) (t : Nat) : List Rw := P ++ B.take t ++ x :: (B.drop t ++ Q)
theorem cF (P B Q : List Rw) (x : Rw) (hB : Srt B) (h0 : 0 < B.length) (hl : (P ++ [x] ++ B ++ Q).length ≤ 100000000) : zy Go.Proofs.Try.prog 131 [.sl 0 0 (P ++ [x] ++ B ++ Q).length, I P.length, I (P ++ [x]).length, I (P ++ [x] ++ B).length, .fn 64 []] [rwR (P ++ [x] ++ B ++ Q)] (.tup []) [rwR (P ++ yM ([x] ++ B) ++ Q)] true := by
  have l1 : (P ++ [x]).length = P.length + 1 := by simp
  have l2 : (P ++ [x] ++ B).length = P.length + 1 + B.length := by simp; omega
  have l3 : (P ++ [x] ++ B ++ Q).length = P.length + 1 + B.length + Q.length := by simp; omega
  generalize hm : (P ++ [x]).length = m at l1 ⊢
  generalize hb : (P ++ [x] ++ B).length = b at l2 ⊢
  generalize hL : (P ++ [x] ++ B ++ Q).length = L at hl l3 ⊢
  refine zw [] Go.Proofs.Try.func131 rfl rfl ?_
  simp only [Go.Proofs.Try.ntmps131, List.length_cons, List.length_nil, Nat.reduceAdd, Nat.reduceSub, List.replicate_succ, List.replicate_zero, List.cons_append, List.nil_append]
  repeat' first | refine zL ?_ | refine zA ?_ | refine zQ [] ?_ | (refine isA ?_; refine zf rfl ?_) | (refine isL ?_; refine zV rfl (by kernel_rfl) rfl rfl ?_) | (refine zc rfl ?_; refine zU rfl (by kernel_rfl) rfl rfl ?_) | refine zD ?_ | refine zB _ rfl (by kernel_rfl) ?_ | refine zW rfl ?_ | refine zX rfl ?_ | refine zC ?_ | with_reducible refine zO ?_ | refine zI ?_ | refine zJ ?_ | (with_reducible first | refine zM ?_ | refine zN ?_ | refine zF ?_ | refine zH ?_ | refine zG ?_) | refine zP ?_
  refine zh rfl (fun _ => ?_) (fun h => absurd (of_decide_eq_false h) (by rw [IntKind.wrap_i64]; omega))
  repeat' first | refine zL ?_ | refine zA ?_ | refine zQ [] ?_ | (refine isA ?_; refine zf rfl ?_) | (refine isL ?_; refine zV rfl (by kernel_rfl) rfl rfl ?_) | (refine zc rfl ?_; refine zU rfl (by kernel_rfl) rfl rfl ?_) | refine zD ?_ | refine zB _ rfl (by kernel_rfl) ?_ | refine zW rfl ?_ | refine zX rfl ?_ | refine zC ?_ | with_reducible refine zO ?_ | refine zI ?_ | refine zJ ?_ | (with_reducible first | refine zM ?_ | refine zN ?_ | refine zF ?_ | refine zH ?_ | refine zG ?_) | refine zP ?_
  refine z9 (α := { p : Nat × Nat // p.1 ≤ p.2 ∧ p.2 ≤ B.length ∧ (∀ z, 0 < p.1 → B[p.1 - 1]? = some z → leW z x) ∧ (∀ z, B[p.2]? = some z → leW x z) }) (fun p => ⟨((.sl 0 0 L) :: (I P.length) :: (I m) :: (I b) :: (.fn 64 []) :: .any :: .any :: .any :: .any :: .any :: (I ((m + p.1.1 : Nat) : Int)) :: (I ((m + p.1.2 : Nat) : Int)) :: .any :: .any :: .any :: .any :: .any :: .any :: .any :: .any :: .any :: .any :: .any :: .any :: .any :: .any :: .any :: .any :: .any :: .any :: .any :: .any :: .any :: .any :: .any :: .any :: .any :: .any :: .any :: .any :: .any :: .any :: .any :: .any :: .any :: .any :: .any :: .any :: .any :: .any :: .any :: .any :: .any :: .any :: .any :: .any :: .any :: .any :: .any :: .any :: .any :: .any :: .any :: .any :: .any :: .any :: .any :: .any :: .any :: .any :: .any :: .any :: .any :: .any :: .any :: .any :: .any :: .any :: .any :: .any :: .any :: .any :: .any :: .any :: .any :: .any :: .any :: .any :: .any :: .any :: .any :: .any :: .any :: .any :: .any :: .any :: .any :: .any :: .any :: .any :: .any :: .any :: .any :: .any :: .any :: .any :: .any :: .any :: .any :: .any :: .any :: .any :: .any :: .any :: .any :: .any :: .any :: .any :: .any :: .any :: .any :: .any :: .any :: .any :: .any :: .any :: .any :: .any :: .any :: .any :: .any :: .any :: .any :: .any :: .any :: .any :: .any :: .any :: .any :: .any :: .any :: .any :: .any :: .any :: .any :: .any :: .any :: .any :: .any :: .any :: .any :: .any :: .any :: .any :: .any :: .any :: .any :: .any :: .any :: .any :: .any :: .any :: .any :: .any :: .any :: .any :: .any :: .any :: .any :: .any :: .any :: .any :: .any :: .any :: .any :: .any :: .any :: .any :: .any :: .any :: .any :: .any :: .any :: .any :: .any :: .any :: .any :: .any :: .any :: .any :: .any :: .any :: .any :: .any :: .any :: .any :: .any :: .any :: .any :: .any :: .any :: .any :: .any :: .any :: .any :: .any :: .any :: .any :: .any :: .any :: .any :: .any :: .any :: .any :: .any :: .any :: .any :: .any :: .any :: .any :: []), [rwR (P ++ [x] ++ B ++ Q)], 1⟩) (fun p => p.1.2 - p.1.1) ⟨(0, B.length), Nat.zero_le _, Nat.le_refl _, fun _ h => absurd h (Nat.lt_irrefl 0), fun z hz => absurd (List.getElem?_eq_some_iff.1 hz).1 (Nat.lt_irrefl _)⟩ ?_ ?_
  · exact xE 1 [0] rfl rfl yo (by decide) (.cons rfl rfl rfl rfl (zY (zE _ _)) .nil) (by
      repeat' first | exact zj | refine zZ ?_ ?_ | exact zp | exact le_refl rfl | exact zm rfl rfl | exact yC (congrArg _ (show ((m + B.length : Nat) : Int) = (b : Int) by omega)))
  · rintro ⟨⟨i, j⟩, hij, hj, hlo, hhi⟩
    simp only at hij hj hlo hhi
    repeat' first | refine zL ?_ | refine zA ?_ | refine zQ [] ?_ | (refine isA ?_; refine zf rfl ?_) | (refine isL ?_; refine zV rfl (by kernel_rfl) rfl rfl ?_) | (refine zc rfl ?_; refine zU rfl (by kernel_rfl) rfl rfl ?_) | refine zD ?_ | refine zB _ rfl (by kernel_rfl) ?_ | refine zW rfl ?_ | refine zX rfl ?_ | refine zC ?_ | with_reducible refine zO ?_ | refine zI ?_ | refine zJ ?_ | (with_reducible first | refine zM ?_ | refine zN ?_ | refine zF ?_ | refine zH ?_ | refine zG ?_) | refine zP ?_
    refine zh rfl (fun h => ?_) (fun h => ?_)
    · have hlt : i < j := by have := of_decide_eq_true h; simp only at this; omega
      obtain ⟨k, hk⟩ : ∃ k, k = (i + j) / 2 := ⟨_, rfl⟩
      have k1 : i ≤ k ∧ k < j := by omega
      have hv : IntKind.i64.wrap (uJ .u64 (IntKind.u64.wrap (IntKind.i64.wrap (((m + i : Nat) : Int) + ((m + j : Nat) : Int)))) 1) = ((m + k : Nat) : Int) := by
        rw [tH (by omega)]; omega
      obtain ⟨y, hy⟩ : ∃ z, B[k]? = some z := ⟨_, List.getElem?_eq_getElem (by omega)⟩
      have gy : (P ++ [x] ++ B ++ Q)[0 + (m + k)]? = some y := by
        rw [List.getElem?_append_left (by omega), List.getElem?_append_right (by omega), hm, show 0 + (m + k) - m = k by omega]; exact hy
      have gx : (P ++ [x] ++ B ++ Q)[0 + P.length]? = some x := by
        rw [Nat.zero_add, List.append_assoc, List.append_assoc, List.getElem?_append_right (Nat.le_refl _), Nat.sub_self]; rfl
      repeat' first | refine zL ?_ | refine zA ?_ | refine zQ [] ?_ | (refine isA ?_; refine zf rfl ?_) | (refine isL ?_; refine zV rfl (by kernel_rfl) rfl rfl ?_) | (refine zc rfl ?_; refine zU rfl (by kernel_rfl) rfl rfl ?_) | refine za rfl (wj (n := 1) rfl rfl rfl) rfl ?_ | refine zT rfl (by kernel_rfl) rfl (wj (n := 1) rfl rfl rfl) rfl ?_ | (refine yB (x := .tmp 41) ?_; refine za rfl (zo (j := ((m + k : Nat) : Int)) rfl rfl rfl (Nat.zero_le _) rfl (congrArg I hv) (Int.natCast_nonneg _) (by omega)) rfl ?_) | (refine yA (x := .tmp 41) rfl ?_; refine zT rfl (by kernel_rfl) rfl (zo (j := ((m + k : Nat) : Int)) rfl rfl rfl (Nat.zero_le _) rfl (congrArg I hv) (Int.natCast_nonneg _) (by omega)) rfl ?_) | (refine yB (x := .tmp 45) ?_; refine za rfl (zo (j := (P.length : Int)) rfl rfl rfl (Nat.zero_le _) rfl rfl (Int.natCast_nonneg _) (by omega)) rfl ?_) | (refine yA (x := .tmp 45) rfl ?_; refine zT rfl (by kernel_rfl) rfl (zo (j := (P.length : Int)) rfl rfl rfl (Nat.zero_le _) rfl rfl (Int.natCast_nonneg _) (by omega)) rfl ?_) | (refine xi (x := .tmp 43) ?_; refine za rfl (yv (T := rwT) (i := 0 + (m + k)) (z := y) rfl rfl rfl gy) rfl ?_) | (refine xh (x := .tmp 43) rfl ?_; refine zT rfl (by kernel_rfl) rfl (yv (T := rwT) (i := 0 + (m + k)) (z := y) rfl rfl rfl gy) rfl ?_) | (refine xi (x := .tmp 47) ?_; refine za rfl (yv (T := rwT) (i := 0 + P.length) (z := x) rfl rfl rfl gx) rfl ?_) | (refine xh (x := .tmp 47) rfl ?_; refine zT rfl (by kernel_rfl) rfl (yv (T := rwT) (i := 0 + P.length) (z := x) rfl rfl rfl gx) rfl ?_) | refine za rfl (wl rfl rfl (xO y x) (.cons (.same rfl) (.cons (.same rfl) .nil)) rfl) rfl ?_ | refine zT rfl (by kernel_rfl) rfl (wl rfl rfl (xO y x) (.cons (.same rfl) (.cons (.same rfl) .nil)) rfl) rfl ?_ | refine zD ?_ | refine zB _ rfl (by kernel_rfl) ?_ | refine zW rfl ?_ | refine zX rfl ?_ | refine zC ?_ | with_reducible refine zO ?_ | refine zI ?_ | refine zJ ?_ | (with_reducible first | refine zM ?_ | refine zN ?_ | refine zF ?_ | refine zH ?_ | refine zG ?_) | refine zP ?_
      refine zh rfl (fun p => ?_) (fun p => ?_)
      · have q := vB (xg.1 (of_decide_eq_true p))
        repeat' first | refine zL ?_ | refine zA ?_ | refine zQ [] ?_ | (refine isA ?_; refine zf rfl ?_) | (refine isL ?_; refine zV rfl (by kernel_rfl) rfl rfl ?_) | (refine zc rfl ?_; refine zU rfl (by kernel_rfl) rfl rfl ?_) | refine zD ?_ | refine zB _ rfl (by kernel_rfl) ?_ | refine zW rfl ?_ | refine zX rfl ?_ | refine zC ?_ | with_reducible refine zO ?_ | refine zI ?_ | refine zJ ?_ | (with_reducible first | refine zM ?_ | refine zN ?_ | refine zF ?_ | refine zH ?_ | refine zG ?_) | refine zP ?_
        refine ⟨⟨(k + 1, j), by simp only; omega, hj, fun z _ hz => by simp only [Nat.add_sub_cancel] at hz; rw [hy] at hz; cases hz; exact q, hhi⟩, by simp only; omega, ?_⟩
        exact xE 1 [0] rfl rfl yo (by decide) (.cons rfl rfl rfl rfl (zY (zE _ _)) .nil) (by
          repeat' first | exact zj | refine zZ ?_ ?_ | exact zp | exact le_refl rfl | exact zm rfl rfl | exact yC (congrArg _ (show ((m + (k + 1) : Nat) : Int) = IntKind.i64.wrap (IntKind.i64.wrap (uJ .u64 (IntKind.u64.wrap (IntKind.i64.wrap (((m + i : Nat) : Int) + ((m + j : Nat) : Int)))) 1) + 1) by rw [hv, IntKind.wrap_i64]; omega)))
      · have q : leW x y := Classical.byContradiction fun hn => absurd (xg.2 hn) (of_decide_eq_false p)
        repeat' first | refine zL ?_ | refine zA ?_ | refine zQ [] ?_ | (refine isA ?_; refine zf rfl ?_) | (refine isL ?_; refine zV rfl (by kernel_rfl) rfl rfl ?_) | (refine zc rfl ?_; refine zU rfl (by kernel_rfl) rfl rfl ?_) | refine zD ?_ | refine zB _ rfl (by kernel_rfl) ?_ | refine zW rfl ?_ | refine zX rfl ?_ | refine zC ?_ | with_reducible refine zO ?_ | refine zI ?_ | refine zJ ?_ | (with_reducible first | refine zM ?_ | refine zN ?_ | refine zF ?_ | refine zH ?_ | refine zG ?_) | refine zP ?_
        refine ⟨⟨(i, k), k1.1, by simp only; omega, hlo, fun z hz => by rw [hy] at hz; cases hz; exact q⟩, by simp only; omega, ?_⟩
        exact xE 1 [0] rfl rfl yo (by decide) (.cons rfl rfl rfl rfl (zY (zE _ _)) .nil) (by
          repeat' first | exact zj | refine zZ ?_ ?_ | exact zp | exact le_refl rfl | exact zm rfl rfl | exact yC (congrArg _ hv.symm))
    · have e : i = j := by have := of_decide_eq_false h; simp only at this; omega
      subst e
      have hfin := qO hB hj hlo hhi
      have e1 : IntKind.i64.wrap (((m + i : Nat) : Int) - 1) = ((P.length + i : Nat) : Int) := by rw [IntKind.wrap_i64]; omega
      repeat' first | refine zL ?_ | refine zA ?_ | refine zQ [] ?_ | (refine isA ?_; refine zf rfl ?_) | (refine isL ?_; refine zV rfl (by kernel_rfl) rfl rfl ?_) | (refine zc rfl ?_; refine zU rfl (by kernel_rfl) rfl rfl ?_) | refine zD ?_ | refine zB _ rfl (by kernel_rfl) ?_ | refine zW rfl ?_ | refine zX rfl ?_ | refine zC ?_ | with_reducible refine zO ?_ | refine zI ?_ | refine zJ ?_ | (with_reducible first | refine zM ?_ | refine zN ?_ | refine zF ?_ | refine zH ?_ | refine zG ?_) | refine zP ?_
      refine z9 (α := { t : Nat // t ≤ i }) (fun t => ⟨((.sl 0 0 L) :: .any :: .any :: .any :: .any :: .any :: .any :: .any :: .any :: .any :: (I ((m + i : Nat) : Int)) :: .any :: .any :: (I ((P.length + t.1 : Nat) : Int)) :: .any :: .any :: .any :: .any :: .any :: .any :: .any :: .any :: .any :: .any :: .any :: .any :: .any :: .any :: .any :: .any :: .any :: .any :: .any :: .any :: .any :: .any :: .any :: .any :: .any :: .any :: .any :: .any :: .any :: .any :: .any :: .any :: .any :: .any :: .any :: .any :: .any :: .any :: .any :: .any :: .any :: .any :: .any :: .any :: .any :: .any :: .any :: .any :: .any :: .any :: .any :: .any :: .any :: .any :: .any :: .any :: .any :: .any :: .any :: .any :: .any :: .any :: .any :: .any :: .any :: .any :: .any :: .any :: .any :: .any :: .any :: .any :: .any :: .any :: .any :: .any :: .any :: .any :: .any :: .any :: .any :: .any :: .any :: .any :: .any :: .any :: .any :: .any :: .any :: .any :: .any :: .any :: .any :: .any :: .any :: .any :: .any :: .any :: .any :: .any :: .any :: .any :: .any :: .any :: .any :: .any :: .any :: .any :: .any :: .any :: .any :: .any :: .any :: .any :: .any :: .any :: .any :: .any :: .any :: .any :: .any :: .any :: .any :: .any :: .any :: .any :: .any :: .any :: .any :: .any :: .any :: .any :: .any :: .any :: .any :: .any :: .any :: .any :: .any :: .any :: .any :: .any :: .any :: .any :: .any :: .any :: .any :: .any :: .any :: .any :: .any :: .any :: .any :: .any :: .any :: .any :: .any :: .any :: .any :: .any :: .any :: .any :: .any :: .any :: .any :: .any :: .any :: .any :: .any :: .any :: .any :: .any :: .any :: .any :: .any :: .any :: .any :: .any :: .any :: .any :: .any :: .any :: .any :: .any :: .any :: .any :: .any :: .any :: .any :: .any :: .any :: .any :: .any :: .any :: .any :: .any :: .any :: .any :: .any :: .any :: .any :: .any :: .any :: .any :: .any :: .any :: []), [rwR (upL P B Q x t.1)], 1⟩) (fun t => i - t.1) ⟨0, Nat.zero_le _⟩ ?_ ?_
      · exact xE 1 [0] rfl rfl yo (by decide) (.cons rfl rfl rfl rfl (yd (congrArg rwT.flat (by simp [upL])) (zE _ _)) .nil) (by repeat' first | exact zj | refine zZ ?_ ?_ | exact zp | exact le_refl rfl | exact zm rfl rfl | exact zu rfl)
      · rintro ⟨t, ht⟩
        repeat' first | refine zL ?_ | refine zA ?_ | refine zQ [] ?_ | (refine isA ?_; refine zf rfl ?_) | (refine isL ?_; refine zV rfl (by kernel_rfl) rfl rfl ?_) | (refine zc rfl ?_; refine zU rfl (by kernel_rfl) rfl rfl ?_) | refine zD ?_ | refine zB _ rfl (by kernel_rfl) ?_ | refine zW rfl ?_ | refine zX rfl ?_ | refine zC ?_ | with_reducible refine zO ?_ | refine zI ?_ | refine zJ ?_ | (with_reducible first | refine zM ?_ | refine zN ?_ | refine zF ?_ | refine zH ?_ | refine zG ?_) | refine zP ?_
        refine zh rfl (fun q => ?_) (fun q => ?_)
        · have hlt : t < i := by have := of_decide_eq_true q; simp only [e1] at this; omega
          obtain ⟨y, hy⟩ : ∃ z, B[t]? = some z := ⟨_, List.getElem?_eq_getElem (by omega)⟩
          have hL1 : upL P B Q x t = (P ++ B.take t) ++ x :: y :: (B.drop (t + 1) ++ Q) := by rw [upL, yI hy]; rfl
          have hL2 : upL P B Q x (t + 1) = (P ++ B.take t) ++ y :: x :: (B.drop (t + 1) ++ Q) := by rw [upL, yw hy]; simp
          have hu : (P ++ B.take t).length = P.length + t := by simp; omega
          have e2 : IntKind.i64.wrap (((P.length + t : Nat) : Int) + 1) = ((P.length + t + 1 : Nat) : Int) := by rw [IntKind.wrap_i64]; omega
          have g0 : (upL P B Q x t)[0 + (P.length + t)]? = some x := by rw [hL1, List.getElem?_append_right (by omega), hu, show 0 + (P.length + t) - (P.length + t) = 0 by omega]; rfl
          have g1 : (upL P B Q x t)[0 + (P.length + t + 1)]? = some y := by rw [hL1, List.getElem?_append_right (by omega), hu, show 0 + (P.length + t + 1) - (P.length + t) = 1 by omega]; rfl
          repeat' first | refine zL ?_ | refine zA ?_ | (refine isA ?_; refine zf rfl ?_) | (refine isL ?_; refine zV rfl (by kernel_rfl) rfl rfl ?_) | (refine zc rfl ?_; refine zU rfl (by kernel_rfl) rfl rfl ?_) | refine zD ?_ | refine zB _ rfl (by kernel_rfl) ?_ | refine zW rfl ?_ | refine zX rfl ?_ | refine zC ?_ | with_reducible refine zO ?_ | refine zI ?_ | refine zJ ?_ | (with_reducible first | refine zM ?_ | refine zN ?_ | refine zF ?_ | refine zH ?_ | refine zG ?_) | refine zP ?_
          refine pX [15, 17] 18 rfl ?_
          refine yg 0 rfl (by kernel_rfl) rfl (fun _ => rfl) rfl ?_
          refine yg 1 rfl (by kernel_rfl) rfl (fun _ => rfl) rfl ?_
          refine yg 2 rfl (by kernel_rfl) rfl (fun _ => rfl) rfl ?_
          refine yg 3 rfl (by kernel_rfl) rfl (fun _ => rfl) rfl ?_
          refine yg 4 rfl (by kernel_rfl) rfl (fun _ => rfl) rfl ?_
          refine yg 5 rfl (by kernel_rfl) rfl (fun _ => rfl) rfl ?_
          refine yg 6 rfl (by kernel_rfl) rfl (fun _ => rfl) rfl ?_
          refine yg 7 rfl (by kernel_rfl) rfl (fun _ => rfl) rfl ?_
          refine xe 8 rfl (by kernel_rfl) rfl (zo (j := ((P.length + t + 1 : Nat) : Int)) rfl rfl rfl (Nat.zero_le _) rfl (congrArg I e2) (Int.natCast_nonneg _) (by omega)) rfl ?_
          refine xe 9 rfl (by kernel_rfl) rfl (yv (T := rwT) (i := 0 + (P.length + t + 1)) (z := y) rfl rfl rfl g1) rfl ?_
          refine yg 10 rfl (by kernel_rfl) rfl (fun _ => rfl) rfl ?_
          refine yg 11 rfl (by kernel_rfl) rfl (fun _ => rfl) rfl ?_
          refine xe 12 rfl (by kernel_rfl) rfl (zo (j := ((P.length + t : Nat) : Int)) rfl rfl rfl (Nat.zero_le _) rfl rfl (Int.natCast_nonneg _) (by omega)) rfl ?_
          refine xe 13 rfl (by kernel_rfl) rfl (yv (T := rwT) (i := 0 + (P.length + t)) (z := x) rfl rfl rfl g0) rfl ?_
          refine xe 14 rfl (by kernel_rfl) rfl (zo (j := ((P.length + t : Nat) : Int)) rfl rfl rfl (Nat.zero_le _) rfl rfl (Int.natCast_nonneg _) (by omega)) rfl ?_
          refine tn 15 rfl (by kernel_rfl) rfl rfl (vt (T := rwT) (i := 0 + (P.length + t)) (z := y) rfl rfl rfl rfl rfl (List.getElem?_eq_some_iff.1 g0).1) rfl ?_
          refine xe 16 rfl (by kernel_rfl) rfl (zo (j := ((P.length + t + 1 : Nat) : Int)) rfl rfl rfl (Nat.zero_le _) rfl (congrArg I e2) (Int.natCast_nonneg _) (by omega)) rfl ?_
          refine tn 17 rfl (by kernel_rfl) rfl rfl (vt (T := rwT) (i := 0 + (P.length + t + 1)) (z := x) rfl rfl rfl rfl rfl (by rw [List.length_set]; exact (List.getElem?_eq_some_iff.1 g1).1)) rfl ?_
          refine u7 (by kernel_rfl) ?_
          repeat' first | refine zL ?_ | refine zA ?_ | refine zQ [] ?_ | (refine isA ?_; refine zf rfl ?_) | (refine isL ?_; refine zV rfl (by kernel_rfl) rfl rfl ?_) | (refine zc rfl ?_; refine zU rfl (by kernel_rfl) rfl rfl ?_) | refine zD ?_ | refine zB _ rfl (by kernel_rfl) ?_ | refine zW rfl ?_ | refine zX rfl ?_ | refine zC ?_ | with_reducible refine zO ?_ | refine zI ?_ | refine zJ ?_ | (with_reducible first | refine zM ?_ | refine zN ?_ | refine zF ?_ | refine zH ?_ | refine zG ?_) | refine zP ?_
          refine ⟨⟨t + 1, hlt⟩, by simp only; omega, ?_⟩
          exact xE 1 [0] rfl rfl yo (by decide) (.cons rfl rfl rfl rfl (yd (show rwT.flat (((upL P B Q x t).set (0 + (P.length + t)) y).set (0 + (P.length + t + 1)) x) = rwT.flat (upL P B Q x (t + 1)) by rw [hL1, Nat.zero_add, Nat.zero_add, fc hu, hL2]) (zE _ _)) .nil) (by
            repeat' first | exact zj | refine zZ ?_ ?_ | exact zp | exact le_refl rfl | exact zm rfl rfl | exact yC (congrArg _ (show ((P.length + (t + 1) : Nat) : Int) = IntKind.i64.wrap (((P.length + t : Nat) : Int) + 1) by rw [e2]; omega)))
        · have hge : t = i := by have := of_decide_eq_false q; simp only [e1] at this; omega
          subst hge
          have e3 : upL P B Q x t = P ++ yM ([x] ++ B) ++ Q := by rw [← hfin, upL]; simp
          repeat' first | refine zL ?_ | refine zA ?_ | refine zQ [] ?_ | (refine isA ?_; refine zf rfl ?_) | (refine isL ?_; refine zV rfl (by kernel_rfl) rfl rfl ?_) | (refine zc rfl ?_; refine zU rfl (by kernel_rfl) rfl rfl ?_) | exact jc 1 [0] yo (by decide) (.cons rfl rfl rfl rfl (yd (congrArg rwT.flat e3) (zE _ _)) .nil) | refine zD ?_ | refine zB _ rfl (by kernel_rfl) ?_ | refine zW rfl ?_ | refine zX rfl ?_ | refine zC ?_ | with_reducible refine zO ?_ | refine zI ?_ | refine zJ ?_ | (with_reducible first | refine zM ?_ | refine zN ?_ | refine zF ?_ | refine zH ?_ | refine zG ?_) | refine zP ?_
end Go.Proofs.Ytojcojanokhnaaa.Ab
namespace Go.Proofs.Ytojcojanokhnaaa.Ab
open Go.RowKit
theorem cE (P A Q : List Rw) (x : Rw) (hA : Srt A) (h0 : 2 ≤ A.length) (hl : (P ++ A ++ [x] ++ Q).length ≤ 100000000) : zy Go.Proofs.Try.prog 131 [.sl 0 0 (P ++ A ++ [x] ++ Q).length, I P.length, I (P ++ A).length, I (P ++ A ++ [x]).length, .fn 64 []] [rwR (P ++ A ++ [x] ++ Q)] (.tup []) [rwR (P ++ yM (A ++ [x]) ++ Q)] true := by
  have l1 : (P ++ A).length = P.length + A.length := by simp
  have l2 : (P ++ A ++ [x]).length = P.length + A.length + 1 := by simp; omega
  have l3 : (P ++ A ++ [x] ++ Q).length = P.length + A.length + 1 + Q.length := by simp; omega
  generalize hm : (P ++ A).length = m at l1 ⊢
  generalize hb : (P ++ A ++ [x]).length = b at l2 ⊢
  generalize hL : (P ++ A ++ [x] ++ Q).length = L at hl l3 ⊢
  refine zw [] Go.Proofs.Try.func131 rfl rfl ?_
  simp only [Go.Proofs.Try.ntmps131, List.length_cons, List.length_nil, Nat.reduceAdd, Nat.reduceSub, List.replicate_succ, List.replicate_zero, List.cons_append, List.nil_append]
  repeat' first | refine zL ?_ | refine zA ?_ | refine zQ [] ?_ | (refine isA ?_; refine zf rfl ?_) | (refine isL ?_; refine zV rfl (by kernel_rfl) rfl rfl ?_) | (refine zc rfl ?_; refine zU rfl (by kernel_rfl) rfl rfl ?_) | refine zD ?_ | refine zB _ rfl (by kernel_rfl) ?_ | refine zW rfl ?_ | refine zX rfl ?_ | refine zC ?_ | with_reducible refine zO ?_ | refine zI ?_ | refine zJ ?_ | (with_reducible first | refine zM ?_ | refine zN ?_ | refine zF ?_ | refine zH ?_ | refine zG ?_) | refine zP ?_
  refine zh rfl (fun h => absurd (of_decide_eq_true h) (by rw [IntKind.wrap_i64]; omega)) (fun _ => ?_)
  repeat' first | refine zL ?_ | refine zA ?_ | refine zQ [] ?_ | (refine isA ?_; refine zf rfl ?_) | (refine isL ?_; refine zV rfl (by kernel_rfl) rfl rfl ?_) | (refine zc rfl ?_; refine zU rfl (by kernel_rfl) rfl rfl ?_) | refine zD ?_ | refine zB _ rfl (by kernel_rfl) ?_ | refine zW rfl ?_ | refine zX rfl ?_ | refine zC ?_ | with_reducible refine zO ?_ | refine zI ?_ | refine zJ ?_ | (with_reducible first | refine zM ?_ | refine zN ?_ | refine zF ?_ | refine zH ?_ | refine zG ?_) | refine zP ?_
  refine zh rfl (fun _ => ?_) (fun h => absurd (of_decide_eq_false h) (by rw [IntKind.wrap_i64]; omega))
  repeat' first | refine zL ?_ | refine zA ?_ | refine zQ [] ?_ | (refine isA ?_; refine zf rfl ?_) | (refine isL ?_; refine zV rfl (by kernel_rfl) rfl rfl ?_) | (refine zc rfl ?_; refine zU rfl (by kernel_rfl) rfl rfl ?_) | refine zD ?_ | refine zB _ rfl (by kernel_rfl) ?_ | refine zW rfl ?_ | refine zX rfl ?_ | refine zC ?_ | with_reducible refine zO ?_ | refine zI ?_ | refine zJ ?_ | (with_reducible first | refine zM ?_ | refine zN ?_ | refine zF ?_ | refine zH ?_ | refine zG ?_) | refine zP ?_
  refine z9 (α := { p : Nat × Nat // p.1 ≤ p.2 ∧ p.2 ≤ A.length ∧ (∀ z, 0 < p.1 → A[p.1 - 1]? = some z → leW z x) ∧ (∀ z, A[p.2]? = some z → leW x z) }) (fun p => ⟨((.sl 0 0 L) :: (I P.length) :: (I m) :: (I b) :: (.fn 64 []) :: .any :: .any :: .any :: .any :: .any :: .any :: .any :: .any :: .any :: (I ((P.length + p.1.1 : Nat) : Int)) :: (I ((P.length + p.1.2 : Nat) : Int)) :: .any :: .any :: .any :: .any :: .any :: .any :: .any :: .any :: .any :: .any :: .any :: .any :: .any :: .any :: .any :: .any :: .any :: .any :: .any :: .any :: .any :: .any :: .any :: .any :: .any :: .any :: .any :: .any :: .any :: .any :: .any :: .any :: .any :: .any :: .any :: .any :: .any :: .any :: .any :: .any :: .any :: .any :: .any :: .any :: .any :: .any :: .any :: .any :: .any :: .any :: .any :: .any :: .any :: .any :: .any :: .any :: .any :: .any :: .any :: .any :: .any :: .any :: .any :: .any :: .any :: .any :: .any :: .any :: .any :: .any :: .any :: .any :: .any :: .any :: .any :: .any :: .any :: .any :: .any :: .any :: .any :: .any :: .any :: .any :: .any :: .any :: .any :: .any :: .any :: .any :: .any :: .any :: .any :: .any :: .any :: .any :: .any :: .any :: .any :: .any :: .any :: .any :: .any :: .any :: .any :: .any :: .any :: .any :: .any :: .any :: .any :: .any :: .any :: .any :: .any :: .any :: .any :: .any :: .any :: .any :: .any :: .any :: .any :: .any :: .any :: .any :: .any :: .any :: .any :: .any :: .any :: .any :: .any :: .any :: .any :: .any :: .any :: .any :: .any :: .any :: .any :: .any :: .any :: .any :: .any :: .any :: .any :: .any :: .any :: .any :: .any :: .any :: .any :: .any :: .any :: .any :: .any :: .any :: .any :: .any :: .any :: .any :: .any :: .any :: .any :: .any :: .any :: .any :: .any :: .any :: .any :: .any :: .any :: .any :: .any :: .any :: .any :: .any :: .any :: .any :: .any :: .any :: .any :: .any :: .any :: .any :: .any :: .any :: .any :: .any :: .any :: .any :: .any :: .any :: .any :: .any :: .any :: .any :: .any :: .any :: .any :: .any :: .any :: .any :: []), [rwR (P ++ A ++ [x] ++ Q)], 1⟩) (fun p => p.1.2 - p.1.1) ⟨(0, A.length), Nat.zero_le _, Nat.le_refl _, fun _ h => absurd h (Nat.lt_irrefl 0), fun z hz => absurd (List.getElem?_eq_some_iff.1 hz).1 (Nat.lt_irrefl _)⟩ ?_ ?_
  · exact xE 1 [0] rfl rfl yo (by decide) (.cons rfl rfl rfl rfl (zY (zE _ _)) .nil) (by
          repeat' first | exact zj | refine zZ ?_ ?_ | exact zp | exact le_refl rfl | exact zm rfl rfl | exact yC (congrArg _ (show ((P.length + A.length : Nat) : Int) = (m : Int) by omega)))
  · rintro ⟨⟨i, j⟩, hij, hj, hlo, hhi⟩
    simp only at hij hj hlo hhi
    repeat' first | refine zL ?_ | refine zA ?_ | refine zQ [] ?_ | (refine isA ?_; refine zf rfl ?_) | (refine isL ?_; refine zV rfl (by kernel_rfl) rfl rfl ?_) | (refine zc rfl ?_; refine zU rfl (by kernel_rfl) rfl rfl ?_) | refine zD ?_ | refine zB _ rfl (by kernel_rfl) ?_ | refine zW rfl ?_ | refine zX rfl ?_ | refine zC ?_ | with_reducible refine zO ?_ | refine zI ?_ | refine zJ ?_ | (with_reducible first | refine zM ?_ | refine zN ?_ | refine zF ?_ | refine zH ?_ | refine zG ?_) | refine zP ?_
    refine zh rfl (fun h => ?_) (fun h => ?_)
    · have hlt : i < j := by have := of_decide_eq_true h; simp only at this; omega
      obtain ⟨k, hk⟩ : ∃ k, k = (i + j) / 2 := ⟨_, rfl⟩
      have k1 : i ≤ k ∧ k < j := by omega
      have hv : IntKind.i64.wrap (uJ .u64 (IntKind.u64.wrap (IntKind.i64.wrap (((P.length + i : Nat) : Int) + ((P.length + j : Nat) : Int)))) 1) = ((P.length + k : Nat) : Int) := by
        rw [tH (by omega)]; omega
      obtain ⟨y, hy⟩ : ∃ z, A[k]? = some z := ⟨_, List.getElem?_eq_getElem (by omega)⟩
      have gy : (P ++ A ++ [x] ++ Q)[0 + (P.length + k)]? = some y := by
        rw [List.append_assoc, List.getElem?_append_left (by omega), List.getElem?_append_right (by omega), show 0 + (P.length + k) - P.length = k by omega]; exact hy
      have gx : (P ++ A ++ [x] ++ Q)[0 + m]? = some x := by
        rw [List.append_assoc, List.getElem?_append_right (by omega), hm, show 0 + m - m = 0 by omega]; rfl
      repeat' first | refine zL ?_ | refine zA ?_ | refine zQ [] ?_ | (refine isA ?_; refine zf rfl ?_) | (refine isL ?_; refine zV rfl (by kernel_rfl) rfl rfl ?_) | (refine zc rfl ?_; refine zU rfl (by kernel_rfl) rfl rfl ?_) | refine za rfl (wj (n := 1) rfl rfl rfl) rfl ?_ | refine zT rfl (by kernel_rfl) rfl (wj (n := 1) rfl rfl rfl) rfl ?_ | (refine yB (x := .tmp 97) ?_; refine za rfl (zo (j := ((P.length + k : Nat) : Int)) rfl rfl rfl (Nat.zero_le _) rfl (congrArg I hv) (Int.natCast_nonneg _) (by omega)) rfl ?_) | (refine yA (x := .tmp 97) rfl ?_; refine zT rfl (by kernel_rfl) rfl (zo (j := ((P.length + k : Nat) : Int)) rfl rfl rfl (Nat.zero_le _) rfl (congrArg I hv) (Int.natCast_nonneg _) (by omega)) rfl ?_) | (refine yB (x := .tmp 93) ?_; refine za rfl (zo (j := (m : Int)) rfl rfl rfl (Nat.zero_le _) rfl rfl (Int.natCast_nonneg _) (by omega)) rfl ?_) | (refine yA (x := .tmp 93) rfl ?_; refine zT rfl (by kernel_rfl) rfl (zo (j := (m : Int)) rfl rfl rfl (Nat.zero_le _) rfl rfl (Int.natCast_nonneg _) (by omega)) rfl ?_) | (refine xi (x := .tmp 99) ?_; refine za rfl (yv (T := rwT) (i := 0 + (P.length + k)) (z := y) rfl rfl rfl gy) rfl ?_) | (refine xh (x := .tmp 99) rfl ?_; refine zT rfl (by kernel_rfl) rfl (yv (T := rwT) (i := 0 + (P.length + k)) (z := y) rfl rfl rfl gy) rfl ?_) | (refine xi (x := .tmp 95) ?_; refine za rfl (yv (T := rwT) (i := 0 + m) (z := x) rfl rfl rfl gx) rfl ?_) | (refine xh (x := .tmp 95) rfl ?_; refine zT rfl (by kernel_rfl) rfl (yv (T := rwT) (i := 0 + m) (z := x) rfl rfl rfl gx) rfl ?_) | refine za rfl (wl rfl rfl (xO x y) (.cons (.same rfl) (.cons (.same rfl) .nil)) rfl) rfl ?_ | refine zT rfl (by kernel_rfl) rfl (wl rfl rfl (xO x y) (.cons (.same rfl) (.cons (.same rfl) .nil)) rfl) rfl ?_ | refine zD ?_ | refine zB _ rfl (by kernel_rfl) ?_ | refine zW rfl ?_ | refine zX rfl ?_ | refine zC ?_ | with_reducible refine zO ?_ | refine zI ?_ | refine zJ ?_ | (with_reducible first | refine zM ?_ | refine zN ?_ | refine zF ?_ | refine zH ?_ | refine zG ?_) | refine zP ?_
      refine zh rfl (fun p => ?_) (fun p => ?_)
      · have p' : decide (yu x y < 0) = false := by simpa using p
        have q : leW y x := Classical.byContradiction fun hn => absurd (xg.2 hn) (of_decide_eq_false p')
        repeat' first | refine zL ?_ | refine zA ?_ | refine zQ [] ?_ | (refine isA ?_; refine zf rfl ?_) | (refine isL ?_; refine zV rfl (by kernel_rfl) rfl rfl ?_) | (refine zc rfl ?_; refine zU rfl (by kernel_rfl) rfl rfl ?_) | refine zD ?_ | refine zB _ rfl (by kernel_rfl) ?_ | refine zW rfl ?_ | refine zX rfl ?_ | refine zC ?_ | with_reducible refine zO ?_ | refine zI ?_ | refine zJ ?_ | (with_reducible first | refine zM ?_ | refine zN ?_ | refine zF ?_ | refine zH ?_ | refine zG ?_) | refine zP ?_
        refine ⟨⟨(k + 1, j), by simp only; omega, hj, fun z _ hz => by simp only [Nat.add_sub_cancel] at hz; rw [hy] at hz; cases hz; exact q, hhi⟩, by simp only; omega, ?_⟩
        exact xE 1 [0] rfl rfl yo (by decide) (.cons rfl rfl rfl rfl (zY (zE _ _)) .nil) (by
          repeat' first | exact zj | refine zZ ?_ ?_ | exact zp | exact le_refl rfl | exact zm rfl rfl | exact yC (congrArg _ (show ((P.length + (k + 1) : Nat) : Int) = IntKind.i64.wrap (IntKind.i64.wrap (uJ .u64 (IntKind.u64.wrap (IntKind.i64.wrap (((P.length + i : Nat) : Int) + ((P.length + j : Nat) : Int)))) 1) + 1) by rw [hv, IntKind.wrap_i64]; omega)))
      · have p' : decide (yu x y < 0) = true := by simpa using p
        have q := vB (xg.1 (of_decide_eq_true p'))
        repeat' first | refine zL ?_ | refine zA ?_ | refine zQ [] ?_ | (refine isA ?_; refine zf rfl ?_) | (refine isL ?_; refine zV rfl (by kernel_rfl) rfl rfl ?_) | (refine zc rfl ?_; refine zU rfl (by kernel_rfl) rfl rfl ?_) | refine zD ?_ | refine zB _ rfl (by kernel_rfl) ?_ | refine zW rfl ?_ | refine zX rfl ?_ | refine zC ?_ | with_reducible refine zO ?_ | refine zI ?_ | refine zJ ?_ | (with_reducible first | refine zM ?_ | refine zN ?_ | refine zF ?_ | refine zH ?_ | refine zG ?_) | refine zP ?_
        refine ⟨⟨(i, k), k1.1, by simp only; omega, hlo, fun z hz => by rw [hy] at hz; cases hz; exact q⟩, by simp only; omega, ?_⟩
        exact xE 1 [0] rfl rfl yo (by decide) (.cons rfl rfl rfl rfl (zY (zE _ _)) .nil) (by
          repeat' first | exact zj | refine zZ ?_ ?_ | exact zp | exact le_refl rfl | exact zm rfl rfl | exact yC (congrArg _ hv.symm))
    · have e : i = j := by have := of_decide_eq_false h; simp only at this; omega
      subst e
      have hfin := kz hA hj hlo hhi
      repeat' first | refine zL ?_ | refine zA ?_ | refine zQ [] ?_ | (refine isA ?_; refine zf rfl ?_) | (refine isL ?_; refine zV rfl (by kernel_rfl) rfl rfl ?_) | (refine zc rfl ?_; refine zU rfl (by kernel_rfl) rfl rfl ?_) | refine zD ?_ | refine zB _ rfl (by kernel_rfl) ?_ | refine zW rfl ?_ | refine zX rfl ?_ | refine zC ?_ | with_reducible refine zO ?_ | refine zI ?_ | refine zJ ?_ | (with_reducible first | refine zM ?_ | refine zN ?_ | refine zF ?_ | refine zH ?_ | refine zG ?_) | refine zP ?_
      refine z9 (α := { t : Nat // i ≤ t ∧ t ≤ A.length }) (fun t => ⟨((.sl 0 0 L) :: .any :: .any :: .any :: .any :: .any :: .any :: .any :: .any :: .any :: .any :: .any :: .any :: .any :: (I ((P.length + i : Nat) : Int)) :: .any :: .any :: (I ((P.length + t.1 : Nat) : Int)) :: .any :: .any :: .any :: .any :: .any :: .any :: .any :: .any :: .any :: .any :: .any :: .any :: .any :: .any :: .any :: .any :: .any :: .any :: .any :: .any :: .any :: .any :: .any :: .any :: .any :: .any :: .any :: .any :: .any :: .any :: .any :: .any :: .any :: .any :: .any :: .any :: .any :: .any :: .any :: .any :: .any :: .any :: .any :: .any :: .any :: .any :: .any :: .any :: .any :: .any :: .any :: .any :: .any :: .any :: .any :: .any :: .any :: .any :: .any :: .any :: .any :: .any :: .any :: .any :: .any :: .any :: .any :: .any :: .any :: .any :: .any :: .any :: .any :: .any :: .any :: .any :: .any :: .any :: .any :: .any :: .any :: .any :: .any :: .any :: .any :: .any :: .any :: .any :: .any :: .any :: .any :: .any :: .any :: .any :: .any :: .any :: .any :: .any :: .any :: .any :: .any :: .any :: .any :: .any :: .any :: .any :: .any :: .any :: .any :: .any :: .any :: .any :: .any :: .any :: .any :: .any :: .any :: .any :: .any :: .any :: .any :: .any :: .any :: .any :: .any :: .any :: .any :: .any :: .any :: .any :: .any :: .any :: .any :: .any :: .any :: .any :: .any :: .any :: .any :: .any :: .any :: .any :: .any :: .any :: .any :: .any :: .any :: .any :: .any :: .any :: .any :: .any :: .any :: .any :: .any :: .any :: .any :: .any :: .any :: .any :: .any :: .any :: .any :: .any :: .any :: .any :: .any :: .any :: .any :: .any :: .any :: .any :: .any :: .any :: .any :: .any :: .any :: .any :: .any :: .any :: .any :: .any :: .any :: .any :: .any :: .any :: .any :: .any :: .any :: .any :: .any :: .any :: .any :: .any :: .any :: .any :: .any :: .any :: .any :: .any :: .any :: .any :: []), [rwR (upL P A Q x t.1)], 1⟩) (fun t => t.1) ⟨A.length, hj, Nat.le_refl _⟩ ?_ ?_
      · exact xE 1 [0] rfl rfl yo (by decide) (.cons rfl rfl rfl rfl (yd (congrArg rwT.flat (by simp [upL])) (zE _ _)) .nil) (by
          repeat' first | exact zj | refine zZ ?_ ?_ | exact zp | exact le_refl rfl | exact zm rfl rfl | exact yC (congrArg _ (show ((P.length + A.length : Nat) : Int) = (m : Int) by omega)))
      · rintro ⟨t', ht1, ht2⟩
        repeat' first | refine zL ?_ | refine zA ?_ | refine zQ [] ?_ | (refine isA ?_; refine zf rfl ?_) | (refine isL ?_; refine zV rfl (by kernel_rfl) rfl rfl ?_) | (refine zc rfl ?_; refine zU rfl (by kernel_rfl) rfl rfl ?_) | refine zD ?_ | refine zB _ rfl (by kernel_rfl) ?_ | refine zW rfl ?_ | refine zX rfl ?_ | refine zC ?_ | with_reducible refine zO ?_ | refine zI ?_ | refine zJ ?_ | (with_reducible first | refine zM ?_ | refine zN ?_ | refine zF ?_ | refine zH ?_ | refine zG ?_) | refine zP ?_
        refine zh rfl (fun q => ?_) (fun q => ?_)
        · have hlt : i < t' := by have := of_decide_eq_true q; simp only at this; omega
          obtain ⟨t, rfl⟩ : ∃ t, t' = t + 1 := ⟨t' - 1, by omega⟩
          obtain ⟨y, hy⟩ : ∃ z, A[t]? = some z := ⟨_, List.getElem?_eq_getElem (by omega)⟩
          have hL1 : upL P A Q x (t + 1) = (P ++ A.take t) ++ y :: x :: (A.drop (t + 1) ++ Q) := by rw [upL, yw hy]; simp
          have hL2 : upL P A Q x t = (P ++ A.take t) ++ x :: y :: (A.drop (t + 1) ++ Q) := by rw [upL, yI hy]; rfl
          have hu : (P ++ A.take t).length = P.length + t := by simp; omega
          have ew : IntKind.i64.wrap (((P.length + (t + 1) : Nat) : Int) - 1) = ((P.length + t : Nat) : Int) := by rw [IntKind.wrap_i64]; omega
          have g0 : (upL P A Q x (t + 1))[0 + (P.length + t)]? = some y := by rw [hL1, List.getElem?_append_right (by omega), hu, show 0 + (P.length + t) - (P.length + t) = 0 by omega]; rfl
          have g1 : (upL P A Q x (t + 1))[0 + (P.length + t + 1)]? = some x := by rw [hL1, List.getElem?_append_right (by omega), hu, show 0 + (P.length + t + 1) - (P.length + t) = 1 by omega]; rfl
          repeat' first | refine zL ?_ | refine zA ?_ | (refine isA ?_; refine zf rfl ?_) | (refine isL ?_; refine zV rfl (by kernel_rfl) rfl rfl ?_) | (refine zc rfl ?_; refine zU rfl (by kernel_rfl) rfl rfl ?_) | refine zD ?_ | refine zB _ rfl (by kernel_rfl) ?_ | refine zW rfl ?_ | refine zX rfl ?_ | refine zC ?_ | with_reducible refine zO ?_ | refine zI ?_ | refine zJ ?_ | (with_reducible first | refine zM ?_ | refine zN ?_ | refine zF ?_ | refine zH ?_ | refine zG ?_) | refine zP ?_
          refine pX [15, 17] 18 rfl ?_
          refine yg 0 rfl (by kernel_rfl) rfl (fun _ => rfl) rfl ?_
          refine yg 1 rfl (by kernel_rfl) rfl (fun _ => rfl) rfl ?_
          refine yg 2 rfl (by kernel_rfl) rfl (fun _ => rfl) rfl ?_
          refine yg 3 rfl (by kernel_rfl) rfl (fun _ => rfl) rfl ?_
          refine yg 4 rfl (by kernel_rfl) rfl (fun _ => rfl) rfl ?_
          refine yg 5 rfl (by kernel_rfl) rfl (fun _ => rfl) rfl ?_
          refine yg 6 rfl (by kernel_rfl) rfl (fun _ => rfl) rfl ?_
          refine yg 7 rfl (by kernel_rfl) rfl (fun _ => rfl) rfl ?_
          refine xe 8 rfl (by kernel_rfl) rfl (zo (j := ((P.length + t : Nat) : Int)) rfl rfl rfl (Nat.zero_le _) rfl (congrArg I ew) (Int.natCast_nonneg _) (by omega)) rfl ?_
          refine xe 9 rfl (by kernel_rfl) rfl (yv (T := rwT) (i := 0 + (P.length + t)) (z := y) rfl rfl rfl g0) rfl ?_
          refine yg 10 rfl (by kernel_rfl) rfl (fun _ => rfl) rfl ?_
          refine yg 11 rfl (by kernel_rfl) rfl (fun _ => rfl) rfl ?_
          refine xe 12 rfl (by kernel_rfl) rfl (zo (j := ((P.length + t + 1 : Nat) : Int)) rfl rfl rfl (Nat.zero_le _) rfl rfl (Int.natCast_nonneg _) (by omega)) rfl ?_
          refine xe 13 rfl (by kernel_rfl) rfl (yv (T := rwT) (i := 0 + (P.length + t + 1)) (z := x) rfl rfl rfl g1) rfl ?_
          refine xe 14 rfl (by kernel_rfl) rfl (zo (j := ((P.length + t + 1 : Nat) : Int)) rfl rfl rfl (Nat.zero_le _) rfl rfl (Int.natCast_nonneg _) (by omega)) rfl ?_
          refine tn 15 rfl (by kernel_rfl) rfl rfl (vt (T := rwT) (i := 0 + (P.length + t + 1)) (z := y) rfl rfl rfl rfl rfl (List.getElem?_eq_some_iff.1 g1).1) rfl ?_
          refine xe 16 rfl (by kernel_rfl) rfl (zo (j := ((P.length + t : Nat) : Int)) rfl rfl rfl (Nat.zero_le _) rfl (congrArg I ew) (Int.natCast_nonneg _) (by omega)) rfl ?_
          refine tn 17 rfl (by kernel_rfl) rfl rfl (vt (T := rwT) (i := 0 + (P.length + t)) (z := x) rfl rfl rfl rfl rfl (by rw [List.length_set]; exact (List.getElem?_eq_some_iff.1 g0).1)) rfl ?_
          refine u7 (by kernel_rfl) ?_
          repeat' first | refine zL ?_ | refine zA ?_ | refine zQ [] ?_ | (refine isA ?_; refine zf rfl ?_) | (refine isL ?_; refine zV rfl (by kernel_rfl) rfl rfl ?_) | (refine zc rfl ?_; refine zU rfl (by kernel_rfl) rfl rfl ?_) | refine zD ?_ | refine zB _ rfl (by kernel_rfl) ?_ | refine zW rfl ?_ | refine zX rfl ?_ | refine zC ?_ | with_reducible refine zO ?_ | refine zI ?_ | refine zJ ?_ | (with_reducible first | refine zM ?_ | refine zN ?_ | refine zF ?_ | refine zH ?_ | refine zG ?_) | refine zP ?_
          refine ⟨⟨t, by omega, by omega⟩, by simp only; omega, ?_⟩
          exact xE 1 [0] rfl rfl yo (by decide) (.cons rfl rfl rfl rfl (yd (show rwT.flat (((upL P A Q x (t + 1)).set (0 + (P.length + t + 1)) y).set (0 + (P.length + t)) x) = rwT.flat (upL P A Q x t) by rw [hL1, Nat.zero_add, Nat.zero_add, ma hu, hL2]) (zE _ _)) .nil) (by
          repeat' first | exact zj | refine zZ ?_ ?_ | exact zp | exact le_refl rfl | exact zm rfl rfl | exact yC (congrArg _ ew.symm))
        · have hge : t' = i := by have := of_decide_eq_false q; simp only at this; omega
          subst hge
          have e3 : upL P A Q x t' = P ++ yM (A ++ [x]) ++ Q := by rw [← hfin, upL]; simp
          repeat' first | refine zL ?_ | refine zA ?_ | refine zQ [] ?_ | (refine isA ?_; refine zf rfl ?_) | (refine isL ?_; refine zV rfl (by kernel_rfl) rfl rfl ?_) | (refine zc rfl ?_; refine zU rfl (by kernel_rfl) rfl rfl ?_) | exact jc 1 [0] yo (by decide) (.cons rfl rfl rfl rfl (yd (congrArg rwT.flat e3) (zE _ _)) .nil) | refine zD ?_ | refine zB _ rfl (by kernel_rfl) ?_ | refine zW rfl ?_ | refine zX rfl ?_ | refine zC ?_ | with_reducible refine zO ?_ | refine zI ?_ | refine zJ ?_ | (with_reducible first | refine zM ?_ | refine zN ?_ | refine zF ?_ | refine zH ?_ | refine zG ?_) | refine zP ?_
end Go.Proofs.Ytojcojanokhnaaa.Ab
namespace Go.Proofs.Ytojcojanokhnaaa.Ab
open Go.RowKit
theorem wd {P : Program} (id : Nat) {ops : Array Oper} {b : Bool} {c y : Code} {Q : Exit → St → Prop} {S : St} (T : St) (h : AW P (.seq (.region id ops b) c) (fun e S' => e = .normal ∧ Sub T S') S) (k : AW P y Q T) : AW P (.seq (.seq (.region id ops b) c) y) Q S :=
  zL ⟨fun C φ a w hI => wp_mono (h.out C φ a w hI) fun e a' w' hq => by
    obtain ⟨S', φ1, hI', he, hs⟩ := hq
    subst he
    obtain ⟨φ2, h2⟩ := hs C φ1 a' w' hI'
    exact ⟨T, φ2, h2, k⟩⟩
theorem cJ {ds rs : List Rw} {L : Nat} {a m b : Int} (P X Y Q : List Rw) (hd : ds = P ++ X ++ Y ++ Q) (hL : L = ds.length) (hl : L ≤ 100000000) (ha : a = (P.length : Int)) (hm : m = ((P ++ X).length : Int)) (hb : b = ((P ++ X ++ Y).length : Int)) (hx : 0 < X.length) (hy : 0 < Y.length) (hr : rs = P ++ Y ++ X ++ Q) :
    zy Go.Proofs.Try.prog 132 [.sl 0 0 L, I a, I m, I b, .fn 64 []] [rwR ds] (.tup []) [rwR rs] true := by
  subst hd hL ha hm hb hr
  exact g9 P X Y Q hx hy hl
def kP (P A B Q : List Rw) : Prop := zy Go.Proofs.Try.prog 131 [.sl 0 0 (P ++ A ++ B ++ Q).length, I P.length, I (P ++ A).length, I (P ++ A ++ B).length, .fn 64 []] [rwR (P ++ A ++ B ++ Q)] (.tup []) [rwR (P ++ yM (A ++ B) ++ Q)] true
theorem kP.x {ds rs : List Rw} {L : Nat} {a m b : Int} {P A B Q : List Rw} (h : kP P A B Q) (hd : ds = P ++ A ++ B ++ Q) (hL : L = ds.length) (ha : a = (P.length : Int)) (hm : m = ((P ++ A).length : Int)) (hb : b = ((P ++ A ++ B).length : Int)) (hr : rs = P ++ yM (A ++ B) ++ Q) :
    zy Go.Proofs.Try.prog 131 [.sl 0 0 L, I a, I m, I b, .fn 64 []] [rwR ds] (.tup []) [rwR rs] true := by
  subst hd hL ha hm hb hr
  exact h
theorem uM {A B : List Rw} (hA : Srt A) (hB : Srt B) (h : A.length = 0 ∨ B.length = 0) : A ++ B = yM (A ++ B) := by
  rcases h with h | h
  · rw [List.eq_nil_of_length_eq_zero h, List.nil_append, mf hB]
  · rw [List.eq_nil_of_length_eq_zero h, List.append_nil, mf hA]
theorem cD (P A B Q : List Rw) (hA : Srt A) (hB : Srt B) (h0 : 2 ≤ A.length) (h1 : 2 ≤ B.length) (hl : (P ++ A ++ B ++ Q).length ≤ 100000000)
    (IH : ∀ P' A' B' Q', A'.length + B'.length < A.length + B.length → Srt A' → Srt B' → 0 < A'.length → 0 < B'.length → (P' ++ A' ++ B' ++ Q').length ≤ 100000000 → kP P' A' B' Q') : kP P A B Q := by
  unfold kP
  have l1 : (P ++ A).length = P.length + A.length := by simp
  have l2 : (P ++ A ++ B).length = P.length + A.length + B.length := by simp; omega
  have l3 : (P ++ A ++ B ++ Q).length = P.length + A.length + B.length + Q.length := by simp; omega
  obtain ⟨w, hw⟩ : ∃ w, w = (A.length + B.length) / 2 := ⟨_, rfl⟩
  have hds : ∀ k x, A[k]? = some x → (P ++ A ++ B ++ Q)[0 + (P.length + k)]? = some x := fun k x hx => by
    have := (List.getElem?_eq_some_iff.1 hx).1
    rw [List.getElem?_append_left (by omega), List.getElem?_append_left (by omega), List.getElem?_append_right (by omega), show 0 + (P.length + k) - P.length = k by omega]; exact hx
  have hdb : ∀ k x, B[k]? = some x → (P ++ A ++ B ++ Q)[0 + (P.length + A.length + k)]? = some x := fun k x hx => by
    have := (List.getElem?_eq_some_iff.1 hx).1
    rw [List.getElem?_append_left (by omega), List.getElem?_append_right (by omega), l1, show 0 + (P.length + A.length + k) - (P.length + A.length) = k by omega]; exact hx
  have eds : P ++ A ++ B ++ Q = P ++ A ++ B ++ Q := rfl
  generalize hm : (P ++ A).length = m at l1 ⊢
  generalize hb : (P ++ A ++ B).length = b at l2 ⊢
  generalize hL : (P ++ A ++ B ++ Q).length = L at hl l3 ⊢
  generalize hD : P ++ A ++ B ++ Q = D at hds hdb hL ⊢
  generalize ha : P.length = a at hds hdb l1 l2 l3 ⊢
  have hv : IntKind.i64.wrap (uJ .u64 (IntKind.u64.wrap (IntKind.i64.wrap ((a : Int) + (b : Int)))) 1) = ((a + w : Nat) : Int) := by rw [tH (by omega)]; omega
  refine zw [] Go.Proofs.Try.func131 rfl rfl ?_
  simp only [Go.Proofs.Try.ntmps131, List.length_cons, List.length_nil, Nat.reduceAdd, Nat.reduceSub, List.replicate_succ, List.replicate_zero, List.cons_append, List.nil_append]
  repeat' first | refine zL ?_ | refine zA ?_ | refine zQ [] ?_ | (refine isA ?_; refine zf rfl ?_) | (refine isL ?_; refine zV rfl (by kernel_rfl) rfl rfl ?_) | (refine zc rfl ?_; refine zU rfl (by kernel_rfl) rfl rfl ?_) | refine zD ?_ | refine zB _ rfl (by kernel_rfl) ?_ | refine zW rfl ?_ | refine zX rfl ?_ | refine zC ?_ | with_reducible refine zO ?_ | refine zI ?_ | refine zJ ?_ | (with_reducible first | refine zM ?_ | refine zN ?_ | refine zF ?_ | refine zH ?_ | refine zG ?_) | refine zP ?_
  refine zh rfl (fun h => absurd (of_decide_eq_true h) (by rw [IntKind.wrap_i64]; omega)) (fun _ => ?_)
  repeat' first | refine zL ?_ | refine zA ?_ | refine zQ [] ?_ | (refine isA ?_; refine zf rfl ?_) | (refine isL ?_; refine zV rfl (by kernel_rfl) rfl rfl ?_) | (refine zc rfl ?_; refine zU rfl (by kernel_rfl) rfl rfl ?_) | refine zD ?_ | refine zB _ rfl (by kernel_rfl) ?_ | refine zW rfl ?_ | refine zX rfl ?_ | refine zC ?_ | with_reducible refine zO ?_ | refine zI ?_ | refine zJ ?_ | (with_reducible first | refine zM ?_ | refine zN ?_ | refine zF ?_ | refine zH ?_ | refine zG ?_) | refine zP ?_
  refine zh rfl (fun h => absurd (of_decide_eq_true h) (by rw [IntKind.wrap_i64]; omega)) (fun _ => ?_)
  repeat' first | (refine wd 27 ⟨((.sl 0 0 L) :: (I a) :: (I m) :: (I b) :: (.fn 64 []) :: .any :: .any :: .any :: .any :: .any :: .any :: .any :: .any :: .any :: .any :: .any :: .any :: .any :: (I ((a + w : Nat) : Int)) :: (I ((a + w + m : Nat) : Int)) :: (I ((a + (w - B.length) : Nat) : Int)) :: (I ((a + min A.length w : Nat) : Int)) :: .any :: .any :: .any :: .any :: .any :: .any :: .any :: .any :: .any :: .any :: .any :: .any :: .any :: .any :: .any :: .any :: .any :: .any :: .any :: .any :: .any :: .any :: .any :: .any :: .any :: .any :: .any :: .any :: .any :: .any :: .any :: .any :: .any :: .any :: .any :: .any :: .any :: .any :: .any :: .any :: .any :: .any :: .any :: .any :: .any :: .any :: .any :: .any :: .any :: .any :: .any :: .any :: .any :: .any :: .any :: .any :: .any :: .any :: .any :: .any :: .any :: .any :: .any :: .any :: .any :: .any :: .any :: .any :: .any :: .any :: .any :: .any :: .any :: .any :: .any :: .any :: .any :: .any :: .any :: .any :: .any :: .any :: .any :: .any :: .any :: .any :: .any :: .any :: .any :: .any :: .any :: .any :: .any :: .any :: .any :: .any :: .any :: .any :: .any :: .any :: .any :: .any :: .any :: .any :: .any :: .any :: .any :: .any :: .any :: .any :: .any :: .any :: .any :: .any :: .any :: .any :: .any :: .any :: .any :: .any :: .any :: .any :: .any :: .any :: .any :: .any :: .any :: .any :: .any :: .any :: .any :: .any :: .any :: .any :: .any :: .any :: .any :: .any :: .any :: .any :: .any :: .any :: .any :: .any :: .any :: .any :: .any :: .any :: .any :: .any :: .any :: .any :: .any :: .any :: .any :: .any :: .any :: .any :: .any :: .any :: .any :: .any :: .any :: .any :: .any :: .any :: .any :: .any :: .any :: .any :: .any :: .any :: .any :: .any :: .any :: .any :: .any :: .any :: .any :: .any :: .any :: .any :: .any :: .any :: .any :: .any :: .any :: .any :: .any :: .any :: .any :: .any :: .any :: .any :: .any :: .any :: .any :: .any :: []), [rwR D], 1⟩ ?_ ?_) | refine zL ?_ | refine zA ?_ | refine zQ [] ?_ | (refine isA ?_; refine zf rfl ?_) | (refine isL ?_; refine zV rfl (by kernel_rfl) rfl rfl ?_) | (refine zc rfl ?_; refine zU rfl (by kernel_rfl) rfl rfl ?_) | refine za rfl (wj (n := 1) rfl rfl rfl) rfl ?_ | refine zT rfl (by kernel_rfl) rfl (wj (n := 1) rfl rfl rfl) rfl ?_ | refine zD ?_ | refine zB _ rfl (by kernel_rfl) ?_ | refine zW rfl ?_ | refine zX rfl ?_ | refine zC ?_ | with_reducible refine zO ?_ | refine zI ?_ | refine zJ ?_ | (with_reducible first | refine zM ?_ | refine zN ?_ | refine zF ?_ | refine zH ?_ | refine zG ?_) | refine zP ?_
  · have lk : ∀ x y z : Int, (x = ((a + w : Nat) : Int)) → y = ((a + w + m : Nat) : Int) → True := fun _ _ _ _ _ => trivial
    refine zh rfl (fun h => ?_) (fun h => ?_)
    · have q : a + w < m := by have := of_decide_eq_true h; simp only [hv] at this; omega
      repeat' first | refine zL ?_ | refine zA ?_ | refine zQ [] ?_ | (refine isA ?_; refine zf rfl ?_) | (refine isL ?_; refine zV rfl (by kernel_rfl) rfl rfl ?_) | (refine zc rfl ?_; refine zU rfl (by kernel_rfl) rfl rfl ?_) | refine zD ?_ | refine zB _ rfl (by kernel_rfl) ?_ | refine zW rfl ?_ | refine zX rfl ?_ | refine zC ?_ | with_reducible refine zO ?_ | refine zI ?_ | refine zJ ?_ | (with_reducible first | refine zM ?_ | refine zN ?_ | refine zF ?_ | refine zH ?_ | refine zG ?_) | refine zP ?_
      refine ⟨rfl, xE 1 [0] rfl rfl yo (by decide) (.cons rfl rfl rfl rfl (zY (zE _ _)) .nil) (by
        repeat' first | exact zj | refine zZ ?_ ?_ | exact zp | exact le_refl rfl | exact zm rfl rfl | exact yC (congrArg _ hv.symm) | exact yC (congrArg _ (show ((a + w + m : Nat) : Int) = IntKind.i64.wrap (IntKind.i64.wrap (uJ .u64 (IntKind.u64.wrap (IntKind.i64.wrap ((a : Int) + (b : Int)))) 1) + m) by rw [hv, IntKind.wrap_i64]; omega)) | exact yC (congrArg _ (show ((a + (w - B.length) : Nat) : Int) = IntKind.i64.wrap (IntKind.i64.wrap (IntKind.i64.wrap (uJ .u64 (IntKind.u64.wrap (IntKind.i64.wrap ((a : Int) + (b : Int)))) 1) + m) - b) by rw [hv, show IntKind.i64.wrap (((a + w : Nat) : Int) + m) = ((a + w + m : Nat) : Int) by rw [IntKind.wrap_i64]; omega, IntKind.wrap_i64]; omega)) | exact yC (congrArg _ (show ((a + min A.length w : Nat) : Int) = IntKind.i64.wrap (uJ .u64 (IntKind.u64.wrap (IntKind.i64.wrap ((a : Int) + (b : Int)))) 1) by rw [hv, Nat.min_eq_right (by omega)])))⟩
    · have q : m ≤ a + w := by have := of_decide_eq_false h; simp only [hv] at this; omega
      repeat' first | refine zL ?_ | refine zA ?_ | refine zQ [] ?_ | (refine isA ?_; refine zf rfl ?_) | (refine isL ?_; refine zV rfl (by kernel_rfl) rfl rfl ?_) | (refine zc rfl ?_; refine zU rfl (by kernel_rfl) rfl rfl ?_) | refine zD ?_ | refine zB _ rfl (by kernel_rfl) ?_ | refine zW rfl ?_ | refine zX rfl ?_ | refine zC ?_ | with_reducible refine zO ?_ | refine zI ?_ | refine zJ ?_ | (with_reducible first | refine zM ?_ | refine zN ?_ | refine zF ?_ | refine zH ?_ | refine zG ?_) | refine zP ?_
      refine ⟨rfl, xE 1 [0] rfl rfl yo (by decide) (.cons rfl rfl rfl rfl (zY (zE _ _)) .nil) (by
        repeat' first | exact zj | refine zZ ?_ ?_ | exact zp | exact le_refl rfl | exact zm rfl rfl | exact yC (congrArg _ hv.symm) | exact yC (congrArg _ (show ((a + w + m : Nat) : Int) = IntKind.i64.wrap (IntKind.i64.wrap (uJ .u64 (IntKind.u64.wrap (IntKind.i64.wrap ((a : Int) + (b : Int)))) 1) + m) by rw [hv, IntKind.wrap_i64]; omega)) | exact yC (congrArg _ (show ((a + (w - B.length) : Nat) : Int) = (a : Int) by omega)) | exact yC (congrArg _ (show ((a + min A.length w : Nat) : Int) = (m : Int) by rw [Nat.min_eq_left (by omega)]; omega)))⟩
  · have ep : IntKind.i64.wrap (((a + w + m : Nat) : Int) - 1) = ((a + w + m - 1 : Nat) : Int) := by rw [IntKind.wrap_i64]; omega
    refine z9 (α := { p : Nat × Nat // CutI A B w p }) (fun p => ⟨((.sl 0 0 L) :: (I a) :: (I m) :: (I b) :: (.fn 64 []) :: .any :: .any :: .any :: .any :: .any :: .any :: .any :: .any :: .any :: .any :: .any :: .any :: .any :: (I ((a + w : Nat) : Int)) :: (I ((a + w + m : Nat) : Int)) :: (I ((a + p.1.1 : Nat) : Int)) :: (I ((a + p.1.2 : Nat) : Int)) :: (I ((a + w + m - 1 : Nat) : Int)) :: .any :: .any :: .any :: .any :: .any :: .any :: .any :: .any :: .any :: .any :: .any :: .any :: .any :: .any :: .any :: .any :: .any :: .any :: .any :: .any :: .any :: .any :: .any :: .any :: .any :: .any :: .any :: .any :: .any :: .any :: .any :: .any :: .any :: .any :: .any :: .any :: .any :: .any :: .any :: .any :: .any :: .any :: .any :: .any :: .any :: .any :: .any :: .any :: .any :: .any :: .any :: .any :: .any :: .any :: .any :: .any :: .any :: .any :: .any :: .any :: .any :: .any :: .any :: .any :: .any :: .any :: .any :: .any :: .any :: .any :: .any :: .any :: .any :: .any :: .any :: .any :: .any :: .any :: .any :: .any :: .any :: .any :: .any :: .any :: .any :: .any :: .any :: .any :: .any :: .any :: .any :: .any :: .any :: .any :: .any :: .any :: .any :: .any :: .any :: .any :: .any :: .any :: .any :: .any :: .any :: .any :: .any :: .any :: .any :: .any :: .any :: .any :: .any :: .any :: .any :: .any :: .any :: .any :: .any :: .any :: .any :: .any :: .any :: .any :: .any :: .any :: .any :: .any :: .any :: .any :: .any :: .any :: .any :: .any :: .any :: .any :: .any :: .any :: .any :: .any :: .any :: .any :: .any :: .any :: .any :: .any :: .any :: .any :: .any :: .any :: .any :: .any :: .any :: .any :: .any :: .any :: .any :: .any :: .any :: .any :: .any :: .any :: .any :: .any :: .any :: .any :: .any :: .any :: .any :: .any :: .any :: .any :: .any :: .any :: .any :: .any :: .any :: .any :: .any :: .any :: .any :: .any :: .any :: .any :: .any :: .any :: .any :: .any :: .any :: .any :: .any :: .any :: .any :: .any :: .any :: .any :: .any :: []), [rwR D], 1⟩) (fun p => p.1.2 - p.1.1) ⟨(w - B.length, min A.length w), cut0 hw⟩ ?_ ?_
    · exact xE 1 [0] rfl rfl yo (by decide) (.cons rfl rfl rfl rfl (zY (zE _ _)) .nil) (by
        repeat' first | exact zj | refine zZ ?_ ?_ | exact zp | exact le_refl rfl | exact zm rfl rfl | exact yC (congrArg _ ep.symm))
    · rintro ⟨⟨i, j⟩, J⟩
      have j1 : w - B.length ≤ i := J.lo
      have j2 : i ≤ j := J.le
      have j3 : j ≤ min A.length w := J.hi
      repeat' first | refine zL ?_ | refine zA ?_ | refine zQ [] ?_ | (refine isA ?_; refine zf rfl ?_) | (refine isL ?_; refine zV rfl (by kernel_rfl) rfl rfl ?_) | (refine zc rfl ?_; refine zU rfl (by kernel_rfl) rfl rfl ?_) | refine zD ?_ | refine zB _ rfl (by kernel_rfl) ?_ | refine zW rfl ?_ | refine zX rfl ?_ | refine zC ?_ | with_reducible refine zO ?_ | refine zI ?_ | refine zJ ?_ | (with_reducible first | refine zM ?_ | refine zN ?_ | refine zF ?_ | refine zH ?_ | refine zG ?_) | refine zP ?_
      refine zh rfl (fun h => ?_) (fun h => ?_)
      · have hlt : i < j := by have := of_decide_eq_true h; simp only at this; omega
        obtain ⟨k, hk⟩ : ∃ k, k = (i + j) / 2 := ⟨_, rfl⟩
        have k1 : i ≤ k ∧ k < j := by omega
        have hc : IntKind.i64.wrap (uJ .u64 (IntKind.u64.wrap (IntKind.i64.wrap (((a + i : Nat) : Int) + ((a + j : Nat) : Int)))) 1) = ((a + k : Nat) : Int) := by
          rw [tH (by omega)]; omega
        have hpc : IntKind.i64.wrap (((a + w + m - 1 : Nat) : Int) - IntKind.i64.wrap (uJ .u64 (IntKind.u64.wrap (IntKind.i64.wrap (((a + i : Nat) : Int) + ((a + j : Nat) : Int)))) 1)) = ((a + A.length + (w - 1 - k) : Nat) : Int) := by
          rw [hc, IntKind.wrap_i64]; omega
        obtain ⟨x, hx⟩ : ∃ z, A[k]? = some z := ⟨_, List.getElem?_eq_getElem (by omega)⟩
        obtain ⟨y, hy⟩ : ∃ z, B[w - 1 - k]? = some z := ⟨_, List.getElem?_eq_getElem (by omega)⟩
        have gx := hds k x hx
        have gy := hdb (w - 1 - k) y hy
        repeat' first | refine zL ?_ | refine zA ?_ | refine zQ [] ?_ | (refine isA ?_; refine zf rfl ?_) | (refine isL ?_; refine zV rfl (by kernel_rfl) rfl rfl ?_) | (refine zc rfl ?_; refine zU rfl (by kernel_rfl) rfl rfl ?_) | refine za rfl (wj (n := 1) rfl rfl rfl) rfl ?_ | refine zT rfl (by kernel_rfl) rfl (wj (n := 1) rfl rfl rfl) rfl ?_ | (refine yB (x := .tmp 159) ?_; refine za rfl (zo (j := ((a + A.length + (w - 1 - k) : Nat) : Int)) rfl rfl rfl (Nat.zero_le _) rfl (congrArg I hpc) (Int.natCast_nonneg _) (by omega)) rfl ?_) | (refine yA (x := .tmp 159) rfl ?_; refine zT rfl (by kernel_rfl) rfl (zo (j := ((a + A.length + (w - 1 - k) : Nat) : Int)) rfl rfl rfl (Nat.zero_le _) rfl (congrArg I hpc) (Int.natCast_nonneg _) (by omega)) rfl ?_) | (refine yB (x := .tmp 165) ?_; refine za rfl (zo (j := ((a + k : Nat) : Int)) rfl rfl rfl (Nat.zero_le _) rfl (congrArg I hc) (Int.natCast_nonneg _) (by omega)) rfl ?_) | (refine yA (x := .tmp 165) rfl ?_; refine zT rfl (by kernel_rfl) rfl (zo (j := ((a + k : Nat) : Int)) rfl rfl rfl (Nat.zero_le _) rfl (congrArg I hc) (Int.natCast_nonneg _) (by omega)) rfl ?_) | (refine xi (x := .tmp 163) ?_; refine za rfl (yv (T := rwT) (i := 0 + (a + A.length + (w - 1 - k))) (z := y) rfl rfl rfl gy) rfl ?_) | (refine xh (x := .tmp 163) rfl ?_; refine zT rfl (by kernel_rfl) rfl (yv (T := rwT) (i := 0 + (a + A.length + (w - 1 - k))) (z := y) rfl rfl rfl gy) rfl ?_) | (refine xi (x := .tmp 167) ?_; refine za rfl (yv (T := rwT) (i := 0 + (a + k)) (z := x) rfl rfl rfl gx) rfl ?_) | (refine xh (x := .tmp 167) rfl ?_; refine zT rfl (by kernel_rfl) rfl (yv (T := rwT) (i := 0 + (a + k)) (z := x) rfl rfl rfl gx) rfl ?_) | refine za rfl (wl rfl rfl (xO y x) (.cons (.same rfl) (.cons (.same rfl) .nil)) rfl) rfl ?_ | refine zT rfl (by kernel_rfl) rfl (wl rfl rfl (xO y x) (.cons (.same rfl) (.cons (.same rfl) .nil)) rfl) rfl ?_ | refine zD ?_ | refine zB _ rfl (by kernel_rfl) ?_ | refine zW rfl ?_ | refine zX rfl ?_ | refine zC ?_ | with_reducible refine zO ?_ | refine zI ?_ | refine zJ ?_ | (with_reducible first | refine zM ?_ | refine zN ?_ | refine zF ?_ | refine zH ?_ | refine zG ?_) | refine zP ?_
        refine zh rfl (fun p => ?_) (fun p => ?_)
        · have q : leW x y := Classical.byContradiction fun hn => by
            have := xg.2 hn
            simp [this] at p
          repeat' first | refine zL ?_ | refine zA ?_ | refine zQ [] ?_ | (refine isA ?_; refine zf rfl ?_) | (refine isL ?_; refine zV rfl (by kernel_rfl) rfl rfl ?_) | (refine zc rfl ?_; refine zU rfl (by kernel_rfl) rfl rfl ?_) | refine zD ?_ | refine zB _ rfl (by kernel_rfl) ?_ | refine zW rfl ?_ | refine zX rfl ?_ | refine zC ?_ | with_reducible refine zO ?_ | refine zI ?_ | refine zJ ?_ | (with_reducible first | refine zM ?_ | refine zN ?_ | refine zF ?_ | refine zH ?_ | refine zG ?_) | refine zP ?_
          refine ⟨⟨(k + 1, j), ⟨by simp only; omega, by simp only; omega, j3, fun x' y' _ hx' hy' => ?_, J.hhi⟩⟩, by simp only; omega, ?_⟩
          · simp only [Nat.add_sub_cancel] at hx'
            rw [hx] at hx'
            cases hx'
            rw [show w - (k + 1, j).1 = w - 1 - k by simp only; omega, hy] at hy'
            cases hy'
            exact q
          · exact xE 1 [0] rfl rfl yo (by decide) (.cons rfl rfl rfl rfl (zY (zE _ _)) .nil) (by
              repeat' first | exact zj | refine zZ ?_ ?_ | exact zp | exact le_refl rfl | exact zm rfl rfl | exact yC (congrArg _ (show ((a + (k + 1) : Nat) : Int) = IntKind.i64.wrap (IntKind.i64.wrap (uJ .u64 (IntKind.u64.wrap (IntKind.i64.wrap (((a + i : Nat) : Int) + ((a + j : Nat) : Int)))) 1) + 1) by rw [hc, IntKind.wrap_i64]; omega)))
        · have q : leW y x := vB (xg.1 (by simpa using p))
          repeat' first | refine zL ?_ | refine zA ?_ | refine zQ [] ?_ | (refine isA ?_; refine zf rfl ?_) | (refine isL ?_; refine zV rfl (by kernel_rfl) rfl rfl ?_) | (refine zc rfl ?_; refine zU rfl (by kernel_rfl) rfl rfl ?_) | refine zD ?_ | refine zB _ rfl (by kernel_rfl) ?_ | refine zW rfl ?_ | refine zX rfl ?_ | refine zC ?_ | with_reducible refine zO ?_ | refine zI ?_ | refine zJ ?_ | (with_reducible first | refine zM ?_ | refine zN ?_ | refine zF ?_ | refine zH ?_ | refine zG ?_) | refine zP ?_
          refine ⟨⟨(i, k), ⟨j1, k1.1, by simp only; omega, J.hlo, fun y' x' _ hy' hx' => ?_⟩⟩, by simp only; omega, ?_⟩
          · rw [hx] at hx'
            cases hx'
            rw [hy] at hy'
            cases hy'
            exact q
          · exact xE 1 [0] rfl rfl yo (by decide) (.cons rfl rfl rfl rfl (zY (zE _ _)) .nil) (by
              repeat' first | exact zj | refine zZ ?_ ?_ | exact zp | exact le_refl rfl | exact zm rfl rfl | exact yC (congrArg _ hc.symm))
      · obtain rfl : i = j := by have := of_decide_eq_false h; simp only at this; omega
        obtain ⟨u1, u2, u3, u4⟩ := eG hw hA hB J
        have ea : A.take i ++ A.drop i = A := List.take_append_drop _ _
        have eb : B.take (w - i) ++ B.drop (w - i) = B := List.take_append_drop _ _
        have sA1 : Srt (A.take i) := hA.sublist (List.take_sublist _ _)
        have sA2 : Srt (A.drop i) := hA.sublist (List.drop_sublist _ _)
        have sB1 : Srt (B.take (w - i)) := hB.sublist (List.take_sublist _ _)
        have sB2 : Srt (B.drop (w - i)) := hB.sublist (List.drop_sublist _ _)
        have nA1 : (A.take i).length = i := by simp; omega
        have nA2 : (A.drop i).length = A.length - i := by simp
        have nB1 : (B.take (w - i)).length = w - i := by simp; omega
        have nB2 : (B.drop (w - i)).length = B.length - (w - i) := by simp
        have hD' : D = P ++ A.take i ++ A.drop i ++ B.take (w - i) ++ B.drop (w - i) ++ Q := by
          rw [← hD]; simp only [List.append_assoc]; rw [← List.append_assoc (A.take i), ea, ← List.append_assoc (B.take (w - i)), eb]
        generalize A.take i = A1 at *
        generalize A.drop i = A2 at *
        generalize B.take (w - i) = B1 at *
        generalize B.drop (w - i) = B2 at *
        have ee : IntKind.i64.wrap (((a + w + m : Nat) : Int) - ((a + i : Nat) : Int)) = ((m + (w - i) : Nat) : Int) := by rw [IntKind.wrap_i64]; omega
        have r1 : P ++ A1 ++ A2 ++ B1 ++ B2 ++ Q = P ++ A1 ++ B1 ++ A2 ++ B2 ++ Q ∨ (0 < A2.length ∧ 0 < B1.length) := by
          rcases Nat.eq_zero_or_pos A2.length with h | h
          · left; rw [List.eq_nil_of_length_eq_zero h]; simp
          · rcases Nat.eq_zero_or_pos B1.length with k | k
            · left; rw [List.eq_nil_of_length_eq_zero k]; simp
            · exact Or.inr ⟨h, k⟩
        have dl : P.length = a := ha
        have sl1 := xo (A1 ++ B1)
        rw [List.length_append] at sl1
        have hLs : L = a + A1.length + A2.length + B1.length + B2.length + Q.length := by omega
        repeat' first | (refine wd 39 ⟨((.sl 0 0 L) :: (I a) :: (I m) :: (I b) :: (.fn 64 []) :: .any :: .any :: .any :: .any :: .any :: .any :: .any :: .any :: .any :: .any :: .any :: .any :: .any :: (I ((a + w : Nat) : Int)) :: .any :: (I ((a + i : Nat) : Int)) :: .any :: .any :: .any :: (I ((m + (w - i) : Nat) : Int)) :: .any :: .any :: .any :: .any :: .any :: .any :: .any :: .any :: .any :: .any :: .any :: .any :: .any :: .any :: .any :: .any :: .any :: .any :: .any :: .any :: .any :: .any :: .any :: .any :: .any :: .any :: .any :: .any :: .any :: .any :: .any :: .any :: .any :: .any :: .any :: .any :: .any :: .any :: .any :: .any :: .any :: .any :: .any :: .any :: .any :: .any :: .any :: .any :: .any :: .any :: .any :: .any :: .any :: .any :: .any :: .any :: .any :: .any :: .any :: .any :: .any :: .any :: .any :: .any :: .any :: .any :: .any :: .any :: .any :: .any :: .any :: .any :: .any :: .any :: .any :: .any :: .any :: .any :: .any :: .any :: .any :: .any :: .any :: .any :: .any :: .any :: .any :: .any :: .any :: .any :: .any :: .any :: .any :: .any :: .any :: .any :: .any :: .any :: .any :: .any :: .any :: .any :: .any :: .any :: .any :: .any :: .any :: .any :: .any :: .any :: .any :: .any :: .any :: .any :: .any :: .any :: .any :: .any :: .any :: .any :: .any :: .any :: .any :: .any :: .any :: .any :: .any :: .any :: .any :: .any :: .any :: .any :: .any :: .any :: .any :: .any :: .any :: .any :: .any :: .any :: .any :: .any :: .any :: .any :: .any :: .any :: .any :: .any :: .any :: .any :: .any :: .any :: .any :: .any :: .any :: .any :: .any :: .any :: .any :: .any :: .any :: .any :: .any :: .any :: .any :: .any :: .any :: .any :: .any :: .any :: .any :: .any :: .any :: .any :: .any :: .any :: .any :: .any :: .any :: .any :: .any :: .any :: .any :: .any :: .any :: .any :: .any :: .any :: .any :: .any :: .any :: .any :: .any :: .any :: .any :: []), [rwR (P ++ A1 ++ B1 ++ A2 ++ B2 ++ Q)], 1⟩ ?_ ?_) | (refine wd 41 ⟨((.sl 0 0 L) :: (I a) :: (I m) :: (I b) :: (.fn 64 []) :: .any :: .any :: .any :: .any :: .any :: .any :: .any :: .any :: .any :: .any :: .any :: .any :: .any :: (I ((a + w : Nat) : Int)) :: .any :: (I ((a + i : Nat) : Int)) :: .any :: .any :: .any :: (I ((m + (w - i) : Nat) : Int)) :: .any :: .any :: .any :: .any :: .any :: .any :: .any :: .any :: .any :: .any :: .any :: .any :: .any :: .any :: .any :: .any :: .any :: .any :: .any :: .any :: .any :: .any :: .any :: .any :: .any :: .any :: .any :: .any :: .any :: .any :: .any :: .any :: .any :: .any :: .any :: .any :: .any :: .any :: .any :: .any :: .any :: .any :: .any :: .any :: .any :: .any :: .any :: .any :: .any :: .any :: .any :: .any :: .any :: .any :: .any :: .any :: .any :: .any :: .any :: .any :: .any :: .any :: .any :: .any :: .any :: .any :: .any :: .any :: .any :: .any :: .any :: .any :: .any :: .any :: .any :: .any :: .any :: .any :: .any :: .any :: .any :: .any :: .any :: .any :: .any :: .any :: .any :: .any :: .any :: .any :: .any :: .any :: .any :: .any :: .any :: .any :: .any :: .any :: .any :: .any :: .any :: .any :: .any :: .any :: .any :: .any :: .any :: .any :: .any :: .any :: .any :: .any :: .any :: .any :: .any :: .any :: .any :: .any :: .any :: .any :: .any :: .any :: .any :: .any :: .any :: .any :: .any :: .any :: .any :: .any :: .any :: .any :: .any :: .any :: .any :: .any :: .any :: .any :: .any :: .any :: .any :: .any :: .any :: .any :: .any :: .any :: .any :: .any :: .any :: .any :: .any :: .any :: .any :: .any :: .any :: .any :: .any :: .any :: .any :: .any :: .any :: .any :: .any :: .any :: .any :: .any :: .any :: .any :: .any :: .any :: .any :: .any :: .any :: .any :: .any :: .any :: .any :: .any :: .any :: .any :: .any :: .any :: .any :: .any :: .any :: .any :: .any :: .any :: .any :: .any :: .any :: .any :: .any :: .any :: .any :: []), [rwR (P ++ yM (A1 ++ B1) ++ A2 ++ B2 ++ Q)], 1⟩ ?_ ?_) | refine zL ?_ | refine zA ?_ | refine zQ [] ?_ | (refine isA ?_; refine zf rfl ?_) | (refine isL ?_; refine zV rfl (by kernel_rfl) rfl rfl ?_) | (refine zc rfl ?_; refine zU rfl (by kernel_rfl) rfl rfl ?_) | refine zD ?_ | refine zB _ rfl (by kernel_rfl) ?_ | refine zW rfl ?_ | refine zX rfl ?_ | refine zC ?_ | with_reducible refine zO ?_ | refine zI ?_ | refine zJ ?_ | (with_reducible first | refine zM ?_ | refine zN ?_ | refine zF ?_ | refine zH ?_ | refine zG ?_) | refine zP ?_ | refine zh rfl (fun hbr => ?_) (fun hbr => ?_) | (refine wy ?_; refine yb rfl rfl (fun hbr => ?_) (fun hbr => ?_) <;> (fail_if_success (with_reducible (have hx : true = true := hbr))) <;> (fail_if_success (with_reducible (have hx : false = false := hbr)))) | (refine zc rfl ?_; refine yK rfl rfl rfl rfl (fun hbr => ?_) (fun hbr => ?_) <;> (fail_if_success (with_reducible (have hx : true = true := hbr))) <;> (fail_if_success (with_reducible (have hx : false = false := hbr))))
        · rename_i h1
          have h1 := of_decide_eq_true h1
          have h2 := of_decide_eq_true hbr
          simp only at h1 h2
          rw [ee] at h2
          have c1 := cJ (ds := D) (rs := P ++ A1 ++ B1 ++ A2 ++ B2 ++ Q) (L := L) (a := ((a + i : Nat) : Int)) (m := (m : Int)) (b := IntKind.i64.wrap (((a + w + m : Nat) : Int) - ((a + i : Nat) : Int))) (P ++ A1) A2 B1 (B2 ++ Q) (by rw [hD']; simp only [List.append_assoc]) hL.symm hl (by simp only [List.length_append]; omega) (by simp only [List.length_append]; omega) (by rw [ee]; simp only [List.length_append]; omega) (by omega) (by omega) (by simp only [List.append_assoc])
          repeat' first | refine zL ?_ | refine zA ?_ | refine zQ [] ?_ | (refine isA ?_; refine zf rfl ?_) | (refine isL ?_; refine zV rfl (by kernel_rfl) rfl rfl ?_) | (refine zc rfl ?_; refine zU rfl (by kernel_rfl) rfl rfl ?_) | (refine zr 132 ?_; refine za rfl (zv (K := []) (Rs' := [_]) [0] (by decide) rfl c1 (.cons rfl rfl rfl (zE _ _) (zE _ _) .nil) (.cons (.sl rfl) (.cons (.same rfl) (.cons (.same rfl) (.cons (.same rfl) (.cons (.same rfl) .nil))))) (fun q hq => by cases hq) rfl) rfl ?_) | (refine zq 132 rfl ?_; refine zT rfl (by kernel_rfl) rfl (zv (K := []) (Rs' := [_]) [0] (by decide) rfl c1 (.cons rfl rfl rfl (zE _ _) (zE _ _) .nil) (.cons (.sl rfl) (.cons (.same rfl) (.cons (.same rfl) (.cons (.same rfl) (.cons (.same rfl) .nil))))) (fun q hq => by cases hq) rfl) rfl ?_) | refine zD ?_ | refine zB _ rfl (by kernel_rfl) ?_ | refine zW rfl ?_ | refine zX rfl ?_ | refine zC ?_ | with_reducible refine zO ?_ | refine zI ?_ | refine zJ ?_ | (with_reducible first | refine zM ?_ | refine zN ?_ | refine zF ?_ | refine zH ?_ | refine zG ?_) | refine zP ?_
          exact ⟨rfl, xE 1 [0] rfl rfl yo (by decide) (.cons rfl rfl rfl rfl (zY (zE _ _)) .nil) (by
            repeat' first | exact zj | refine zZ ?_ ?_ | exact zp | exact le_refl rfl | exact zm rfl rfl | exact yC (congrArg _ ee.symm))⟩
        · have h2 := of_decide_eq_false hbr
          simp only at h2
          rw [ee] at h2
          have e := r1.resolve_right (fun h => by omega)
          rw [← hD'] at e
          exact ⟨rfl, xE 1 [0] rfl rfl yo (by decide) (.cons rfl rfl rfl rfl (yd (congrArg rwT.flat e) (zE _ _)) .nil) (by
            repeat' first | exact zj | refine zZ ?_ ?_ | exact zp | exact le_refl rfl | exact zm rfl rfl | exact yC (congrArg _ ee.symm))⟩
        · have h2 := of_decide_eq_false hbr
          simp only at h2
          have e := r1.resolve_right (fun h => by omega)
          rw [← hD'] at e
          exact ⟨rfl, xE 1 [0] rfl rfl yo (by decide) (.cons rfl rfl rfl rfl (yd (congrArg rwT.flat e) (zE _ _)) .nil) (by
            repeat' first | exact zj | refine zZ ?_ ?_ | exact zp | exact le_refl rfl | exact zm rfl rfl | exact yC (congrArg _ ee.symm))⟩
        · rename_i h1
          have h1 := of_decide_eq_true h1
          have h2 := of_decide_eq_true hbr
          have c1 := (IH P A1 B1 (A2 ++ B2 ++ Q) (by omega) sA1 sB1 (by omega) (by omega) (by simp only [List.length_append]; omega)).x (ds := P ++ A1 ++ B1 ++ A2 ++ B2 ++ Q) (rs := P ++ yM (A1 ++ B1) ++ A2 ++ B2 ++ Q) (L := L) (a := (a : Int)) (m := ((a + i : Nat) : Int)) (b := ((a + w : Nat) : Int)) (by simp only [List.append_assoc]) (by simp only [List.length_append]; omega) (by omega) (by simp only [List.length_append]; omega) (by simp only [List.length_append]; omega) (by simp only [List.append_assoc])
          repeat' first | refine zL ?_ | refine zA ?_ | refine zQ [] ?_ | (refine isA ?_; refine zf rfl ?_) | (refine isL ?_; refine zV rfl (by kernel_rfl) rfl rfl ?_) | (refine zc rfl ?_; refine zU rfl (by kernel_rfl) rfl rfl ?_) | (refine zr 131 ?_; refine za rfl (zv (K := []) (Rs' := [_]) [0] (by decide) rfl c1 (.cons rfl rfl rfl (zE _ _) (zE _ _) .nil) (.cons (.sl rfl) (.cons (.same rfl) (.cons (.same rfl) (.cons (.same rfl) (.cons (.same rfl) .nil))))) (fun q hq => by cases hq) rfl) rfl ?_) | (refine zq 131 rfl ?_; refine zT rfl (by kernel_rfl) rfl (zv (K := []) (Rs' := [_]) [0] (by decide) rfl c1 (.cons rfl rfl rfl (zE _ _) (zE _ _) .nil) (.cons (.sl rfl) (.cons (.same rfl) (.cons (.same rfl) (.cons (.same rfl) (.cons (.same rfl) .nil))))) (fun q hq => by cases hq) rfl) rfl ?_) | refine zD ?_ | refine zB _ rfl (by kernel_rfl) ?_ | refine zW rfl ?_ | refine zX rfl ?_ | refine zC ?_ | with_reducible refine zO ?_ | refine zI ?_ | refine zJ ?_ | (with_reducible first | refine zM ?_ | refine zN ?_ | refine zF ?_ | refine zH ?_ | refine zG ?_) | refine zP ?_
          exact ⟨rfl, xE 1 [0] rfl rfl yo (by decide) (.cons rfl rfl rfl rfl (zY (zE _ _)) .nil) (by
            repeat' first | exact zj | refine zZ ?_ ?_ | exact zp | exact le_refl rfl | exact zm rfl rfl)⟩
        · have h2 := of_decide_eq_false hbr
          have e := uM sA1 sB1 (by omega)
          exact ⟨rfl, xE 1 [0] rfl rfl yo (by decide) (.cons rfl rfl rfl rfl (yd (congrArg rwT.flat (show P ++ A1 ++ B1 ++ A2 ++ B2 ++ Q = P ++ yM (A1 ++ B1) ++ A2 ++ B2 ++ Q by rw [← e]; simp only [List.append_assoc])) (zE _ _)) .nil) (by
            repeat' first | exact zj | refine zZ ?_ ?_ | exact zp | exact le_refl rfl | exact zm rfl rfl)⟩
        · have h2 := of_decide_eq_false hbr
          have e := uM sA1 sB1 (by omega)
          exact ⟨rfl, xE 1 [0] rfl rfl yo (by decide) (.cons rfl rfl rfl rfl (yd (congrArg rwT.flat (show P ++ A1 ++ B1 ++ A2 ++ B2 ++ Q = P ++ yM (A1 ++ B1) ++ A2 ++ B2 ++ Q by rw [← e]; simp only [List.append_assoc])) (zE _ _)) .nil) (by
            repeat' first | exact zj | refine zZ ?_ ?_ | exact zp | exact le_refl rfl | exact zm rfl rfl)⟩
        · rename_i h1
          have h1 := of_decide_eq_true h1
          have h2 := of_decide_eq_true hbr
          have c1 := (IH (P ++ yM (A1 ++ B1)) A2 B2 Q (by omega) sA2 sB2 (by omega) (by omega) (by simp only [List.length_append]; omega)).x (ds := P ++ yM (A1 ++ B1) ++ A2 ++ B2 ++ Q) (rs := P ++ yM (A ++ B) ++ Q) (L := L) (a := ((a + w : Nat) : Int)) (m := ((m + (w - i) : Nat) : Int)) (b := (b : Int)) rfl (by simp only [List.length_append]; omega) (by simp only [List.length_append]; omega) (by simp only [List.length_append]; omega) (by simp only [List.length_append]; omega) (by rw [← u4]; simp only [List.append_assoc])
          repeat' first | refine zL ?_ | refine zA ?_ | refine zQ [] ?_ | (refine isA ?_; refine zf rfl ?_) | (refine isL ?_; refine zV rfl (by kernel_rfl) rfl rfl ?_) | (refine zc rfl ?_; refine zU rfl (by kernel_rfl) rfl rfl ?_) | (refine zr 131 ?_; refine za rfl (zv (K := []) (Rs' := [_]) [0] (by decide) rfl c1 (.cons rfl rfl rfl (zE _ _) (zE _ _) .nil) (.cons (.sl rfl) (.cons (.same rfl) (.cons (.same rfl) (.cons (.same rfl) (.cons (.same rfl) .nil))))) (fun q hq => by cases hq) rfl) rfl ?_) | (refine zq 131 rfl ?_; refine zT rfl (by kernel_rfl) rfl (zv (K := []) (Rs' := [_]) [0] (by decide) rfl c1 (.cons rfl rfl rfl (zE _ _) (zE _ _) .nil) (.cons (.sl rfl) (.cons (.same rfl) (.cons (.same rfl) (.cons (.same rfl) (.cons (.same rfl) .nil))))) (fun q hq => by cases hq) rfl) rfl ?_) | exact tK 1 [0] yo (by decide) (.cons rfl rfl rfl rfl (zY (zE _ _)) .nil) | refine zD ?_ | refine zB _ rfl (by kernel_rfl) ?_ | refine zW rfl ?_ | refine zX rfl ?_ | refine zC ?_ | with_reducible refine zO ?_ | refine zI ?_ | refine zJ ?_ | (with_reducible first | refine zM ?_ | refine zN ?_ | refine zF ?_ | refine zH ?_ | refine zG ?_) | refine zP ?_
        · have h2 := of_decide_eq_false hbr
          have e := uM sA2 sB2 (by omega)
          exact tK 1 [0] yo (by decide) (.cons rfl rfl rfl rfl (yd (congrArg rwT.flat (show P ++ yM (A1 ++ B1) ++ A2 ++ B2 ++ Q = P ++ yM (A ++ B) ++ Q by rw [← u4, ← e]; simp only [List.append_assoc])) (zE _ _)) .nil)
        · have h2 := of_decide_eq_false hbr
          have e := uM sA2 sB2 (by omega)
          exact tK 1 [0] yo (by decide) (.cons rfl rfl rfl rfl (yd (congrArg rwT.flat (show P ++ yM (A1 ++ B1) ++ A2 ++ B2 ++ Q = P ++ yM (A ++ B) ++ Q by rw [← u4, ← e]; simp only [List.append_assoc])) (zE _ _)) .nil)
theorem gt : ∀ (N : Nat) (P A B Q : List Rw), A.length + B.length ≤ N → Srt A → Srt B → 0 < A.length → 0 < B.length → (P ++ A ++ B ++ Q).length ≤ 100000000 → kP P A B Q
  | 0, P, A, B, Q, hn, hA, hB, h0, h1, hl => by omega
  | N + 1, P, A, B, Q, hn, hA, hB, h0, h1, hl => by
    rcases Nat.lt_or_ge A.length 2 with hx | hx
    · obtain ⟨x, rfl⟩ := List.length_eq_one_iff.1 (show A.length = 1 by omega)
      exact cF P B Q x hB h1 hl
    · rcases Nat.lt_or_ge B.length 2 with hy | hy
      · obtain ⟨x, rfl⟩ := List.length_eq_one_iff.1 (show B.length = 1 by omega)
        exact cE P A Q x hA hx hl
      · exact cD P A B Q hA hB hx hy hl (fun P' A' B' Q' h => gt N P' A' B' Q' (by omega))
end Go.Proofs.Ytojcojanokhnaaa.Ab
