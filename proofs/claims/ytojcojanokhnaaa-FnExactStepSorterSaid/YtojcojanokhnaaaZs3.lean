/- What the row FnExactStepSorter leans on, part 4: a walk over abstract values, and contracts proved with it. -/
import Derived.WalkKit
import Derived.Laws.Rows
import Derived.RowKit
import Derived.OrdersHeld
import Derived.Deep.RegionHeld3
import Derived.Deep.Draws
import Derived.BigCall
import Derived.KernelRfl
import Derived.Deep.Slices
import Derived.ChangeArms
import Derived.ChangeShapes
import Derived.WideShapes
import Derived.Laws.StructEq
import Derived.Lib.Overlaps
import Derived.Test.YtojcojanokhnaaaProg
import Derived.Test.YtojcojanokhnaaaZs2
set_option linter.unusedVariables false
set_option linter.unusedSimpArgs false
set_option maxRecDepth 20000
set_option maxHeartbeats 8000000
namespace Go.Proofs.Ytojcojanokhnaaa.Ab
open Go.RowKit
theorem wc {P : Program} (id : Nat) {ops : Array Oper} {b : Bool} {c y : Code} {Q : Exit → St → Prop} {S : St} (T : St) (h : AW P (.seq (.region id ops b) c) (fun e S' => e = .normal ∧ Sub T S') S) (k : AW P y Q T) : AW P (.seq (.seq (.region id ops b) c) y) Q S :=
  zL ⟨fun C φ a w hI => wp_mono (h.out C φ a w hI) fun e a' w' hq => by
    obtain ⟨S', φ1, hI', he, hs⟩ := hq
    subst he
    obtain ⟨φ2, h2⟩ := hs C φ1 a' w' hI'
    exact ⟨T, φ2, h2, k⟩⟩
theorem dK {ds rs : List Rw} {L : Nat} {a m b : Int} (P X Y Q : List Rw) (hd : ds = P ++ X ++ Y ++ Q) (hL : L = ds.length) (hl : L ≤ 100000000) (ha : a = (P.length : Int)) (hm : m = ((P ++ X).length : Int)) (hb : b = ((P ++ X ++ Y).length : Int)) (hx : 0 < X.length) (hy : 0 < Y.length) (hr : rs = P ++ Y ++ X ++ Q) :
    zx Go.Proofs.Try.prog 132 [.sl 0 0 L, I a, I m, I b, .fn 64 []] [rwR ds] (.tup []) [rwR rs] true := by
  subst hd hL ha hm hb hr
  exact gM P X Y Q hx hy hl
def lw (P A B Q : List Rw) : Prop := zx Go.Proofs.Try.prog 131 [.sl 0 0 (P ++ A ++ B ++ Q).length, I P.length, I (P ++ A).length, I (P ++ A ++ B).length, .fn 64 []] [rwR (P ++ A ++ B ++ Q)] (.tup []) [rwR (P ++ yK (A ++ B) ++ Q)] true
theorem lw.x {ds rs : List Rw} {L : Nat} {a m b : Int} {P A B Q : List Rw} (h : lw P A B Q) (hd : ds = P ++ A ++ B ++ Q) (hL : L = ds.length) (ha : a = (P.length : Int)) (hm : m = ((P ++ A).length : Int)) (hb : b = ((P ++ A ++ B).length : Int)) (hr : rs = P ++ yK (A ++ B) ++ Q) :
    zx Go.Proofs.Try.prog 131 [.sl 0 0 L, I a, I m, I b, .fn 64 []] [rwR ds] (.tup []) [rwR rs] true := by
  subst hd hL ha hm hb hr
  exact h
theorem uG {A B : List Rw} (hA : Srt A) (hB : Srt B) (h : A.length = 0 ∨ B.length = 0) : A ++ B = yK (A ++ B) := by
  rcases h with h | h
  · rw [List.eq_nil_of_length_eq_zero h, List.nil_append, mL hB]
  · rw [List.eq_nil_of_length_eq_zero h, List.append_nil, mL hA]
theorem dE (P A B Q : List Rw) (hA : Srt A) (hB : Srt B) (h0 : 2 ≤ A.length) (h1 : 2 ≤ B.length) (hl : (P ++ A ++ B ++ Q).length ≤ 100000000)
    (IH : ∀ P' A' B' Q', A'.length + B'.length < A.length + B.length → Srt A' → Srt B' → 0 < A'.length → 0 < B'.length → (P' ++ A' ++ B' ++ Q').length ≤ 100000000 → lw P' A' B' Q') : lw P A B Q := by
  unfold lw
  have l1 : (P ++ A).length = P.length + A.length := by simp
  have l2 : (P ++ A ++ B).length = P.length + A.length + B.length := by simp; omega
  have l3 : (P ++ A ++ B ++ Q).length = P.length + A.length + B.length + Q.length := by simp; omega
  obtain ⟨w, hw⟩ : ∃ w, w = (A.length + B.length) / 2 := ⟨_, rfl⟩
  have hds : ∀ k x, A[k]? = some x → (P ++ A ++ B ++ Q)[0 + (P.length + k)]? = some x := fun k x hx => by
    have := (List.getElem?_eq_some_iff.1 hx).1
    rw [List.getElem?_append_left (by omega), List.getElem?_append_left (by omega), List.getElem?_append_right (by omega), show 0 + (P.length + k) - P.length = k by omega]; exact hx
  have hdb : ∀ k x, B[k]? = some x → (P ++ A ++ B ++ Q)[0 + (P.length + A.length + k)]? = some x := fun k x hx => by
    have := (List.getElem?_eq_some_iff.1 hx).1
    rw [List.getElem?_append_left (by omega), List.getElem?_append_right (by omega), l1, show 0 + (P.length + A.length + k) - (P.length + A.length) = k by omega]; exact hx
  have eds : P ++ A ++ B ++ Q = P ++ A ++ B ++ Q := rfl
  generalize hm : (P ++ A).length = m at l1 ⊢
  generalize hb : (P ++ A ++ B).length = b at l2 ⊢
  generalize hL : (P ++ A ++ B ++ Q).length = L at hl l3 ⊢
  generalize hD : P ++ A ++ B ++ Q = D at hds hdb hL ⊢
  generalize ha : P.length = a at hds hdb l1 l2 l3 ⊢
  have hv : IntKind.i64.wrap (uC .u64 (IntKind.u64.wrap (IntKind.i64.wrap ((a : Int) + (b : Int)))) 1) = ((a + w : Nat) : Int) := by rw [tB (by omega)]; omega
  refine zu [] Go.Proofs.Try.func131 rfl rfl ?_
  simp only [Go.Proofs.Try.ntmps131, List.length_cons, List.length_nil, Nat.reduceAdd, Nat.reduceSub, List.replicate_succ, List.replicate_zero, List.cons_append, List.nil_append]
  repeat' first | refine zL ?_ | refine zA ?_ | refine zQ [] ?_ | (refine isA ?_; refine zg rfl ?_) | (refine isL ?_; refine zW rfl (by kernel_rfl) rfl rfl ?_) | (refine zd rfl ?_; refine zV rfl (by kernel_rfl) rfl rfl ?_) | refine zD ?_ | refine zB _ rfl (by kernel_rfl) ?_ | refine zX rfl ?_ | refine zY rfl ?_ | refine zC ?_ | with_reducible refine zO ?_ | refine zI ?_ | refine zJ ?_ | (with_reducible first | refine zM ?_ | refine zN ?_ | refine zF ?_ | refine zH ?_ | refine zG ?_) | refine zP ?_
  refine zj rfl (fun h => absurd (of_decide_eq_true h) (by rw [IntKind.wrap_i64]; omega)) (fun _ => ?_)
  repeat' first | refine zL ?_ | refine zA ?_ | refine zQ [] ?_ | (refine isA ?_; refine zg rfl ?_) | (refine isL ?_; refine zW rfl (by kernel_rfl) rfl rfl ?_) | (refine zd rfl ?_; refine zV rfl (by kernel_rfl) rfl rfl ?_) | refine zD ?_ | refine zB _ rfl (by kernel_rfl) ?_ | refine zX rfl ?_ | refine zY rfl ?_ | refine zC ?_ | with_reducible refine zO ?_ | refine zI ?_ | refine zJ ?_ | (with_reducible first | refine zM ?_ | refine zN ?_ | refine zF ?_ | refine zH ?_ | refine zG ?_) | refine zP ?_
  refine zj rfl (fun h => absurd (of_decide_eq_true h) (by rw [IntKind.wrap_i64]; omega)) (fun _ => ?_)
  repeat' first | (refine wc 27 ⟨((.sl 0 0 L) :: (I a) :: (I m) :: (I b) :: (.fn 64 []) :: .any :: .any :: .any :: .any :: .any :: .any :: .any :: .any :: .any :: .any :: .any :: .any :: .any :: (I ((a + w : Nat) : Int)) :: (I ((a + w + m : Nat) : Int)) :: (I ((a + (w - B.length) : Nat) : Int)) :: (I ((a + min A.length w : Nat) : Int)) :: .any :: .any :: .any :: .any :: .any :: .any :: .any :: .any :: .any :: .any :: .any :: .any :: .any :: .any :: .any :: .any :: .any :: .any :: .any :: .any :: .any :: .any :: .any :: .any :: .any :: .any :: .any :: .any :: .any :: .any :: .any :: .any :: .any :: .any :: .any :: .any :: .any :: .any :: .any :: .any :: .any :: .any :: .any :: .any :: .any :: .any :: .any :: .any :: .any :: .any :: .any :: .any :: .any :: .any :: .any :: .any :: .any :: .any :: .any :: .any :: .any :: .any :: .any :: .any :: .any :: .any :: .any :: .any :: .any :: .any :: .any :: .any :: .any :: .any :: .any :: .any :: .any :: .any :: .any :: .any :: .any :: .any :: .any :: .any :: .any :: .any :: .any :: .any :: .any :: .any :: .any :: .any :: .any :: .any :: .any :: .any :: .any :: .any :: .any :: .any :: .any :: .any :: .any :: .any :: .any :: .any :: .any :: .any :: .any :: .any :: .any :: .any :: .any :: .any :: .any :: .any :: .any :: .any :: .any :: .any :: .any :: .any :: .any :: .any :: .any :: .any :: .any :: .any :: .any :: .any :: .any :: .any :: .any :: .any :: .any :: .any :: .any :: .any :: .any :: .any :: .any :: .any :: .any :: .any :: .any :: .any :: .any :: .any :: .any :: .any :: .any :: .any :: .any :: .any :: .any :: .any :: .any :: .any :: .any :: .any :: .any :: .any :: .any :: .any :: .any :: .any :: .any :: .any :: .any :: .any :: .any :: .any :: .any :: .any :: .any :: .any :: .any :: .any :: .any :: .any :: .any :: .any :: .any :: .any :: .any :: .any :: .any :: .any :: .any :: .any :: .any :: .any :: .any :: .any :: .any :: .any :: .any :: .any :: []), [rwR D], 1⟩ ?_ ?_) | refine zL ?_ | refine zA ?_ | refine zQ [] ?_ | (refine isA ?_; refine zg rfl ?_) | (refine isL ?_; refine zW rfl (by kernel_rfl) rfl rfl ?_) | (refine zd rfl ?_; refine zV rfl (by kernel_rfl) rfl rfl ?_) | refine za rfl (wj (n := 1) rfl rfl rfl) rfl ?_ | refine zT rfl (by kernel_rfl) rfl (wj (n := 1) rfl rfl rfl) rfl ?_ | refine zD ?_ | refine zB _ rfl (by kernel_rfl) ?_ | refine zX rfl ?_ | refine zY rfl ?_ | refine zC ?_ | with_reducible refine zO ?_ | refine zI ?_ | refine zJ ?_ | (with_reducible first | refine zM ?_ | refine zN ?_ | refine zF ?_ | refine zH ?_ | refine zG ?_) | refine zP ?_
  · have lk : ∀ x y z : Int, (x = ((a + w : Nat) : Int)) → y = ((a + w + m : Nat) : Int) → True := fun _ _ _ _ _ => trivial
    refine zj rfl (fun h => ?_) (fun h => ?_)
    · have q : a + w < m := by have := of_decide_eq_true h; simp only [hv] at this; omega
      repeat' first | refine zL ?_ | refine zA ?_ | refine zQ [] ?_ | (refine isA ?_; refine zg rfl ?_) | (refine isL ?_; refine zW rfl (by kernel_rfl) rfl rfl ?_) | (refine zd rfl ?_; refine zV rfl (by kernel_rfl) rfl rfl ?_) | refine zD ?_ | refine zB _ rfl (by kernel_rfl) ?_ | refine zX rfl ?_ | refine zY rfl ?_ | refine zC ?_ | with_reducible refine zO ?_ | refine zI ?_ | refine zJ ?_ | (with_reducible first | refine zM ?_ | refine zN ?_ | refine zF ?_ | refine zH ?_ | refine zG ?_) | refine zP ?_
      refine ⟨rfl, xT 1 [0] rfl rfl yw (by decide) (.cons rfl rfl rfl rfl (zU (zE _ _)) .nil) (by
        repeat' first | exact zk | refine zc ?_ ?_ | exact zo | exact le_refl rfl | exact zm rfl rfl | exact z8 (congrArg _ hv.symm) | exact z8 (congrArg _ (show ((a + w + m : Nat) : Int) = IntKind.i64.wrap (IntKind.i64.wrap (uC .u64 (IntKind.u64.wrap (IntKind.i64.wrap ((a : Int) + (b : Int)))) 1) + m) by rw [hv, IntKind.wrap_i64]; omega)) | exact z8 (congrArg _ (show ((a + (w - B.length) : Nat) : Int) = IntKind.i64.wrap (IntKind.i64.wrap (IntKind.i64.wrap (uC .u64 (IntKind.u64.wrap (IntKind.i64.wrap ((a : Int) + (b : Int)))) 1) + m) - b) by rw [hv, show IntKind.i64.wrap (((a + w : Nat) : Int) + m) = ((a + w + m : Nat) : Int) by rw [IntKind.wrap_i64]; omega, IntKind.wrap_i64]; omega)) | exact z8 (congrArg _ (show ((a + min A.length w : Nat) : Int) = IntKind.i64.wrap (uC .u64 (IntKind.u64.wrap (IntKind.i64.wrap ((a : Int) + (b : Int)))) 1) by rw [hv, Nat.min_eq_right (by omega)])))⟩
    · have q : m ≤ a + w := by have := of_decide_eq_false h; simp only [hv] at this; omega
      repeat' first | refine zL ?_ | refine zA ?_ | refine zQ [] ?_ | (refine isA ?_; refine zg rfl ?_) | (refine isL ?_; refine zW rfl (by kernel_rfl) rfl rfl ?_) | (refine zd rfl ?_; refine zV rfl (by kernel_rfl) rfl rfl ?_) | refine zD ?_ | refine zB _ rfl (by kernel_rfl) ?_ | refine zX rfl ?_ | refine zY rfl ?_ | refine zC ?_ | with_reducible refine zO ?_ | refine zI ?_ | refine zJ ?_ | (with_reducible first | refine zM ?_ | refine zN ?_ | refine zF ?_ | refine zH ?_ | refine zG ?_) | refine zP ?_
      refine ⟨rfl, xT 1 [0] rfl rfl yw (by decide) (.cons rfl rfl rfl rfl (zU (zE _ _)) .nil) (by
        repeat' first | exact zk | refine zc ?_ ?_ | exact zo | exact le_refl rfl | exact zm rfl rfl | exact z8 (congrArg _ hv.symm) | exact z8 (congrArg _ (show ((a + w + m : Nat) : Int) = IntKind.i64.wrap (IntKind.i64.wrap (uC .u64 (IntKind.u64.wrap (IntKind.i64.wrap ((a : Int) + (b : Int)))) 1) + m) by rw [hv, IntKind.wrap_i64]; omega)) | exact z8 (congrArg _ (show ((a + (w - B.length) : Nat) : Int) = (a : Int) by omega)) | exact z8 (congrArg _ (show ((a + min A.length w : Nat) : Int) = (m : Int) by rw [Nat.min_eq_left (by omega)]; omega)))⟩
  · have ep : IntKind.i64.wrap (((a + w + m : Nat) : Int) - 1) = ((a + w + m - 1 : Nat) : Int) := by rw [IntKind.wrap_i64]; omega
    refine z5 (α := { p : Nat × Nat // CutI A B w p }) (fun p => ⟨((.sl 0 0 L) :: (I a) :: (I m) :: (I b) :: (.fn 64 []) :: .any :: .any :: .any :: .any :: .any :: .any :: .any :: .any :: .any :: .any :: .any :: .any :: .any :: (I ((a + w : Nat) : Int)) :: (I ((a + w + m : Nat) : Int)) :: (I ((a + p.1.1 : Nat) : Int)) :: (I ((a + p.1.2 : Nat) : Int)) :: (I ((a + w + m - 1 : Nat) : Int)) :: .any :: .any :: .any :: .any :: .any :: .any :: .any :: .any :: .any :: .any :: .any :: .any :: .any :: .any :: .any :: .any :: .any :: .any :: .any :: .any :: .any :: .any :: .any :: .any :: .any :: .any :: .any :: .any :: .any :: .any :: .any :: .any :: .any :: .any :: .any :: .any :: .any :: .any :: .any :: .any :: .any :: .any :: .any :: .any :: .any :: .any :: .any :: .any :: .any :: .any :: .any :: .any :: .any :: .any :: .any :: .any :: .any :: .any :: .any :: .any :: .any :: .any :: .any :: .any :: .any :: .any :: .any :: .any :: .any :: .any :: .any :: .any :: .any :: .any :: .any :: .any :: .any :: .any :: .any :: .any :: .any :: .any :: .any :: .any :: .any :: .any :: .any :: .any :: .any :: .any :: .any :: .any :: .any :: .any :: .any :: .any :: .any :: .any :: .any :: .any :: .any :: .any :: .any :: .any :: .any :: .any :: .any :: .any :: .any :: .any :: .any :: .any :: .any :: .any :: .any :: .any :: .any :: .any :: .any :: .any :: .any :: .any :: .any :: .any :: .any :: .any :: .any :: .any :: .any :: .any :: .any :: .any :: .any :: .any :: .any :: .any :: .any :: .any :: .any :: .any :: .any :: .any :: .any :: .any :: .any :: .any :: .any :: .any :: .any :: .any :: .any :: .any :: .any :: .any :: .any :: .any :: .any :: .any :: .any :: .any :: .any :: .any :: .any :: .any :: .any :: .any :: .any :: .any :: .any :: .any :: .any :: .any :: .any :: .any :: .any :: .any :: .any :: .any :: .any :: .any :: .any :: .any :: .any :: .any :: .any :: .any :: .any :: .any :: .any :: .any :: .any :: .any :: .any :: .any :: .any :: .any :: .any :: []), [rwR D], 1⟩) (fun p => p.1.2 - p.1.1) ⟨(w - B.length, min A.length w), cut0 hw⟩ ?_ ?_
    · exact xT 1 [0] rfl rfl yw (by decide) (.cons rfl rfl rfl rfl (zU (zE _ _)) .nil) (by
        repeat' first | exact zk | refine zc ?_ ?_ | exact zo | exact le_refl rfl | exact zm rfl rfl | exact z8 (congrArg _ ep.symm))
    · rintro ⟨⟨i, j⟩, J⟩
      have j1 : w - B.length ≤ i := J.lo
      have j2 : i ≤ j := J.le
      have j3 : j ≤ min A.length w := J.hi
      repeat' first | refine zL ?_ | refine zA ?_ | refine zQ [] ?_ | (refine isA ?_; refine zg rfl ?_) | (refine isL ?_; refine zW rfl (by kernel_rfl) rfl rfl ?_) | (refine zd rfl ?_; refine zV rfl (by kernel_rfl) rfl rfl ?_) | refine zD ?_ | refine zB _ rfl (by kernel_rfl) ?_ | refine zX rfl ?_ | refine zY rfl ?_ | refine zC ?_ | with_reducible refine zO ?_ | refine zI ?_ | refine zJ ?_ | (with_reducible first | refine zM ?_ | refine zN ?_ | refine zF ?_ | refine zH ?_ | refine zG ?_) | refine zP ?_
      refine zj rfl (fun h => ?_) (fun h => ?_)
      · have hlt : i < j := by have := of_decide_eq_true h; simp only at this; omega
        obtain ⟨k, hk⟩ : ∃ k, k = (i + j) / 2 := ⟨_, rfl⟩
        have k1 : i ≤ k ∧ k < j := by omega
        have hc : IntKind.i64.wrap (uC .u64 (IntKind.u64.wrap (IntKind.i64.wrap (((a + i : Nat) : Int) + ((a + j : Nat) : Int)))) 1) = ((a + k : Nat) : Int) := by
          rw [tB (by omega)]; omega
        have hpc : IntKind.i64.wrap (((a + w + m - 1 : Nat) : Int) - IntKind.i64.wrap (uC .u64 (IntKind.u64.wrap (IntKind.i64.wrap (((a + i : Nat) : Int) + ((a + j : Nat) : Int)))) 1)) = ((a + A.length + (w - 1 - k) : Nat) : Int) := by
          rw [hc, IntKind.wrap_i64]; omega
        obtain ⟨x, hx⟩ : ∃ z, A[k]? = some z := ⟨_, List.getElem?_eq_getElem (by omega)⟩
        obtain ⟨y, hy⟩ : ∃ z, B[w - 1 - k]? = some z := ⟨_, List.getElem?_eq_getElem (by omega)⟩
        have gx := hds k x hx
        have gy := hdb (w - 1 - k) y hy
        repeat' first | refine zL ?_ | refine zA ?_ | refine zQ [] ?_ | (refine isA ?_; refine zg rfl ?_) | (refine isL ?_; refine zW rfl (by kernel_rfl) rfl rfl ?_) | (refine zd rfl ?_; refine zV rfl (by kernel_rfl) rfl rfl ?_) | refine za rfl (wj (n := 1) rfl rfl rfl) rfl ?_ | refine zT rfl (by kernel_rfl) rfl (wj (n := 1) rfl rfl rfl) rfl ?_ | (refine z7 (x := .tmp 159) ?_; refine za rfl (zn (j := ((a + A.length + (w - 1 - k) : Nat) : Int)) rfl rfl rfl (Nat.zero_le _) rfl (congrArg I hpc) (Int.natCast_nonneg _) (by omega)) rfl ?_) | (refine z6 (x := .tmp 159) rfl ?_; refine zT rfl (by kernel_rfl) rfl (zn (j := ((a + A.length + (w - 1 - k) : Nat) : Int)) rfl rfl rfl (Nat.zero_le _) rfl (congrArg I hpc) (Int.natCast_nonneg _) (by omega)) rfl ?_) | (refine z7 (x := .tmp 165) ?_; refine za rfl (zn (j := ((a + k : Nat) : Int)) rfl rfl rfl (Nat.zero_le _) rfl (congrArg I hc) (Int.natCast_nonneg _) (by omega)) rfl ?_) | (refine z6 (x := .tmp 165) rfl ?_; refine zT rfl (by kernel_rfl) rfl (zn (j := ((a + k : Nat) : Int)) rfl rfl rfl (Nat.zero_le _) rfl (congrArg I hc) (Int.natCast_nonneg _) (by omega)) rfl ?_) | (refine yt (x := .tmp 163) ?_; refine za rfl (yx (T := rwT) (i := 0 + (a + A.length + (w - 1 - k))) (z := y) rfl rfl rfl gy) rfl ?_) | (refine yr (x := .tmp 163) rfl ?_; refine zT rfl (by kernel_rfl) rfl (yx (T := rwT) (i := 0 + (a + A.length + (w - 1 - k))) (z := y) rfl rfl rfl gy) rfl ?_) | (refine yt (x := .tmp 167) ?_; refine za rfl (yx (T := rwT) (i := 0 + (a + k)) (z := x) rfl rfl rfl gx) rfl ?_) | (refine yr (x := .tmp 167) rfl ?_; refine zT rfl (by kernel_rfl) rfl (yx (T := rwT) (i := 0 + (a + k)) (z := x) rfl rfl rfl gx) rfl ?_) | refine za rfl (wl rfl rfl (xW y x) (.cons (.same rfl) (.cons (.same rfl) .nil)) rfl) rfl ?_ | refine zT rfl (by kernel_rfl) rfl (wl rfl rfl (xW y x) (.cons (.same rfl) (.cons (.same rfl) .nil)) rfl) rfl ?_ | refine zD ?_ | refine zB _ rfl (by kernel_rfl) ?_ | refine zX rfl ?_ | refine zY rfl ?_ | refine zC ?_ | with_reducible refine zO ?_ | refine zI ?_ | refine zJ ?_ | (with_reducible first | refine zM ?_ | refine zN ?_ | refine zF ?_ | refine zH ?_ | refine zG ?_) | refine zP ?_
        refine zj rfl (fun p => ?_) (fun p => ?_)
        · have q : leW x y := Classical.byContradiction fun hn => by
            have := wF.2 hn
            simp [this] at p
          repeat' first | refine zL ?_ | refine zA ?_ | refine zQ [] ?_ | (refine isA ?_; refine zg rfl ?_) | (refine isL ?_; refine zW rfl (by kernel_rfl) rfl rfl ?_) | (refine zd rfl ?_; refine zV rfl (by kernel_rfl) rfl rfl ?_) | refine zD ?_ | refine zB _ rfl (by kernel_rfl) ?_ | refine zX rfl ?_ | refine zY rfl ?_ | refine zC ?_ | with_reducible refine zO ?_ | refine zI ?_ | refine zJ ?_ | (with_reducible first | refine zM ?_ | refine zN ?_ | refine zF ?_ | refine zH ?_ | refine zG ?_) | refine zP ?_
          refine ⟨⟨(k + 1, j), ⟨by simp only; omega, by simp only; omega, j3, fun x' y' _ hx' hy' => ?_, J.hhi⟩⟩, by simp only; omega, ?_⟩
          · simp only [Nat.add_sub_cancel] at hx'
            rw [hx] at hx'
            cases hx'
            rw [show w - (k + 1, j).1 = w - 1 - k by simp only; omega, hy] at hy'
            cases hy'
            exact q
          · exact xT 1 [0] rfl rfl yw (by decide) (.cons rfl rfl rfl rfl (zU (zE _ _)) .nil) (by
              repeat' first | exact zk | refine zc ?_ ?_ | exact zo | exact le_refl rfl | exact zm rfl rfl | exact z8 (congrArg _ (show ((a + (k + 1) : Nat) : Int) = IntKind.i64.wrap (IntKind.i64.wrap (uC .u64 (IntKind.u64.wrap (IntKind.i64.wrap (((a + i : Nat) : Int) + ((a + j : Nat) : Int)))) 1) + 1) by rw [hc, IntKind.wrap_i64]; omega)))
        · have q : leW y x := vl (wF.1 (by simpa using p))
          repeat' first | refine zL ?_ | refine zA ?_ | refine zQ [] ?_ | (refine isA ?_; refine zg rfl ?_) | (refine isL ?_; refine zW rfl (by kernel_rfl) rfl rfl ?_) | (refine zd rfl ?_; refine zV rfl (by kernel_rfl) rfl rfl ?_) | refine zD ?_ | refine zB _ rfl (by kernel_rfl) ?_ | refine zX rfl ?_ | refine zY rfl ?_ | refine zC ?_ | with_reducible refine zO ?_ | refine zI ?_ | refine zJ ?_ | (with_reducible first | refine zM ?_ | refine zN ?_ | refine zF ?_ | refine zH ?_ | refine zG ?_) | refine zP ?_
          refine ⟨⟨(i, k), ⟨j1, k1.1, by simp only; omega, J.hlo, fun y' x' _ hy' hx' => ?_⟩⟩, by simp only; omega, ?_⟩
          · rw [hx] at hx'
            cases hx'
            rw [hy] at hy'
            cases hy'
            exact q
          · exact xT 1 [0] rfl rfl yw (by decide) (.cons rfl rfl rfl rfl (zU (zE _ _)) .nil) (by
              repeat' first | exact zk | refine zc ?_ ?_ | exact zo | exact le_refl rfl | exact zm rfl rfl | exact z8 (congrArg _ hc.symm))
      · obtain rfl : i = j := by have := of_decide_eq_false h; simp only at this; omega
        obtain ⟨u1, u2, u3, u4⟩ := fK hw hA hB J
        have ea : A.take i ++ A.drop i = A := List.take_append_drop _ _
        have eb : B.take (w - i) ++ B.drop (w - i) = B := List.take_append_drop _ _
        have sA1 : Srt (A.take i) := hA.sublist (List.take_sublist _ _)
        have sA2 : Srt (A.drop i) := hA.sublist (List.drop_sublist _ _)
        have sB1 : Srt (B.take (w - i)) := hB.sublist (List.take_sublist _ _)
        have sB2 : Srt (B.drop (w - i)) := hB.sublist (List.drop_sublist _ _)
        have nA1 : (A.take i).length = i := by simp; omega
        have nA2 : (A.drop i).length = A.length - i := by simp
        have nB1 : (B.take (w - i)).length = w - i := by simp; omega
        have nB2 : (B.drop (w - i)).length = B.length - (w - i) := by simp
        have hD' : D = P ++ A.take i ++ A.drop i ++ B.take (w - i) ++ B.drop (w - i) ++ Q := by
          rw [← hD]; simp only [List.append_assoc]; rw [← List.append_assoc (A.take i), ea, ← List.append_assoc (B.take (w - i)), eb]
        generalize A.take i = A1 at *
        generalize A.drop i = A2 at *
        generalize B.take (w - i) = B1 at *
        generalize B.drop (w - i) = B2 at *
        have ee : IntKind.i64.wrap (((a + w + m : Nat) : Int) - ((a + i : Nat) : Int)) = ((m + (w - i) : Nat) : Int) := by rw [IntKind.wrap_i64]; omega
        have r1 : P ++ A1 ++ A2 ++ B1 ++ B2 ++ Q = P ++ A1 ++ B1 ++ A2 ++ B2 ++ Q ∨ (0 < A2.length ∧ 0 < B1.length) := by
          rcases Nat.eq_zero_or_pos A2.length with h | h
          · left; rw [List.eq_nil_of_length_eq_zero h]; simp
          · rcases Nat.eq_zero_or_pos B1.length with k | k
            · left; rw [List.eq_nil_of_length_eq_zero k]; simp
            · exact Or.inr ⟨h, k⟩
        have dl : P.length = a := ha
        have sl1 := wm (A1 ++ B1)
        rw [List.length_append] at sl1
        have hLs : L = a + A1.length + A2.length + B1.length + B2.length + Q.length := by omega
        repeat' first | (refine wc 39 ⟨((.sl 0 0 L) :: (I a) :: (I m) :: (I b) :: (.fn 64 []) :: .any :: .any :: .any :: .any :: .any :: .any :: .any :: .any :: .any :: .any :: .any :: .any :: .any :: (I ((a + w : Nat) : Int)) :: .any :: (I ((a + i : Nat) : Int)) :: .any :: .any :: .any :: (I ((m + (w - i) : Nat) : Int)) :: .any :: .any :: .any :: .any :: .any :: .any :: .any :: .any :: .any :: .any :: .any :: .any :: .any :: .any :: .any :: .any :: .any :: .any :: .any :: .any :: .any :: .any :: .any :: .any :: .any :: .any :: .any :: .any :: .any :: .any :: .any :: .any :: .any :: .any :: .any :: .any :: .any :: .any :: .any :: .any :: .any :: .any :: .any :: .any :: .any :: .any :: .any :: .any :: .any :: .any :: .any :: .any :: .any :: .any :: .any :: .any :: .any :: .any :: .any :: .any :: .any :: .any :: .any :: .any :: .any :: .any :: .any :: .any :: .any :: .any :: .any :: .any :: .any :: .any :: .any :: .any :: .any :: .any :: .any :: .any :: .any :: .any :: .any :: .any :: .any :: .any :: .any :: .any :: .any :: .any :: .any :: .any :: .any :: .any :: .any :: .any :: .any :: .any :: .any :: .any :: .any :: .any :: .any :: .any :: .any :: .any :: .any :: .any :: .any :: .any :: .any :: .any :: .any :: .any :: .any :: .any :: .any :: .any :: .any :: .any :: .any :: .any :: .any :: .any :: .any :: .any :: .any :: .any :: .any :: .any :: .any :: .any :: .any :: .any :: .any :: .any :: .any :: .any :: .any :: .any :: .any :: .any :: .any :: .any :: .any :: .any :: .any :: .any :: .any :: .any :: .any :: .any :: .any :: .any :: .any :: .any :: .any :: .any :: .any :: .any :: .any :: .any :: .any :: .any :: .any :: .any :: .any :: .any :: .any :: .any :: .any :: .any :: .any :: .any :: .any :: .any :: .any :: .any :: .any :: .any :: .any :: .any :: .any :: .any :: .any :: .any :: .any :: .any :: .any :: .any :: .any :: .any :: .any :: .any :: .any :: []), [rwR (P ++ A1 ++ B1 ++ A2 ++ B2 ++ Q)], 1⟩ ?_ ?_) | (refine wc 41 ⟨((.sl 0 0 L) :: (I a) :: (I m) :: (I b) :: (.fn 64 []) :: .any :: .any :: .any :: .any :: .any :: .any :: .any :: .any :: .any :: .any :: .any :: .any :: .any :: (I ((a + w : Nat) : Int)) :: .any :: (I ((a + i : Nat) : Int)) :: .any :: .any :: .any :: (I ((m + (w - i) : Nat) : Int)) :: .any :: .any :: .any :: .any :: .any :: .any :: .any :: .any :: .any :: .any :: .any :: .any :: .any :: .any :: .any :: .any :: .any :: .any :: .any :: .any :: .any :: .any :: .any :: .any :: .any :: .any :: .any :: .any :: .any :: .any :: .any :: .any :: .any :: .any :: .any :: .any :: .any :: .any :: .any :: .any :: .any :: .any :: .any :: .any :: .any :: .any :: .any :: .any :: .any :: .any :: .any :: .any :: .any :: .any :: .any :: .any :: .any :: .any :: .any :: .any :: .any :: .any :: .any :: .any :: .any :: .any :: .any :: .any :: .any :: .any :: .any :: .any :: .any :: .any :: .any :: .any :: .any :: .any :: .any :: .any :: .any :: .any :: .any :: .any :: .any :: .any :: .any :: .any :: .any :: .any :: .any :: .any :: .any :: .any :: .any :: .any :: .any :: .any :: .any :: .any :: .any :: .any :: .any :: .any :: .any :: .any :: .any :: .any :: .any :: .any :: .any :: .any :: .any :: .any :: .any :: .any :: .any :: .any :: .any :: .any :: .any :: .any :: .any :: .any :: .any :: .any :: .any :: .any :: .any :: .any :: .any :: .any :: .any :: .any :: .any :: .any :: .any :: .any :: .any :: .any :: .any :: .any :: .any :: .any :: .any :: .any :: .any :: .any :: .any :: .any :: .any :: .any :: .any :: .any :: .any :: .any :: .any :: .any :: .any :: .any :: .any :: .any :: .any :: .any :: .any :: .any :: .any :: .any :: .any :: .any :: .any :: .any :: .any :: .any :: .any :: .any :: .any :: .any :: .any :: .any :: .any :: .any :: .any :: .any :: .any :: .any :: .any :: .any :: .any :: .any :: .any :: .any :: .any :: .any :: .any :: []), [rwR (P ++ yK (A1 ++ B1) ++ A2 ++ B2 ++ Q)], 1⟩ ?_ ?_) | refine zL ?_ | refine zA ?_ | refine zQ [] ?_ | (refine isA ?_; refine zg rfl ?_) | (refine isL ?_; refine zW rfl (by kernel_rfl) rfl rfl ?_) | (refine zd rfl ?_; refine zV rfl (by kernel_rfl) rfl rfl ?_) | refine zD ?_ | refine zB _ rfl (by kernel_rfl) ?_ | refine zX rfl ?_ | refine zY rfl ?_ | refine zC ?_ | with_reducible refine zO ?_ | refine zI ?_ | refine zJ ?_ | (with_reducible first | refine zM ?_ | refine zN ?_ | refine zF ?_ | refine zH ?_ | refine zG ?_) | refine zP ?_ | refine zj rfl (fun hbr => ?_) (fun hbr => ?_) | (refine wy ?_; refine yW rfl rfl (fun hbr => ?_) (fun hbr => ?_) <;> (fail_if_success (with_reducible (have hx : true = true := hbr))) <;> (fail_if_success (with_reducible (have hx : false = false := hbr)))) | (refine zd rfl ?_; refine yG rfl rfl rfl rfl (fun hbr => ?_) (fun hbr => ?_) <;> (fail_if_success (with_reducible (have hx : true = true := hbr))) <;> (fail_if_success (with_reducible (have hx : false = false := hbr))))
        · rename_i h1
          have h1 := of_decide_eq_true h1
          have h2 := of_decide_eq_true hbr
          simp only at h1 h2
          rw [ee] at h2
          have c1 := dK (ds := D) (rs := P ++ A1 ++ B1 ++ A2 ++ B2 ++ Q) (L := L) (a := ((a + i : Nat) : Int)) (m := (m : Int)) (b := IntKind.i64.wrap (((a + w + m : Nat) : Int) - ((a + i : Nat) : Int))) (P ++ A1) A2 B1 (B2 ++ Q) (by rw [hD']; simp only [List.append_assoc]) hL.symm hl (by simp only [List.length_append]; omega) (by simp only [List.length_append]; omega) (by rw [ee]; simp only [List.length_append]; omega) (by omega) (by omega) (by simp only [List.append_assoc])
          repeat' first | refine zL ?_ | refine zA ?_ | refine zQ [] ?_ | (refine isA ?_; refine zg rfl ?_) | (refine isL ?_; refine zW rfl (by kernel_rfl) rfl rfl ?_) | (refine zd rfl ?_; refine zV rfl (by kernel_rfl) rfl rfl ?_) | (refine zp 132 ?_; refine za rfl (z2 (K := []) (Rs' := [_]) [0] (by decide) rfl c1 (.cons rfl rfl rfl (zE _ _) (zE _ _) .nil) (.cons (.sl rfl) (.cons (.same rfl) (.cons (.same rfl) (.cons (.same rfl) (.cons (.same rfl) .nil))))) (fun q hq => by cases hq) rfl) rfl ?_) | (refine zq 132 rfl ?_; refine zT rfl (by kernel_rfl) rfl (z2 (K := []) (Rs' := [_]) [0] (by decide) rfl c1 (.cons rfl rfl rfl (zE _ _) (zE _ _) .nil) (.cons (.sl rfl) (.cons (.same rfl) (.cons (.same rfl) (.cons (.same rfl) (.cons (.same rfl) .nil))))) (fun q hq => by cases hq) rfl) rfl ?_) | refine zD ?_ | refine zB _ rfl (by kernel_rfl) ?_ | refine zX rfl ?_ | refine zY rfl ?_ | refine zC ?_ | with_reducible refine zO ?_ | refine zI ?_ | refine zJ ?_ | (with_reducible first | refine zM ?_ | refine zN ?_ | refine zF ?_ | refine zH ?_ | refine zG ?_) | refine zP ?_
          exact ⟨rfl, xT 1 [0] rfl rfl yw (by decide) (.cons rfl rfl rfl rfl (zU (zE _ _)) .nil) (by
            repeat' first | exact zk | refine zc ?_ ?_ | exact zo | exact le_refl rfl | exact zm rfl rfl | exact z8 (congrArg _ ee.symm))⟩
        · have h2 := of_decide_eq_false hbr
          simp only at h2
          rw [ee] at h2
          have e := r1.resolve_right (fun h => by omega)
          rw [← hD'] at e
          exact ⟨rfl, xT 1 [0] rfl rfl yw (by decide) (.cons rfl rfl rfl rfl (yh (congrArg rwT.flat e) (zE _ _)) .nil) (by
            repeat' first | exact zk | refine zc ?_ ?_ | exact zo | exact le_refl rfl | exact zm rfl rfl | exact z8 (congrArg _ ee.symm))⟩
        · have h2 := of_decide_eq_false hbr
          simp only at h2
          have e := r1.resolve_right (fun h => by omega)
          rw [← hD'] at e
          exact ⟨rfl, xT 1 [0] rfl rfl yw (by decide) (.cons rfl rfl rfl rfl (yh (congrArg rwT.flat e) (zE _ _)) .nil) (by
            repeat' first | exact zk | refine zc ?_ ?_ | exact zo | exact le_refl rfl | exact zm rfl rfl | exact z8 (congrArg _ ee.symm))⟩
        · rename_i h1
          have h1 := of_decide_eq_true h1
          have h2 := of_decide_eq_true hbr
          have c1 := (IH P A1 B1 (A2 ++ B2 ++ Q) (by omega) sA1 sB1 (by omega) (by omega) (by simp only [List.length_append]; omega)).x (ds := P ++ A1 ++ B1 ++ A2 ++ B2 ++ Q) (rs := P ++ yK (A1 ++ B1) ++ A2 ++ B2 ++ Q) (L := L) (a := (a : Int)) (m := ((a + i : Nat) : Int)) (b := ((a + w : Nat) : Int)) (by simp only [List.append_assoc]) (by simp only [List.length_append]; omega) (by omega) (by simp only [List.length_append]; omega) (by simp only [List.length_append]; omega) (by simp only [List.append_assoc])
          repeat' first | refine zL ?_ | refine zA ?_ | refine zQ [] ?_ | (refine isA ?_; refine zg rfl ?_) | (refine isL ?_; refine zW rfl (by kernel_rfl) rfl rfl ?_) | (refine zd rfl ?_; refine zV rfl (by kernel_rfl) rfl rfl ?_) | (refine zp 131 ?_; refine za rfl (z2 (K := []) (Rs' := [_]) [0] (by decide) rfl c1 (.cons rfl rfl rfl (zE _ _) (zE _ _) .nil) (.cons (.sl rfl) (.cons (.same rfl) (.cons (.same rfl) (.cons (.same rfl) (.cons (.same rfl) .nil))))) (fun q hq => by cases hq) rfl) rfl ?_) | (refine zq 131 rfl ?_; refine zT rfl (by kernel_rfl) rfl (z2 (K := []) (Rs' := [_]) [0] (by decide) rfl c1 (.cons rfl rfl rfl (zE _ _) (zE _ _) .nil) (.cons (.sl rfl) (.cons (.same rfl) (.cons (.same rfl) (.cons (.same rfl) (.cons (.same rfl) .nil))))) (fun q hq => by cases hq) rfl) rfl ?_) | refine zD ?_ | refine zB _ rfl (by kernel_rfl) ?_ | refine zX rfl ?_ | refine zY rfl ?_ | refine zC ?_ | with_reducible refine zO ?_ | refine zI ?_ | refine zJ ?_ | (with_reducible first | refine zM ?_ | refine zN ?_ | refine zF ?_ | refine zH ?_ | refine zG ?_) | refine zP ?_
          exact ⟨rfl, xT 1 [0] rfl rfl yw (by decide) (.cons rfl rfl rfl rfl (zU (zE _ _)) .nil) (by
            repeat' first | exact zk | refine zc ?_ ?_ | exact zo | exact le_refl rfl | exact zm rfl rfl)⟩
        · have h2 := of_decide_eq_false hbr
          have e := uG sA1 sB1 (by omega)
          exact ⟨rfl, xT 1 [0] rfl rfl yw (by decide) (.cons rfl rfl rfl rfl (yh (congrArg rwT.flat (show P ++ A1 ++ B1 ++ A2 ++ B2 ++ Q = P ++ yK (A1 ++ B1) ++ A2 ++ B2 ++ Q by rw [← e]; simp only [List.append_assoc])) (zE _ _)) .nil) (by
            repeat' first | exact zk | refine zc ?_ ?_ | exact zo | exact le_refl rfl | exact zm rfl rfl)⟩
        · have h2 := of_decide_eq_false hbr
          have e := uG sA1 sB1 (by omega)
          exact ⟨rfl, xT 1 [0] rfl rfl yw (by decide) (.cons rfl rfl rfl rfl (yh (congrArg rwT.flat (show P ++ A1 ++ B1 ++ A2 ++ B2 ++ Q = P ++ yK (A1 ++ B1) ++ A2 ++ B2 ++ Q by rw [← e]; simp only [List.append_assoc])) (zE _ _)) .nil) (by
            repeat' first | exact zk | refine zc ?_ ?_ | exact zo | exact le_refl rfl | exact zm rfl rfl)⟩
        · rename_i h1
          have h1 := of_decide_eq_true h1
          have h2 := of_decide_eq_true hbr
          have c1 := (IH (P ++ yK (A1 ++ B1)) A2 B2 Q (by omega) sA2 sB2 (by omega) (by omega) (by simp only [List.length_append]; omega)).x (ds := P ++ yK (A1 ++ B1) ++ A2 ++ B2 ++ Q) (rs := P ++ yK (A ++ B) ++ Q) (L := L) (a := ((a + w : Nat) : Int)) (m := ((m + (w - i) : Nat) : Int)) (b := (b : Int)) rfl (by simp only [List.length_append]; omega) (by simp only [List.length_append]; omega) (by simp only [List.length_append]; omega) (by simp only [List.length_append]; omega) (by rw [← u4]; simp only [List.append_assoc])
          repeat' first | refine zL ?_ | refine zA ?_ | refine zQ [] ?_ | (refine isA ?_; refine zg rfl ?_) | (refine isL ?_; refine zW rfl (by kernel_rfl) rfl rfl ?_) | (refine zd rfl ?_; refine zV rfl (by kernel_rfl) rfl rfl ?_) | (refine zp 131 ?_; refine za rfl (z2 (K := []) (Rs' := [_]) [0] (by decide) rfl c1 (.cons rfl rfl rfl (zE _ _) (zE _ _) .nil) (.cons (.sl rfl) (.cons (.same rfl) (.cons (.same rfl) (.cons (.same rfl) (.cons (.same rfl) .nil))))) (fun q hq => by cases hq) rfl) rfl ?_) | (refine zq 131 rfl ?_; refine zT rfl (by kernel_rfl) rfl (z2 (K := []) (Rs' := [_]) [0] (by decide) rfl c1 (.cons rfl rfl rfl (zE _ _) (zE _ _) .nil) (.cons (.sl rfl) (.cons (.same rfl) (.cons (.same rfl) (.cons (.same rfl) (.cons (.same rfl) .nil))))) (fun q hq => by cases hq) rfl) rfl ?_) | exact tF 1 [0] yw (by decide) (.cons rfl rfl rfl rfl (zU (zE _ _)) .nil) | refine zD ?_ | refine zB _ rfl (by kernel_rfl) ?_ | refine zX rfl ?_ | refine zY rfl ?_ | refine zC ?_ | with_reducible refine zO ?_ | refine zI ?_ | refine zJ ?_ | (with_reducible first | refine zM ?_ | refine zN ?_ | refine zF ?_ | refine zH ?_ | refine zG ?_) | refine zP ?_
        · have h2 := of_decide_eq_false hbr
          have e := uG sA2 sB2 (by omega)
          exact tF 1 [0] yw (by decide) (.cons rfl rfl rfl rfl (yh (congrArg rwT.flat (show P ++ yK (A1 ++ B1) ++ A2 ++ B2 ++ Q = P ++ yK (A ++ B) ++ Q by rw [← u4, ← e]; simp only [List.append_assoc])) (zE _ _)) .nil)
        · have h2 := of_decide_eq_false hbr
          have e := uG sA2 sB2 (by omega)
          exact tF 1 [0] yw (by decide) (.cons rfl rfl rfl rfl (yh (congrArg rwT.flat (show P ++ yK (A1 ++ B1) ++ A2 ++ B2 ++ Q = P ++ yK (A ++ B) ++ Q by rw [← u4, ← e]; simp only [List.append_assoc])) (zE _ _)) .nil)
theorem gH : ∀ (N : Nat) (P A B Q : List Rw), A.length + B.length ≤ N → Srt A → Srt B → 0 < A.length → 0 < B.length → (P ++ A ++ B ++ Q).length ≤ 100000000 → lw P A B Q
  | 0, P, A, B, Q, hn, hA, hB, h0, h1, hl => by omega
  | N + 1, P, A, B, Q, hn, hA, hB, h0, h1, hl => by
    rcases Nat.lt_or_ge A.length 2 with hx | hx
    · obtain ⟨x, rfl⟩ := List.length_eq_one_iff.1 (show A.length = 1 by omega)
      exact dG P B Q x hB h1 hl
    · rcases Nat.lt_or_ge B.length 2 with hy | hy
      · obtain ⟨x, rfl⟩ := List.length_eq_one_iff.1 (show B.length = 1 by omega)
        exact dF P A Q x hA hx hl
      · exact dE P A B Q hA hB hx hy hl (fun P' A' B' Q' h => gH N P' A' B' Q' (by omega))
end Go.Proofs.Ytojcojanokhnaaa.Ab
namespace Go.Proofs.Ytojcojanokhnaaa.Ab
open Go.RowKit
theorem lr (xs : List Rw) (a : Nat) (h2 : a ≤ xs.length) (hl : xs.length ≤ 100000000) : zx Go.Proofs.Try.prog 130 [.sl 0 0 xs.length, I a, I a, .fn 64 []] [rwR xs] (.tup []) [rwR xs] true := by
  refine zu [] Go.Proofs.Try.func130 rfl rfl ?_
  simp only [Go.Proofs.Try.ntmps130, List.length_cons, List.length_nil, Nat.reduceAdd, Nat.reduceSub, List.replicate_succ, List.replicate_zero, List.cons_append, List.nil_append]
  repeat' first | refine zL ?_ | refine zA ?_ | refine zQ [] ?_ | (refine isA ?_; refine zg rfl ?_) | (refine isL ?_; refine zW rfl (by kernel_rfl) rfl rfl ?_) | (refine zd rfl ?_; refine zV rfl (by kernel_rfl) rfl rfl ?_) | refine zD ?_ | refine zB _ rfl (by kernel_rfl) ?_ | refine zX rfl ?_ | refine zY rfl ?_ | refine zC ?_ | with_reducible refine zO ?_ | refine zI ?_ | refine zJ ?_ | (with_reducible first | refine zM ?_ | refine zN ?_ | refine zF ?_ | refine zH ?_ | refine zG ?_) | refine zP ?_
  refine z5 (α := Unit) (fun i => ⟨[.sl 0 0 xs.length, I a, I a, .fn 64 [], .any, .any, .any, .any, I ((a + 1 : Nat) : Int), .any, .any, .any, .any, .any, .any, .any, .any, .any, .any, .any, .any, .any, .any, .any, .any, .any, .any, .any, .any, .any, .any, .any, .any, .any, .any, .any, .any, .any, .any, .any, .any, .any, .any, .any, .any, .any, .any, .any, .any, .any, .any, .any, .any], [rwR xs], 1⟩) (fun i => 0) () ?_ ?_
  · exact xT 1 [0] rfl rfl yw (by decide) (.cons rfl rfl rfl rfl (zU (zE _ _)) .nil) (by
      repeat' first | exact zk | refine zc ?_ ?_ | exact zo | exact le_refl rfl | exact zm rfl rfl | exact z8 (congrArg _ (show ((a + 1 : Nat) : Int) = IntKind.i64.wrap ((a : Int) + 1) by rw [IntKind.wrap_i64]; omega)))
  · rintro ⟨⟩
    repeat' first | refine zL ?_ | refine zA ?_ | refine zQ [] ?_ | (refine isA ?_; refine zg rfl ?_) | (refine isL ?_; refine zW rfl (by kernel_rfl) rfl rfl ?_) | (refine zd rfl ?_; refine zV rfl (by kernel_rfl) rfl rfl ?_) | refine zD ?_ | refine zB _ rfl (by kernel_rfl) ?_ | refine zX rfl ?_ | refine zY rfl ?_ | refine zC ?_ | with_reducible refine zO ?_ | refine zI ?_ | refine zJ ?_ | (with_reducible first | refine zM ?_ | refine zN ?_ | refine zF ?_ | refine zH ?_ | refine zG ?_) | refine zP ?_
    refine zj rfl (fun h => absurd (of_decide_eq_true h) (by omega)) (fun h => ?_)
    repeat' first | refine zL ?_ | refine zA ?_ | refine zQ [] ?_ | (refine isA ?_; refine zg rfl ?_) | (refine isL ?_; refine zW rfl (by kernel_rfl) rfl rfl ?_) | (refine zd rfl ?_; refine zV rfl (by kernel_rfl) rfl rfl ?_) | exact tF 1 [0] yw (by decide) (.cons rfl rfl rfl rfl (zU (zE _ _)) .nil) | refine zD ?_ | refine zB _ rfl (by kernel_rfl) ?_ | refine zX rfl ?_ | refine zY rfl ?_ | refine zC ?_ | with_reducible refine zO ?_ | refine zI ?_ | refine zJ ?_ | (with_reducible first | refine zM ?_ | refine zN ?_ | refine zF ?_ | refine zH ?_ | refine zG ?_) | refine zP ?_
theorem gS {ds rs : List Rw} {L : Nat} {a b : Int} (U X W : List Rw) (hd : ds = U ++ X ++ W) (hL : L = ds.length) (hl : L ≤ 100000000) (ha : a = (U.length : Int)) (hb : b = ((U ++ X).length : Int)) (hr : rs = U ++ yK X ++ W) :
    zx Go.Proofs.Try.prog 130 [.sl 0 0 L, I a, I b, .fn 64 []] [rwR ds] (.tup []) [rwR rs] true := by
  subst hd hL ha hb hr
  rcases Nat.eq_zero_or_pos X.length with h | h
  · rw [List.eq_nil_of_length_eq_zero h]
    have q := lr (U ++ W) U.length (by simp) (by simp at hl ⊢; omega)
    rw [show yK ([] : List Rw) = [] from rfl, List.append_nil]
    exact q
  · have q := gR (U ++ X ++ W) U.length (U ++ X).length (by simp; omega) (by simp) hl
    have e : sR (U ++ X ++ W) U.length (U ++ X).length = U ++ yK X ++ W := by
      unfold sR
      rw [show (U ++ X ++ W).take U.length = U by rw [List.append_assoc]; exact List.take_left' rfl, show (U ++ X ++ W).drop U.length = X ++ W by rw [List.append_assoc]; exact List.drop_left' rfl, show (U ++ X).length - U.length = X.length by simp, show (X ++ W).take X.length = X from List.take_left' rfl, show (U ++ X ++ W).drop (U ++ X).length = W from List.drop_left' rfl, List.append_assoc]
    rw [e] at q
    exact q
structure Bkk (s : Nat) (xs : List Rw) (p : List Rw × List Rw) : Prop where
  f : n9 s p.1
  p : (p.1 ++ p.2).Perm xs
theorem Bkk.len {s : Nat} {xs : List Rw} {p : List Rw × List Rw} (h : Bkk s xs p) : p.1.length + p.2.length = xs.length := by
  have := h.p.length_eq
  rw [List.length_append] at this
  exact this
theorem nG (xs : List Rw) (hl : xs.length ≤ 100000000) : zx Go.Proofs.Try.prog 129 [.sl 0 0 xs.length, I xs.length, .fn 64 []] [rwR xs] (.tup []) [rwR (yK xs)] true := by
  refine zu [] Go.Proofs.Try.func129 rfl rfl ?_
  simp only [Go.Proofs.Try.ntmps129, List.length_cons, List.length_nil, Nat.reduceAdd, Nat.reduceSub, List.replicate_succ, List.replicate_zero, List.cons_append, List.nil_append]
  repeat' first | refine zL ?_ | refine zA ?_ | refine zQ [] ?_ | (refine isA ?_; refine zg rfl ?_) | (refine isL ?_; refine zW rfl (by kernel_rfl) rfl rfl ?_) | (refine zd rfl ?_; refine zV rfl (by kernel_rfl) rfl rfl ?_) | refine zD ?_ | refine zB _ rfl (by kernel_rfl) ?_ | refine zX rfl ?_ | refine zY rfl ?_ | refine zC ?_ | with_reducible refine zO ?_ | refine zI ?_ | refine zJ ?_ | (with_reducible first | refine zM ?_ | refine zN ?_ | refine zF ?_ | refine zH ?_ | refine zG ?_) | refine zP ?_
  refine z5 (α := { p : List Rw × List Rw // Bkk 20 xs p }) (fun p => ⟨((.sl 0 0 xs.length) :: (I xs.length) :: (.fn 64 []) :: .any :: .any :: .any :: (I 20) :: (I p.1.1.length) :: (I ((p.1.1.length + 20 : Nat) : Int)) :: .any :: .any :: .any :: .any :: .any :: .any :: .any :: .any :: .any :: .any :: .any :: .any :: .any :: .any :: .any :: .any :: .any :: .any :: .any :: .any :: .any :: .any :: .any :: .any :: .any :: .any :: .any :: .any :: .any :: .any :: .any :: .any :: .any :: .any :: .any :: .any :: .any :: .any :: .any :: .any :: .any :: .any :: .any :: .any :: .any :: .any :: .any :: .any :: .any :: .any :: .any :: .any :: .any :: .any :: []), [rwR (p.1.1 ++ p.1.2)], 1⟩) (fun p => p.1.2.length) ⟨([], xs), pr, .refl _⟩ ?_ ?_
  · exact xT 1 [0] rfl rfl yw (by decide) (.cons rfl rfl rfl rfl (zU (zE _ _)) .nil) (by repeat' first | exact zk | refine zc ?_ ?_ | exact zo | exact le_refl rfl | exact zm rfl rfl | exact zt rfl)
  · rintro ⟨⟨U, V⟩, J⟩
    have j1 : U.length + V.length = xs.length := J.len
    have j2 : (U ++ V).Perm xs := J.p
    have j3 : n9 20 U := J.f
    repeat' first | refine zL ?_ | refine zA ?_ | refine zQ [] ?_ | (refine isA ?_; refine zg rfl ?_) | (refine isL ?_; refine zW rfl (by kernel_rfl) rfl rfl ?_) | (refine zd rfl ?_; refine zV rfl (by kernel_rfl) rfl rfl ?_) | refine zD ?_ | refine zB _ rfl (by kernel_rfl) ?_ | refine zX rfl ?_ | refine zY rfl ?_ | refine zC ?_ | with_reducible refine zO ?_ | refine zI ?_ | refine zJ ?_ | (with_reducible first | refine zM ?_ | refine zN ?_ | refine zF ?_ | refine zH ?_ | refine zG ?_) | refine zP ?_
    refine zj rfl (fun h => ?_) (fun h => ?_)
    · have hlt : 20 ≤ V.length := by have := of_decide_eq_true h; simp only at this; omega
      have t1 : V.take 20 ++ V.drop 20 = V := List.take_append_drop _ _
      have t2 : (V.take 20).length = 20 := by simp; omega
      have t3 := (yf (V.take 20)).length_eq
      have t4 : (V.drop 20).length = V.length - 20 := by simp
      have c1 := gS (ds := U ++ V) (rs := U ++ yK (V.take 20) ++ V.drop 20) (L := xs.length) (a := (U.length : Int)) (b := ((U.length + 20 : Nat) : Int)) U (V.take 20) (V.drop 20) (by rw [List.append_assoc, t1]) (by rw [List.length_append]; omega) hl rfl (by rw [List.length_append]; omega) rfl
      repeat' first | refine zL ?_ | refine zA ?_ | refine zQ [] ?_ | (refine isA ?_; refine zg rfl ?_) | (refine isL ?_; refine zW rfl (by kernel_rfl) rfl rfl ?_) | (refine zd rfl ?_; refine zV rfl (by kernel_rfl) rfl rfl ?_) | (refine zp 130 ?_; refine za rfl (z2 (K := []) (Rs' := [_]) [0] (by decide) rfl c1 (.cons rfl rfl rfl (zE _ _) (zE _ _) .nil) (.cons (.sl rfl) (.cons (.same rfl) (.cons (.same rfl) (.cons (.same rfl) .nil)))) (fun q hq => by cases hq) rfl) rfl ?_) | (refine zq 130 rfl ?_; refine zT rfl (by kernel_rfl) rfl (z2 (K := []) (Rs' := [_]) [0] (by decide) rfl c1 (.cons rfl rfl rfl (zE _ _) (zE _ _) .nil) (.cons (.sl rfl) (.cons (.same rfl) (.cons (.same rfl) (.cons (.same rfl) .nil)))) (fun q hq => by cases hq) rfl) rfl ?_) | refine zD ?_ | refine zB _ rfl (by kernel_rfl) ?_ | refine zX rfl ?_ | refine zY rfl ?_ | refine zC ?_ | with_reducible refine zO ?_ | refine zI ?_ | refine zJ ?_ | (with_reducible first | refine zM ?_ | refine zN ?_ | refine zF ?_ | refine zH ?_ | refine zG ?_) | refine zP ?_
      refine ⟨⟨(U ++ yK (V.take 20), V.drop 20), qG j3 (by omega) (xm _), ?_⟩, by simp only; omega, ?_⟩
      · refine List.Perm.trans ?_ j2
        rw [List.append_assoc]
        refine List.Perm.append_left _ ?_
        have := (yf (V.take 20)).append_right (V.drop 20)
        rw [t1] at this
        exact this
      · exact xT 1 [0] rfl rfl yw (by decide) (.cons rfl rfl rfl rfl (zU (zE _ _)) .nil) (by
          repeat' first | exact zk | refine zc ?_ ?_ | exact zo | exact le_refl rfl | exact zm rfl rfl | exact z8 (congrArg _ (show (((U ++ yK (V.take 20)).length : Nat) : Int) = ((U.length + 20 : Nat) : Int) by rw [List.length_append]; omega)) | exact z8 (congrArg _ (show (((U ++ yK (V.take 20)).length + 20 : Nat) : Int) = IntKind.i64.wrap (((U.length + 20 : Nat) : Int) + 20) by rw [List.length_append, IntKind.wrap_i64]; omega)))
    · have hge : V.length < 20 := by have := of_decide_eq_false h; simp only at this; omega
      have t3 := (yf V).length_eq
      have c1 := gS (ds := U ++ V) (rs := U ++ yK V) (L := xs.length) (a := (U.length : Int)) (b := (xs.length : Int)) U V [] (by simp) (by rw [List.length_append]; omega) hl rfl (by rw [List.length_append]; omega) (by simp)
      have b1 : Blk 20 (U ++ yK V) := td j3 (by omega) (xm _)
      have p1 : (U ++ yK V).Perm xs := ((yf V).append_left U).trans j2
      repeat' first | refine zL ?_ | refine zA ?_ | refine zQ [] ?_ | (refine isA ?_; refine zg rfl ?_) | (refine isL ?_; refine zW rfl (by kernel_rfl) rfl rfl ?_) | (refine zd rfl ?_; refine zV rfl (by kernel_rfl) rfl rfl ?_) | (refine zp 130 ?_; refine za rfl (z2 (K := []) (Rs' := [_]) [0] (by decide) rfl c1 (.cons rfl rfl rfl (zE _ _) (zE _ _) .nil) (.cons (.sl rfl) (.cons (.same rfl) (.cons (.same rfl) (.cons (.same rfl) .nil)))) (fun q hq => by cases hq) rfl) rfl ?_) | (refine zq 130 rfl ?_; refine zT rfl (by kernel_rfl) rfl (z2 (K := []) (Rs' := [_]) [0] (by decide) rfl c1 (.cons rfl rfl rfl (zE _ _) (zE _ _) .nil) (.cons (.sl rfl) (.cons (.same rfl) (.cons (.same rfl) (.cons (.same rfl) .nil)))) (fun q hq => by cases hq) rfl) rfl ?_) | refine zD ?_ | refine zB _ rfl (by kernel_rfl) ?_ | refine zX rfl ?_ | refine zY rfl ?_ | refine zC ?_ | with_reducible refine zO ?_ | refine zI ?_ | refine zJ ?_ | (with_reducible first | refine zM ?_ | refine zN ?_ | refine zF ?_ | refine zH ?_ | refine zG ?_) | refine zP ?_
      refine z5 (α := { p : Nat × List Rw // 20 ≤ p.1 ∧ Blk p.1 p.2 ∧ p.2.Perm xs }) (fun p => ⟨((.sl 0 0 xs.length) :: (I xs.length) :: (.fn 64 []) :: .any :: .any :: .any :: (I p.1.1) :: .any :: .any :: .any :: .any :: .any :: .any :: .any :: .any :: .any :: .any :: .any :: .any :: .any :: .any :: .any :: .any :: .any :: .any :: .any :: .any :: .any :: .any :: .any :: .any :: .any :: .any :: .any :: .any :: .any :: .any :: .any :: .any :: .any :: .any :: .any :: .any :: .any :: .any :: .any :: .any :: .any :: .any :: .any :: .any :: .any :: .any :: .any :: .any :: .any :: .any :: .any :: .any :: .any :: .any :: .any :: .any :: []), [rwR p.1.2], 1⟩) (fun p => xs.length - p.1.1) ⟨(20, U ++ yK V), Nat.le_refl _, b1, p1⟩ ?_ ?_
      · exact xT 1 [0] rfl rfl yw (by decide) (.cons rfl rfl rfl rfl (zU (zE _ _)) .nil) (by repeat' first | exact zk | refine zc ?_ ?_ | exact zo | exact le_refl rfl | exact zm rfl rfl | exact zt rfl)
      · rintro ⟨⟨s, ys⟩, k1, k2, k3⟩
        simp only at k1 k2 k3
        have yl := k3.length_eq
        repeat' first | refine zL ?_ | refine zA ?_ | refine zQ [] ?_ | (refine isA ?_; refine zg rfl ?_) | (refine isL ?_; refine zW rfl (by kernel_rfl) rfl rfl ?_) | (refine zd rfl ?_; refine zV rfl (by kernel_rfl) rfl rfl ?_) | refine zD ?_ | refine zB _ rfl (by kernel_rfl) ?_ | refine zX rfl ?_ | refine zY rfl ?_ | refine zC ?_ | with_reducible refine zO ?_ | refine zI ?_ | refine zJ ?_ | (with_reducible first | refine zM ?_ | refine zN ?_ | refine zF ?_ | refine zH ?_ | refine zG ?_) | refine zP ?_
        refine zj rfl (fun h => ?_) (fun h => ?_)
        · have hlt : s < xs.length := by have := of_decide_eq_true h; simp only at this; omega
          have e2 : IntKind.i64.wrap (2 * (s : Int)) = ((2 * s : Nat) : Int) := by rw [IntKind.wrap_i64]; omega
          have e2' : IntKind.i64.wrap ((s : Int) * 2) = ((2 * s : Nat) : Int) := by rw [IntKind.wrap_i64]; omega
          repeat' first | refine zL ?_ | refine zA ?_ | refine zQ [] ?_ | (refine isA ?_; refine zg rfl ?_) | (refine isL ?_; refine zW rfl (by kernel_rfl) rfl rfl ?_) | (refine zd rfl ?_; refine zV rfl (by kernel_rfl) rfl rfl ?_) | refine zD ?_ | refine zB _ rfl (by kernel_rfl) ?_ | refine zX rfl ?_ | refine zY rfl ?_ | refine zC ?_ | with_reducible refine zO ?_ | refine zI ?_ | refine zJ ?_ | (with_reducible first | refine zM ?_ | refine zN ?_ | refine zF ?_ | refine zH ?_ | refine zG ?_) | refine zP ?_
          refine z5 (α := { p : List Rw × List Rw // Bkk (2 * s) xs p ∧ Blk s p.2 }) (fun p => ⟨((.sl 0 0 xs.length) :: (I xs.length) :: (.fn 64 []) :: .any :: .any :: .any :: (I s) :: (I p.1.1.length) :: (I ((p.1.1.length + 2 * s : Nat) : Int)) :: .any :: .any :: .any :: .any :: .any :: .any :: .any :: .any :: .any :: .any :: .any :: .any :: .any :: .any :: .any :: .any :: .any :: .any :: .any :: .any :: .any :: .any :: .any :: .any :: .any :: .any :: .any :: .any :: .any :: .any :: .any :: .any :: .any :: .any :: .any :: .any :: .any :: .any :: .any :: .any :: .any :: .any :: .any :: .any :: .any :: .any :: .any :: .any :: .any :: .any :: .any :: .any :: .any :: .any :: []), [rwR (p.1.1 ++ p.1.2)], 1⟩) (fun p => p.1.2.length) ⟨([], ys), ⟨pr, k3⟩, k2⟩ ?_ ?_
          · exact xT 1 [0] rfl rfl yw (by decide) (.cons rfl rfl rfl rfl (zU (zE _ _)) .nil) (by
              repeat' first | exact zk | refine zc ?_ ?_ | exact zo | exact le_refl rfl | exact zm rfl rfl | exact z8 (congrArg _ (show (((([] : List Rw).length + 2 * s : Nat)) : Int) = IntKind.i64.wrap (2 * (s : Int)) by rw [e2]; simp)))
          · rintro ⟨⟨U, V⟩, J, j4⟩
            have j1 : U.length + V.length = xs.length := J.len
            have j2 : (U ++ V).Perm xs := J.p
            have j3 : n9 (2 * s) U := J.f
            simp only at j4
            have ea : IntKind.i64.wrap ((U.length : Int) + s) = ((U.length + s : Nat) : Int) := by rw [IntKind.wrap_i64]; omega
            repeat' first | refine zL ?_ | refine zA ?_ | refine zQ [] ?_ | (refine isA ?_; refine zg rfl ?_) | (refine isL ?_; refine zW rfl (by kernel_rfl) rfl rfl ?_) | (refine zd rfl ?_; refine zV rfl (by kernel_rfl) rfl rfl ?_) | refine zD ?_ | refine zB _ rfl (by kernel_rfl) ?_ | refine zX rfl ?_ | refine zY rfl ?_ | refine zC ?_ | with_reducible refine zO ?_ | refine zI ?_ | refine zJ ?_ | (with_reducible first | refine zM ?_ | refine zN ?_ | refine zF ?_ | refine zH ?_ | refine zG ?_) | refine zP ?_
            refine zj rfl (fun h => ?_) (fun h => ?_)
            · have hle : 2 * s ≤ V.length := by have := of_decide_eq_true h; simp only at this; omega
              obtain ⟨X, Y, Z, rfl, hX, hY, sX, sY, hZ⟩ := fU (by omega) j4 hle
              simp only [List.length_append] at j1
              have t3 := (yf (X ++ Y)).length_eq
              rw [List.length_append] at t3
              have c1 := (gH _ U X Y Z (Nat.le_refl _) sX sY (by omega) (by omega) (by simp only [List.length_append]; omega)).x (ds := U ++ (X ++ Y ++ Z)) (rs := U ++ yK (X ++ Y) ++ Z) (L := xs.length) (a := (U.length : Int)) (m := IntKind.i64.wrap ((U.length : Int) + s)) (b := ((U.length + 2 * s : Nat) : Int)) (by simp only [List.append_assoc]) (by simp only [List.length_append]; omega) rfl (by rw [ea, List.length_append]; omega) (by simp only [List.length_append]; omega) rfl
              repeat' first | refine zL ?_ | refine zA ?_ | refine zQ [] ?_ | (refine isA ?_; refine zg rfl ?_) | (refine isL ?_; refine zW rfl (by kernel_rfl) rfl rfl ?_) | (refine zd rfl ?_; refine zV rfl (by kernel_rfl) rfl rfl ?_) | (refine zp 131 ?_; refine za rfl (z2 (K := []) (Rs' := [_]) [0] (by decide) rfl c1 (.cons rfl rfl rfl (zE _ _) (zE _ _) .nil) (.cons (.sl rfl) (.cons (.same rfl) (.cons (.same rfl) (.cons (.same rfl) (.cons (.same rfl) .nil))))) (fun q hq => by cases hq) rfl) rfl ?_) | (refine zq 131 rfl ?_; refine zT rfl (by kernel_rfl) rfl (z2 (K := []) (Rs' := [_]) [0] (by decide) rfl c1 (.cons rfl rfl rfl (zE _ _) (zE _ _) .nil) (.cons (.sl rfl) (.cons (.same rfl) (.cons (.same rfl) (.cons (.same rfl) (.cons (.same rfl) .nil))))) (fun q hq => by cases hq) rfl) rfl ?_) | refine zD ?_ | refine zB _ rfl (by kernel_rfl) ?_ | refine zX rfl ?_ | refine zY rfl ?_ | refine zC ?_ | with_reducible refine zO ?_ | refine zI ?_ | refine zJ ?_ | (with_reducible first | refine zM ?_ | refine zN ?_ | refine zF ?_ | refine zH ?_ | refine zG ?_) | refine zP ?_
              refine ⟨⟨(U ++ yK (X ++ Y), Z), ⟨qG j3 (by omega) (xm _), ?_⟩, hZ⟩, by simp only [List.length_append]; omega, ?_⟩
              · refine List.Perm.trans ?_ j2
                simp only
                rw [List.append_assoc]
                exact List.Perm.append_left _ ((yf (X ++ Y)).append_right Z)
              · exact xT 1 [0] rfl rfl yw (by decide) (.cons rfl rfl rfl rfl (zU (zE _ _)) .nil) (by
                  repeat' first | exact zk | refine zc ?_ ?_ | exact zo | exact le_refl rfl | exact zm rfl rfl | exact z8 (congrArg _ (show (((U ++ yK (X ++ Y)).length : Nat) : Int) = ((U.length + 2 * s : Nat) : Int) by rw [List.length_append]; omega)) | exact z8 (congrArg _ (show (((U ++ yK (X ++ Y)).length + 2 * s : Nat) : Int) = IntKind.i64.wrap (((U.length + 2 * s : Nat) : Int) + IntKind.i64.wrap (2 * (s : Int))) by rw [List.length_append, e2, IntKind.wrap_i64]; omega)))
            · have hge : V.length < 2 * s := by have := of_decide_eq_false h; simp only at this; omega
              repeat' first | refine zL ?_ | refine zA ?_ | refine zQ [] ?_ | (refine isA ?_; refine zg rfl ?_) | (refine isL ?_; refine zW rfl (by kernel_rfl) rfl rfl ?_) | (refine zd rfl ?_; refine zV rfl (by kernel_rfl) rfl rfl ?_) | refine zD ?_ | refine zB _ rfl (by kernel_rfl) ?_ | refine zX rfl ?_ | refine zY rfl ?_ | refine zC ?_ | with_reducible refine zO ?_ | refine zI ?_ | refine zJ ?_ | (with_reducible first | refine zM ?_ | refine zN ?_ | refine zF ?_ | refine zH ?_ | refine zG ?_) | refine zP ?_
              refine zj rfl (fun h2 => ?_) (fun h2 => ?_)
              · have hlt2 : s < V.length := by have := of_decide_eq_true h2; simp only [ea] at this; omega
                obtain ⟨X, Y, rfl, hX, sX, sY, hY⟩ := ga j4 hlt2 hge
                simp only [List.length_append] at j1 hge
                have t3 := (yf (X ++ Y)).length_eq
                rw [List.length_append] at t3
                have c1 := (gH _ U X Y [] (Nat.le_refl _) sX sY (by omega) (by omega) (by simp only [List.length_append, List.length_nil]; omega)).x (ds := U ++ (X ++ Y)) (rs := U ++ yK (X ++ Y)) (L := xs.length) (a := (U.length : Int)) (m := IntKind.i64.wrap ((U.length : Int) + s)) (b := (xs.length : Int)) (by simp only [List.append_assoc, List.append_nil]) (by simp only [List.length_append]; omega) rfl (by rw [ea, List.length_append]; omega) (by simp only [List.length_append]; omega) (by simp only [List.append_nil])
                repeat' first | refine zL ?_ | refine zA ?_ | refine zQ [] ?_ | (refine isA ?_; refine zg rfl ?_) | (refine isL ?_; refine zW rfl (by kernel_rfl) rfl rfl ?_) | (refine zd rfl ?_; refine zV rfl (by kernel_rfl) rfl rfl ?_) | (refine zp 131 ?_; refine za rfl (z2 (K := []) (Rs' := [_]) [0] (by decide) rfl c1 (.cons rfl rfl rfl (zE _ _) (zE _ _) .nil) (.cons (.sl rfl) (.cons (.same rfl) (.cons (.same rfl) (.cons (.same rfl) (.cons (.same rfl) .nil))))) (fun q hq => by cases hq) rfl) rfl ?_) | (refine zq 131 rfl ?_; refine zT rfl (by kernel_rfl) rfl (z2 (K := []) (Rs' := [_]) [0] (by decide) rfl c1 (.cons rfl rfl rfl (zE _ _) (zE _ _) .nil) (.cons (.sl rfl) (.cons (.same rfl) (.cons (.same rfl) (.cons (.same rfl) (.cons (.same rfl) .nil))))) (fun q hq => by cases hq) rfl) rfl ?_) | refine zD ?_ | refine zB _ rfl (by kernel_rfl) ?_ | refine zX rfl ?_ | refine zY rfl ?_ | refine zC ?_ | with_reducible refine zO ?_ | refine zI ?_ | refine zJ ?_ | (with_reducible first | refine zM ?_ | refine zN ?_ | refine zF ?_ | refine zH ?_ | refine zG ?_) | refine zP ?_
                refine ⟨⟨(2 * s, U ++ yK (X ++ Y)), by simp only; omega, td j3 (by omega) (xm _), ((yf _).append_left U).trans j2⟩, by simp only; omega, ?_⟩
                exact xT 1 [0] rfl rfl yw (by decide) (.cons rfl rfl rfl rfl (zU (zE _ _)) .nil) (by
                  repeat' first | exact zk | refine zc ?_ ?_ | exact zo | exact le_refl rfl | exact zm rfl rfl | exact z8 (congrArg _ e2'.symm))
              · have hge2 : V.length ≤ s := by have := of_decide_eq_false h2; simp only [ea] at this; omega
                repeat' first | refine zL ?_ | refine zA ?_ | refine zQ [] ?_ | (refine isA ?_; refine zg rfl ?_) | (refine isL ?_; refine zW rfl (by kernel_rfl) rfl rfl ?_) | (refine zd rfl ?_; refine zV rfl (by kernel_rfl) rfl rfl ?_) | refine zD ?_ | refine zB _ rfl (by kernel_rfl) ?_ | refine zX rfl ?_ | refine zY rfl ?_ | refine zC ?_ | with_reducible refine zO ?_ | refine zI ?_ | refine zJ ?_ | (with_reducible first | refine zM ?_ | refine zN ?_ | refine zF ?_ | refine zH ?_ | refine zG ?_) | refine zP ?_
                refine ⟨⟨(2 * s, U ++ V), by simp only; omega, td j3 (by omega) (sE j4 hge2), j2⟩, by simp only; omega, ?_⟩
                exact xT 1 [0] rfl rfl yw (by decide) (.cons rfl rfl rfl rfl (zU (zE _ _)) .nil) (by
                  repeat' first | exact zk | refine zc ?_ ?_ | exact zo | exact le_refl rfl | exact zm rfl rfl | exact z8 (congrArg _ e2'.symm))
        · have hge : xs.length ≤ s := by have := of_decide_eq_false h; simp only at this; omega
          have e : ys = yK xs := uH (sE k2 (by omega)) k3
          repeat' first | refine zL ?_ | refine zA ?_ | refine zQ [] ?_ | (refine isA ?_; refine zg rfl ?_) | (refine isL ?_; refine zW rfl (by kernel_rfl) rfl rfl ?_) | (refine zd rfl ?_; refine zV rfl (by kernel_rfl) rfl rfl ?_) | exact tF 1 [0] yw (by decide) (.cons rfl rfl rfl rfl (yh (congrArg rwT.flat e) (zE _ _)) .nil) | refine zD ?_ | refine zB _ rfl (by kernel_rfl) ?_ | refine zX rfl ?_ | refine zY rfl ?_ | refine zC ?_ | with_reducible refine zO ?_ | refine zI ?_ | refine zJ ?_ | (with_reducible first | refine zM ?_ | refine zN ?_ | refine zF ?_ | refine zH ?_ | refine zG ?_) | refine zP ?_
theorem zx.args {P : Program} {f : FuncId} {cargs cargs' : List V} {hs : List Reg} {r : V} {hs' : List Reg} {al : Bool} (h : zx P f cargs hs r hs' al) (hl : cargs'.length = cargs.length) (ha : ∀ A w φ g, zv A w φ cargs' g → zv A w φ cargs g) : zx P f cargs' hs r hs' al :=
  fun A φ w xs hok hr hs => h A φ w xs hok (ha _ _ _ _ hr) (hs.trans hl)
theorem fO (xs : List Rw) (hl : xs.length ≤ 100000000) : zx Go.Proofs.Try.prog 128 [.sl 0 0 xs.length, .fn 64 []] [rwR xs] (.tup []) [rwR (yK xs)] true := by
  refine zu [] Go.Proofs.Try.func128 rfl rfl ?_
  simp only [Go.Proofs.Try.ntmps128, List.length_cons, List.length_nil, Nat.reduceAdd, Nat.reduceSub, List.replicate_succ, List.replicate_zero, List.cons_append, List.nil_append]
  repeat' first | refine zL ?_ | refine zA ?_ | refine zQ [] ?_ | (refine isA ?_; refine zg rfl ?_) | (refine isL ?_; refine zW rfl (by kernel_rfl) rfl rfl ?_) | (refine zd rfl ?_; refine zV rfl (by kernel_rfl) rfl rfl ?_) | (refine zp 129 ?_; refine za rfl (z2 (K := []) (Rs' := [_]) [0] (by decide) rfl (nG xs hl) (.cons rfl rfl rfl (zE _ _) (zE _ _) .nil) (.cons (.sl rfl) (.cons (.same rfl) (.cons (.same rfl) .nil))) (fun q hq => by cases hq) rfl) rfl ?_) | (refine zq 129 rfl ?_; refine zT rfl (by kernel_rfl) rfl (z2 (K := []) (Rs' := [_]) [0] (by decide) rfl (nG xs hl) (.cons rfl rfl rfl (zE _ _) (zE _ _) .nil) (.cons (.sl rfl) (.cons (.same rfl) (.cons (.same rfl) .nil))) (fun q hq => by cases hq) rfl) rfl ?_) | exact tF 1 [0] yw (by decide) (.cons rfl rfl rfl rfl (zU (zE _ _)) .nil) | refine zD ?_ | refine zB _ rfl (by kernel_rfl) ?_ | refine zX rfl ?_ | refine zY rfl ?_ | refine zC ?_ | with_reducible refine zO ?_ | refine zI ?_ | refine zJ ?_ | (with_reducible first | refine zM ?_ | refine zN ?_ | refine zF ?_ | refine zH ?_ | refine zG ?_) | refine zP ?_
theorem m0 (xs : List Rw) (hl : xs.length ≤ 100000000) : zx Go.Proofs.Try.prog 128 [.sl 0 0 xs.length, .k (.func (.func 64) #[] #[])] [rwR xs] (.tup []) [rwR (yK xs)] true :=
  (fO xs hl).args rfl fun A w φ g h => by
    simp only [zv, Rel] at h ⊢
    obtain ⟨h1, ⟨y, h2, rfl⟩, _⟩ := h
    exact ⟨h1, ⟨_, h2, #[], rfl, rfl, trivial⟩, trivial⟩
theorem m9 (xs : List Rw) (hl : xs.length ≤ 100000000) : zx Go.Proofs.Try.prog 122 [rwL xs] [] (.sl 0 0 (yK xs).length) [rwR (yK xs)] false := by
  have e := wm xs
  rw [e]
  refine zu [2] Go.Proofs.Try.func122 rfl rfl ?_
  simp only [Go.Proofs.Try.ntmps122, List.length_cons, List.length_nil, Nat.reduceAdd, Nat.reduceSub, List.replicate_succ, List.replicate_zero, List.cons_append, List.nil_append]
  repeat' first | refine zL ?_ | refine zA ?_ | refine zQ [] ?_ | (refine isA ?_; refine zg rfl ?_) | (refine isL ?_; refine zW rfl (by kernel_rfl) rfl rfl ?_) | (refine zd rfl ?_; refine zV rfl (by kernel_rfl) rfl rfl ?_) | (refine zp 114 ?_; refine za rfl (yI rfl (wi xs (by omega)) (.cons (.same rfl) .nil) (fun q hq => by simp at hq; subst hq; exact zE _ _) rfl rfl) rfl ?_) | (refine zq 114 rfl ?_; refine zT rfl (by kernel_rfl) rfl (yI rfl (wi xs (by omega)) (.cons (.same rfl) .nil) (fun q hq => by simp at hq; subst hq; exact zE _ _) rfl rfl) rfl ?_) | (refine zp 128 ?_; refine za rfl (z2 (K := []) (Rs' := [_]) [0] (by decide) rfl (m0 xs hl) (.cons rfl rfl rfl (zE _ _) (zE _ _) .nil) (.cons (.sl rfl) (.cons (.same rfl) .nil)) (fun q hq => by cases hq) rfl) rfl ?_) | (refine zq 128 rfl ?_; refine zT rfl (by kernel_rfl) rfl (z2 (K := []) (Rs' := [_]) [0] (by decide) rfl (m0 xs hl) (.cons rfl rfl rfl (zE _ _) (zE _ _) .nil) (.cons (.sl rfl) (.cons (.same rfl) .nil)) (fun q hq => by cases hq) rfl) rfl ?_) | exact lm [0] rfl (vT (by decide) (.cons rfl rfl rfl rfl (zU (zE _ _)) .nil)) (zm rfl rfl) (Or.inr ⟨rfl, fun q hq => by simp at hq; subst hq; exact ⟨Nat.zero_ne_one, fun _ => (wE _).flatS⟩⟩) | refine zD ?_ | refine zB _ rfl (by kernel_rfl) ?_ | refine zX rfl ?_ | refine zY rfl ?_ | refine zC ?_ | with_reducible refine zO ?_ | refine zI ?_ | refine zJ ?_ | (with_reducible first | refine zM ?_ | refine zN ?_ | refine zF ?_ | refine zH ?_ | refine zG ?_) | refine zP ?_
end Go.Proofs.Ytojcojanokhnaaa.Ab
namespace Go.Proofs.Ytojcojanokhnaaa.Ab
open Go.RowKit
theorem so (xs ys : List Rw) (hl : xs.length ≤ 1000000000) : zx Go.Proofs.Try.prog 81 [rwL xs, rwL ys] [] (B (xj xs ys)) [] false := by
  refine zu [4] Go.Proofs.Try.func81 rfl rfl ?_
  simp only [Go.Proofs.Try.ntmps81, List.length_cons, List.length_nil, Nat.reduceAdd, Nat.reduceSub, List.replicate_succ, List.replicate_zero, List.cons_append, List.nil_append]
  repeat' first | refine zL ?_ | refine zA ?_ | refine zQ [] ?_ | (refine isA ?_; refine zg rfl ?_) | (refine isL ?_; refine zW rfl (by kernel_rfl) rfl rfl ?_) | (refine zd rfl ?_; refine zV rfl (by kernel_rfl) rfl rfl ?_) | refine zD ?_ | refine zB _ rfl (by kernel_rfl) ?_ | refine zX rfl ?_ | refine zY rfl ?_ | refine zC ?_ | with_reducible refine zO ?_ | refine zI ?_ | refine zJ ?_ | (with_reducible first | refine zM ?_ | refine zN ?_ | refine zF ?_ | refine zH ?_ | refine zG ?_) | refine zP ?_
  refine zj rfl (fun h => ?_) (fun h => ?_)
  · have hne : xs.length ≠ ys.length := by have : ¬ ((xs.length : Int) = ys.length) := (by simpa using h); omega
    repeat' first | refine zL ?_ | refine zA ?_ | refine zQ [] ?_ | (refine isA ?_; refine zg rfl ?_) | (refine isL ?_; refine zW rfl (by kernel_rfl) rfl rfl ?_) | (refine zd rfl ?_; refine zV rfl (by kernel_rfl) rfl rfl ?_) | exact yD rfl rfl (by rw [tH hne]) | refine zD ?_ | refine zB _ rfl (by kernel_rfl) ?_ | refine zX rfl ?_ | refine zY rfl ?_ | refine zC ?_ | with_reducible refine zO ?_ | refine zI ?_ | refine zJ ?_ | (with_reducible first | refine zM ?_ | refine zN ?_ | refine zF ?_ | refine zH ?_ | refine zG ?_) | refine zP ?_
  have he : xs.length = ys.length := by have : ((xs.length : Int) = ys.length) := (by simpa using h); omega
  repeat' first | refine zL ?_ | refine zA ?_ | refine zQ [] ?_ | (refine isA ?_; refine zg rfl ?_) | (refine isL ?_; refine zW rfl (by kernel_rfl) rfl rfl ?_) | (refine zd rfl ?_; refine zV rfl (by kernel_rfl) rfl rfl ?_) | refine zD ?_ | refine zB _ rfl (by kernel_rfl) ?_ | refine zX rfl ?_ | refine zY rfl ?_ | refine zC ?_ | with_reducible refine zO ?_ | refine zI ?_ | refine zJ ?_ | (with_reducible first | refine zM ?_ | refine zN ?_ | refine zF ?_ | refine zH ?_ | refine zG ?_) | refine zP ?_
  refine z5 (α := { i : Nat // i ≤ xs.length ∧ xj (xs.drop i) (ys.drop i) = xj xs ys }) (fun i => ⟨[rwL xs, rwL ys, .any, .any, .any, .any, .any, .any, .any, .any, .any, .any, I xs.length, I i.1, .any, .any, .any, .any, .any, .any, .any, .any, .any, .any, .any, .any], [], 0⟩) (fun i => xs.length - i.1) ⟨0, Nat.zero_le _, rfl⟩ ?_ ?_
  · exact yg rfl (by repeat' first | exact EqS.nil | refine EqS.any ?_ | refine EqS.same rfl ?_)
  · rintro ⟨i, hi, hq⟩
    repeat' first | refine zL ?_ | refine zA ?_ | refine zQ [] ?_ | (refine isA ?_; refine zg rfl ?_) | (refine isL ?_; refine zW rfl (by kernel_rfl) rfl rfl ?_) | (refine zd rfl ?_; refine zV rfl (by kernel_rfl) rfl rfl ?_) | refine zD ?_ | refine zB _ rfl (by kernel_rfl) ?_ | refine zX rfl ?_ | refine zY rfl ?_ | refine zC ?_ | with_reducible refine zO ?_ | refine zI ?_ | refine zJ ?_ | (with_reducible first | refine zM ?_ | refine zN ?_ | refine zF ?_ | refine zH ?_ | refine zG ?_) | refine zP ?_
    refine zj rfl (fun h => ?_) (fun h => ?_)
    · have hlt : i < xs.length := by simpa using h
      obtain ⟨x, hx⟩ : ∃ z, xs[i]? = some z := ⟨_, List.getElem?_eq_getElem hlt⟩
      obtain ⟨y, hy⟩ : ∃ z, ys[i]? = some z := ⟨_, List.getElem?_eq_getElem (by omega)⟩
      rw [qs hx hy] at hq
      repeat' first | refine zL ?_ | refine zA ?_ | refine zQ [] ?_ | (refine isA ?_; refine zg rfl ?_) | (refine isL ?_; refine zW rfl (by kernel_rfl) rfl rfl ?_) | (refine zd rfl ?_; refine zV rfl (by kernel_rfl) rfl rfl ?_) | (refine z7 (x := .tmp 16) ?_; refine za rfl (zz (t := rwT) (z := x) rfl rfl rfl rfl (Int.natCast_nonneg i) hx) rfl ?_) | (refine z6 (x := .tmp 16) rfl ?_; refine zT rfl (by kernel_rfl) rfl (zz (t := rwT) (z := x) rfl rfl rfl rfl (Int.natCast_nonneg i) hx) rfl ?_) | (refine z7 (x := .tmp 20) ?_; refine za rfl (zz (t := rwT) (z := y) rfl rfl rfl rfl (Int.natCast_nonneg i) hy) rfl ?_) | (refine z6 (x := .tmp 20) rfl ?_; refine zT rfl (by kernel_rfl) rfl (zz (t := rwT) (z := y) rfl rfl rfl rfl (Int.natCast_nonneg i) hy) rfl ?_) | refine za rfl (qA rfl rfl rfl) rfl ?_ | refine zT rfl (by kernel_rfl) rfl (qA rfl rfl rfl) rfl ?_ | refine zD ?_ | refine zB _ rfl (by kernel_rfl) ?_ | refine zX rfl ?_ | refine zY rfl ?_ | refine zC ?_ | with_reducible refine zO ?_ | refine zI ?_ | refine zJ ?_ | (with_reducible first | refine zM ?_ | refine zN ?_ | refine zF ?_ | refine zH ?_ | refine zG ?_) | refine zP ?_
      refine zj rfl (fun h1 => ?_) (fun h1 => ?_)
      · have h2 : rwD x y = false := by simpa using h1
        rw [h2, Bool.false_and] at hq
        repeat' first | refine zL ?_ | refine zA ?_ | refine zQ [] ?_ | (refine isA ?_; refine zg rfl ?_) | (refine isL ?_; refine zW rfl (by kernel_rfl) rfl rfl ?_) | (refine zd rfl ?_; refine zV rfl (by kernel_rfl) rfl rfl ?_) | exact yD rfl rfl (congrArg B hq) | refine zD ?_ | refine zB _ rfl (by kernel_rfl) ?_ | refine zX rfl ?_ | refine zY rfl ?_ | refine zC ?_ | with_reducible refine zO ?_ | refine zI ?_ | refine zJ ?_ | (with_reducible first | refine zM ?_ | refine zN ?_ | refine zF ?_ | refine zH ?_ | refine zG ?_) | refine zP ?_
      · have h2 : rwD x y = true := by simpa using h1
        rw [h2, Bool.true_and] at hq
        repeat' first | refine zL ?_ | refine zA ?_ | refine zQ [] ?_ | (refine isA ?_; refine zg rfl ?_) | (refine isL ?_; refine zW rfl (by kernel_rfl) rfl rfl ?_) | (refine zd rfl ?_; refine zV rfl (by kernel_rfl) rfl rfl ?_) | refine zD ?_ | refine zB _ rfl (by kernel_rfl) ?_ | refine zX rfl ?_ | refine zY rfl ?_ | refine zC ?_ | with_reducible refine zO ?_ | refine zI ?_ | refine zJ ?_ | (with_reducible first | refine zM ?_ | refine zN ?_ | refine zF ?_ | refine zH ?_ | refine zG ?_) | refine zP ?_
        refine ⟨⟨i + 1, hlt, hq⟩, by simp only; omega, ?_⟩
        exact yg rfl (by repeat' first | exact EqS.nil | refine EqS.any ?_ | refine EqS.same rfl ?_ | refine EqS.same (v8 (by assumption) (by omega)) ?_)
    · have hge : i = xs.length := by
        have : ¬ ((i : Int) < xs.length) := by simpa using h
        omega
      subst hge
      have hq' : xj xs ys = true := by rw [← hq, List.drop_length, he, List.drop_length]; rfl
      repeat' first | refine zL ?_ | refine zA ?_ | refine zQ [] ?_ | (refine isA ?_; refine zg rfl ?_) | (refine isL ?_; refine zW rfl (by kernel_rfl) rfl rfl ?_) | (refine zd rfl ?_; refine zV rfl (by kernel_rfl) rfl rfl ?_) | exact yD rfl rfl (by rw [hq']) | refine zD ?_ | refine zB _ rfl (by kernel_rfl) ?_ | refine zX rfl ?_ | refine zY rfl ?_ | refine zC ?_ | with_reducible refine zO ?_ | refine zI ?_ | refine zJ ?_ | (with_reducible first | refine zM ?_ | refine zN ?_ | refine zF ?_ | refine zH ?_ | refine zG ?_) | refine zP ?_
theorem nI (xs ys : List Rw) (hl : xs.length ≤ 1000000000) : zx Go.Proofs.Try.prog 72 [rwL xs, rwL ys] [] (B (xj xs ys)) [] false := by
  refine zu [4] Go.Proofs.Try.func72 rfl rfl ?_
  simp only [Go.Proofs.Try.ntmps72, List.length_cons, List.length_nil, Nat.reduceAdd, Nat.reduceSub, List.replicate_succ, List.replicate_zero, List.cons_append, List.nil_append]
  repeat' first | refine zL ?_ | refine zA ?_ | refine zQ [] ?_ | (refine isA ?_; refine zg rfl ?_) | (refine isL ?_; refine zW rfl (by kernel_rfl) rfl rfl ?_) | (refine zd rfl ?_; refine zV rfl (by kernel_rfl) rfl rfl ?_) | refine zD ?_ | refine zB _ rfl (by kernel_rfl) ?_ | refine zX rfl ?_ | refine zY rfl ?_ | refine zC ?_ | with_reducible refine zO ?_ | refine zI ?_ | refine zJ ?_ | (with_reducible first | refine zM ?_ | refine zN ?_ | refine zF ?_ | refine zH ?_ | refine zG ?_) | refine zP ?_
  refine zj rfl (fun h => ?_) (fun h => ?_)
  · have hne : xs.length ≠ ys.length := by have : ¬ ((xs.length : Int) = ys.length) := (by simpa using h); omega
    repeat' first | refine zL ?_ | refine zA ?_ | refine zQ [] ?_ | (refine isA ?_; refine zg rfl ?_) | (refine isL ?_; refine zW rfl (by kernel_rfl) rfl rfl ?_) | (refine zd rfl ?_; refine zV rfl (by kernel_rfl) rfl rfl ?_) | exact yD rfl rfl (by rw [tH hne]) | refine zD ?_ | refine zB _ rfl (by kernel_rfl) ?_ | refine zX rfl ?_ | refine zY rfl ?_ | refine zC ?_ | with_reducible refine zO ?_ | refine zI ?_ | refine zJ ?_ | (with_reducible first | refine zM ?_ | refine zN ?_ | refine zF ?_ | refine zH ?_ | refine zG ?_) | refine zP ?_
  have he : xs.length = ys.length := by have : ((xs.length : Int) = ys.length) := (by simpa using h); omega
  repeat' first | refine zL ?_ | refine zA ?_ | refine zQ [] ?_ | (refine isA ?_; refine zg rfl ?_) | (refine isL ?_; refine zW rfl (by kernel_rfl) rfl rfl ?_) | (refine zd rfl ?_; refine zV rfl (by kernel_rfl) rfl rfl ?_) | refine zD ?_ | refine zB _ rfl (by kernel_rfl) ?_ | refine zX rfl ?_ | refine zY rfl ?_ | refine zC ?_ | with_reducible refine zO ?_ | refine zI ?_ | refine zJ ?_ | (with_reducible first | refine zM ?_ | refine zN ?_ | refine zF ?_ | refine zH ?_ | refine zG ?_) | refine zP ?_
  refine z5 (α := { i : Nat // i ≤ xs.length ∧ xj (xs.drop i) (ys.drop i) = xj xs ys }) (fun i => ⟨[rwL xs, rwL ys, .any, .any, .any, I i.1, .any, .any, .any, .any, .any, .any, .any, .any, .any, .any, .any, .any, .any, .any, .any, .any, .any, .any, .any, .any], [], 0⟩) (fun i => xs.length - i.1) ⟨0, Nat.zero_le _, rfl⟩ ?_ ?_
  · exact yg rfl (by repeat' first | exact EqS.nil | refine EqS.any ?_ | refine EqS.same rfl ?_)
  · rintro ⟨i, hi, hq⟩
    repeat' first | refine zL ?_ | refine zA ?_ | refine zQ [] ?_ | (refine isA ?_; refine zg rfl ?_) | (refine isL ?_; refine zW rfl (by kernel_rfl) rfl rfl ?_) | (refine zd rfl ?_; refine zV rfl (by kernel_rfl) rfl rfl ?_) | refine zD ?_ | refine zB _ rfl (by kernel_rfl) ?_ | refine zX rfl ?_ | refine zY rfl ?_ | refine zC ?_ | with_reducible refine zO ?_ | refine zI ?_ | refine zJ ?_ | (with_reducible first | refine zM ?_ | refine zN ?_ | refine zF ?_ | refine zH ?_ | refine zG ?_) | refine zP ?_
    refine zj rfl (fun h => ?_) (fun h => ?_)
    · have hlt : i < xs.length := by simpa using h
      obtain ⟨x, hx⟩ : ∃ z, xs[i]? = some z := ⟨_, List.getElem?_eq_getElem hlt⟩
      obtain ⟨y, hy⟩ : ∃ z, ys[i]? = some z := ⟨_, List.getElem?_eq_getElem (by omega)⟩
      rw [qs hx hy] at hq
      repeat' first | refine zL ?_ | refine zA ?_ | refine zQ [] ?_ | (refine isA ?_; refine zg rfl ?_) | (refine isL ?_; refine zW rfl (by kernel_rfl) rfl rfl ?_) | (refine zd rfl ?_; refine zV rfl (by kernel_rfl) rfl rfl ?_) | (refine z7 (x := .tmp 17) ?_; refine za rfl (zz (t := rwT) (z := x) rfl rfl rfl rfl (Int.natCast_nonneg i) hx) rfl ?_) | (refine z6 (x := .tmp 17) rfl ?_; refine zT rfl (by kernel_rfl) rfl (zz (t := rwT) (z := x) rfl rfl rfl rfl (Int.natCast_nonneg i) hx) rfl ?_) | (refine z7 (x := .tmp 21) ?_; refine za rfl (zz (t := rwT) (z := y) rfl rfl rfl rfl (Int.natCast_nonneg i) hy) rfl ?_) | (refine z6 (x := .tmp 21) rfl ?_; refine zT rfl (by kernel_rfl) rfl (zz (t := rwT) (z := y) rfl rfl rfl rfl (Int.natCast_nonneg i) hy) rfl ?_) | refine za rfl (qA rfl rfl rfl) rfl ?_ | refine zT rfl (by kernel_rfl) rfl (qA rfl rfl rfl) rfl ?_ | refine zD ?_ | refine zB _ rfl (by kernel_rfl) ?_ | refine zX rfl ?_ | refine zY rfl ?_ | refine zC ?_ | with_reducible refine zO ?_ | refine zI ?_ | refine zJ ?_ | (with_reducible first | refine zM ?_ | refine zN ?_ | refine zF ?_ | refine zH ?_ | refine zG ?_) | refine zP ?_
      refine zj rfl (fun h1 => ?_) (fun h1 => ?_)
      · have h2 : rwD x y = false := by simpa using h1
        rw [h2, Bool.false_and] at hq
        repeat' first | refine zL ?_ | refine zA ?_ | refine zQ [] ?_ | (refine isA ?_; refine zg rfl ?_) | (refine isL ?_; refine zW rfl (by kernel_rfl) rfl rfl ?_) | (refine zd rfl ?_; refine zV rfl (by kernel_rfl) rfl rfl ?_) | exact yD rfl rfl (congrArg B hq) | refine zD ?_ | refine zB _ rfl (by kernel_rfl) ?_ | refine zX rfl ?_ | refine zY rfl ?_ | refine zC ?_ | with_reducible refine zO ?_ | refine zI ?_ | refine zJ ?_ | (with_reducible first | refine zM ?_ | refine zN ?_ | refine zF ?_ | refine zH ?_ | refine zG ?_) | refine zP ?_
      · have h2 : rwD x y = true := by simpa using h1
        rw [h2, Bool.true_and] at hq
        repeat' first | refine zL ?_ | refine zA ?_ | refine zQ [] ?_ | (refine isA ?_; refine zg rfl ?_) | (refine isL ?_; refine zW rfl (by kernel_rfl) rfl rfl ?_) | (refine zd rfl ?_; refine zV rfl (by kernel_rfl) rfl rfl ?_) | refine zD ?_ | refine zB _ rfl (by kernel_rfl) ?_ | refine zX rfl ?_ | refine zY rfl ?_ | refine zC ?_ | with_reducible refine zO ?_ | refine zI ?_ | refine zJ ?_ | (with_reducible first | refine zM ?_ | refine zN ?_ | refine zF ?_ | refine zH ?_ | refine zG ?_) | refine zP ?_
        refine ⟨⟨i + 1, hlt, hq⟩, by simp only; omega, ?_⟩
        exact yg rfl (by repeat' first | exact EqS.nil | refine EqS.any ?_ | refine EqS.same rfl ?_ | refine EqS.same (v8 (by assumption) (by omega)) ?_)
    · have hge : i = xs.length := by
        have : ¬ ((i : Int) < xs.length) := by simpa using h
        omega
      subst hge
      have hq' : xj xs ys = true := by rw [← hq, List.drop_length, he, List.drop_length]; rfl
      repeat' first | refine zL ?_ | refine zA ?_ | refine zQ [] ?_ | (refine isA ?_; refine zg rfl ?_) | (refine isL ?_; refine zW rfl (by kernel_rfl) rfl rfl ?_) | (refine zd rfl ?_; refine zV rfl (by kernel_rfl) rfl rfl ?_) | exact yD rfl rfl (by rw [hq']) | refine zD ?_ | refine zB _ rfl (by kernel_rfl) ?_ | refine zX rfl ?_ | refine zY rfl ?_ | refine zC ?_ | with_reducible refine zO ?_ | refine zI ?_ | refine zJ ?_ | (with_reducible first | refine zM ?_ | refine zN ?_ | refine zF ?_ | refine zH ?_ | refine zG ?_) | refine zP ?_
def eqRs : List Rn → List Rn → Bool
  | [], [] => true
  | x :: xs, y :: ys => xj x y && eqRs xs ys
  | _, _ => false
def eqSo (s t : So) : Bool := xj s.input t.input && (decide (s.pos = t.pos) && (xj s.heap t.heap && (xj s.dfr t.dfr && (xj s.out t.out && (eqRs s.runs t.runs && (decide (s.lp = t.lp) && (decide (s.rp = t.rp) && (decide (s.ph = t.ph) && decide (s.wr = t.wr)))))))))
end Go.Proofs.Ytojcojanokhnaaa.Ab
namespace Go.Proofs.Ytojcojanokhnaaa.Ab
open Go.RowKit
theorem gU (xs ys : List Rw) (h1 : xs.length ≤ 100000000) (h2 : ys.length ≤ 100000000) : zx Go.Proofs.Try.prog 79 [rwL xs, rwL ys] [] (B (eqB xs ys)) [] false := by
  have s1 := (m9 xs h1).frozen (zy rfl)
  have s2 := (m9 ys h2).frozen (zy rfl)
  have l1 := wm xs
  have l2 := wm ys
  have q := so (yK xs) (yK ys) (by omega)
  refine zu [4] Go.Proofs.Try.func79 rfl rfl ?_
  simp only [Go.Proofs.Try.ntmps79, List.length_cons, List.length_nil, Nat.reduceAdd, Nat.reduceSub, List.replicate_succ, List.replicate_zero, List.cons_append, List.nil_append]
  repeat' first | refine zL ?_ | refine zA ?_ | refine zQ [] ?_ | (refine isA ?_; refine zg rfl ?_) | (refine isL ?_; refine zW rfl (by kernel_rfl) rfl rfl ?_) | (refine zd rfl ?_; refine zV rfl (by kernel_rfl) rfl rfl ?_) | refine zD ?_ | refine zB _ rfl (by kernel_rfl) ?_ | refine zX rfl ?_ | refine zY rfl ?_ | refine zC ?_ | with_reducible refine zO ?_ | refine zI ?_ | refine zJ ?_ | (with_reducible first | refine zM ?_ | refine zN ?_ | refine zF ?_ | refine zH ?_ | refine zG ?_) | refine zP ?_
  refine yW rfl rfl (fun h => ?_) (fun h => ?_)
  · repeat' first | refine zL ?_ | refine zA ?_ | refine zQ [] ?_ | (refine isA ?_; refine zg rfl ?_) | (refine isL ?_; refine zW rfl (by kernel_rfl) rfl rfl ?_) | (refine zd rfl ?_; refine zV rfl (by kernel_rfl) rfl rfl ?_) | (refine zp 122 (x := #[.tmp 11]) ?_; refine za rfl (zK rfl s1 (.cons (.same rfl) .nil) rfl) rfl ?_) | (refine zq 122 (x := #[.tmp 11]) rfl ?_; refine zT rfl (by kernel_rfl) rfl (zK rfl s1 (.cons (.same rfl) .nil) rfl) rfl ?_) | (refine zp 122 (x := #[.tmp 13]) ?_; refine za rfl (zK rfl s2 (.cons (.same rfl) .nil) rfl) rfl ?_) | (refine zq 122 (x := #[.tmp 13]) rfl ?_; refine zT rfl (by kernel_rfl) rfl (zK rfl s2 (.cons (.same rfl) .nil) rfl) rfl ?_) | (refine zp 81 ?_; refine za rfl (zK rfl q (.cons (.same rfl) (.cons (.same rfl) .nil)) rfl) rfl ?_) | (refine zq 81 rfl ?_; refine zT rfl (by kernel_rfl) rfl (zK rfl q (.cons (.same rfl) (.cons (.same rfl) .nil)) rfl) rfl ?_) | exact yD rfl rfl rfl | refine zD ?_ | refine zB _ rfl (by kernel_rfl) ?_ | refine zX rfl ?_ | refine zY rfl ?_ | refine zC ?_ | with_reducible refine zO ?_ | refine zI ?_ | refine zJ ?_ | (with_reducible first | refine zM ?_ | refine zN ?_ | refine zF ?_ | refine zH ?_ | refine zG ?_) | refine zP ?_
  · have e : eqB xs ys = false := tH (by rw [l1, l2]; have := of_decide_eq_false h; omega)
    repeat' first | refine zL ?_ | refine zA ?_ | refine zQ [] ?_ | (refine isA ?_; refine zg rfl ?_) | (refine isL ?_; refine zW rfl (by kernel_rfl) rfl rfl ?_) | (refine zd rfl ?_; refine zV rfl (by kernel_rfl) rfl rfl ?_) | exact yD rfl rfl (by rw [e]) | refine zD ?_ | refine zB _ rfl (by kernel_rfl) ?_ | refine zX rfl ?_ | refine zY rfl ?_ | refine zC ?_ | with_reducible refine zO ?_ | refine zI ?_ | refine zJ ?_ | (with_reducible first | refine zM ?_ | refine zN ?_ | refine zF ?_ | refine zH ?_ | refine zG ?_) | refine zP ?_
end Go.Proofs.Ytojcojanokhnaaa.Ab
namespace Go.Proofs.Ytojcojanokhnaaa.Ab
open Go.RowKit
theorem dP (xs : List Rw) (hl : xs.length ≤ 1000000000) : zx Go.Proofs.Try.prog 61 [rwL xs] [] (I (nm xs)) [] false := by
  refine zu [2] Go.Proofs.Try.func61 rfl rfl ?_
  simp only [Go.Proofs.Try.ntmps61, List.length_cons, List.length_nil, Nat.reduceAdd, Nat.reduceSub, List.replicate_succ, List.replicate_zero, List.cons_append, List.nil_append]
  repeat' first | refine zL ?_ | refine zA ?_ | refine zQ [] ?_ | (refine isA ?_; refine zg rfl ?_) | (refine isL ?_; refine zW rfl (by kernel_rfl) rfl rfl ?_) | (refine zd rfl ?_; refine zV rfl (by kernel_rfl) rfl rfl ?_) | refine zD ?_ | refine zB _ rfl (by kernel_rfl) ?_ | refine zX rfl ?_ | refine zY rfl ?_ | refine zC ?_ | with_reducible refine zO ?_ | refine zI ?_ | refine zJ ?_ | (with_reducible first | refine zM ?_ | refine zN ?_ | refine zF ?_ | refine zH ?_ | refine zG ?_) | refine zP ?_
  refine z5 (α := { i : Nat // i ≤ xs.length }) (fun i => ⟨[rwL xs, .any, .any, I (uj xs i.1), .any, .any, rwL xs, I xs.length, I i.1, .any, .any, .any, .any, .any, .any, .any, .any, .any, .any, .any, .any, .any, .any, .any, .any, .any, .any], [], 0⟩) (fun i => xs.length - i.1) ⟨0, Nat.zero_le _⟩ ?_ ?_
  · exact yX [] rfl rfl (by decide) .nil (by repeat' first | exact zk | refine zc ?_ ?_ | exact zo | exact le_refl rfl | exact zm rfl rfl | exact zt rfl)
  · rintro ⟨i, hi⟩
    repeat' first | refine zL ?_ | refine zA ?_ | refine zQ [] ?_ | (refine isA ?_; refine zg rfl ?_) | (refine isL ?_; refine zW rfl (by kernel_rfl) rfl rfl ?_) | (refine zd rfl ?_; refine zV rfl (by kernel_rfl) rfl rfl ?_) | refine zD ?_ | refine zB _ rfl (by kernel_rfl) ?_ | refine zX rfl ?_ | refine zY rfl ?_ | refine zC ?_ | with_reducible refine zO ?_ | refine zI ?_ | refine zJ ?_ | (with_reducible first | refine zM ?_ | refine zN ?_ | refine zF ?_ | refine zH ?_ | refine zG ?_) | refine zP ?_
    refine zj rfl (fun h => ?_) (fun h => ?_)
    · have hlt : i < xs.length := by simpa using h
      obtain ⟨x, hx⟩ : ∃ z, xs[i]? = some z := ⟨_, List.getElem?_eq_getElem hlt⟩
      rcases Nat.eq_zero_or_pos i with rfl | hpos
      · have e1 : uj xs (0 + 1) = ((0 : Nat) : Int) := rfl
        repeat' first | refine zL ?_ | refine zA ?_ | refine zQ [] ?_ | (refine isA ?_; refine zg rfl ?_) | (refine isL ?_; refine zW rfl (by kernel_rfl) rfl rfl ?_) | (refine zd rfl ?_; refine zV rfl (by kernel_rfl) rfl rfl ?_) | (refine z7 (x := .tmp 6) ?_; refine za rfl (zz (t := rwT) (z := x) rfl rfl rfl rfl (Int.natCast_nonneg _) hx) rfl ?_) | (refine z6 (x := .tmp 6) rfl ?_; refine zT rfl (by kernel_rfl) rfl (zz (t := rwT) (z := x) rfl rfl rfl rfl (Int.natCast_nonneg _) hx) rfl ?_) | refine zD ?_ | refine zB _ rfl (by kernel_rfl) ?_ | refine zX rfl ?_ | refine zY rfl ?_ | refine zC ?_ | with_reducible refine zO ?_ | refine zI ?_ | refine zJ ?_ | (with_reducible first | refine zM ?_ | refine zN ?_ | refine zF ?_ | refine zH ?_ | refine zG ?_) | refine zP ?_
        refine ⟨⟨0 + 1, hlt⟩, by simp only; omega, ?_⟩
        exact yX [] rfl rfl (by decide) .nil (by
          repeat' first | exact zk | refine zc ?_ ?_ | exact zo | exact le_refl rfl | exact z8 (congrArg _ e1) | exact xa (by assumption) (by omega))
      · obtain ⟨k, y, m1, m2, m3, m4⟩ := t7 (xs := xs) (n := i) (by omega) hpos
        have e1 : uj xs (i + 1) = cond (decide (y8 x y < 0)) (i : Int) (k : Int) := by
          rw [uj, m1, decide_eq_false (show ¬ ((k : Nat) : Int) < 0 from by have := Int.natCast_nonneg k; omega), cond_false, Int.toNat_natCast, hx, m3]
        refine uo (T := ⟨[rwL xs, .any, .any, I ((k : Nat) : Int), .any, .any, rwL xs, I xs.length, I ((i : Nat) : Int), .any, .any, .any, .any, .any, .any, .any, .any, .any, .any, .any, .any, .any, .any, .any, .any, .any, .any], [], 0⟩) (yX [] rfl rfl (by decide) .nil (by
          repeat' first | exact zk | refine zc ?_ ?_ | exact zo | exact le_refl rfl | exact z8 (congrArg _ m1.symm))) ?_
        repeat' first | refine zL ?_ | refine zA ?_ | refine zQ [] ?_ | (refine isA ?_; refine zg rfl ?_) | (refine isL ?_; refine zW rfl (by kernel_rfl) rfl rfl ?_) | (refine zd rfl ?_; refine zV rfl (by kernel_rfl) rfl rfl ?_) | (refine z7 (x := .tmp 6) ?_; refine za rfl (zz (t := rwT) (z := x) rfl rfl rfl rfl (Int.natCast_nonneg _) hx) rfl ?_) | (refine z6 (x := .tmp 6) rfl ?_; refine zT rfl (by kernel_rfl) rfl (zz (t := rwT) (z := x) rfl rfl rfl rfl (Int.natCast_nonneg _) hx) rfl ?_) | refine zD ?_ | refine zB _ rfl (by kernel_rfl) ?_ | refine zX rfl ?_ | refine zY rfl ?_ | refine zC ?_ | with_reducible refine zO ?_ | refine zI ?_ | refine zJ ?_ | (with_reducible first | refine zM ?_ | refine zN ?_ | refine zF ?_ | refine zH ?_ | refine zG ?_) | refine zP ?_
        refine yG rfl rfl rfl rfl (fun p => absurd (of_decide_eq_true p) (by omega)) (fun p => ?_)
        repeat' first | refine zL ?_ | refine zA ?_ | refine zQ [] ?_ | (refine isA ?_; refine zg rfl ?_) | (refine isL ?_; refine zW rfl (by kernel_rfl) rfl rfl ?_) | (refine zd rfl ?_; refine zV rfl (by kernel_rfl) rfl rfl ?_) | (refine z7 (x := .tmp 17) ?_; refine za rfl (zz (t := rwT) (z := y) rfl rfl rfl rfl (Int.natCast_nonneg _) m3) rfl ?_) | (refine z6 (x := .tmp 17) rfl ?_; refine zT rfl (by kernel_rfl) rfl (zz (t := rwT) (z := y) rfl rfl rfl rfl (Int.natCast_nonneg _) m3) rfl ?_) | (refine zp 64 ?_; refine za rfl (zK rfl (xW x y) (.cons (.same rfl) (.cons (.same rfl) .nil)) rfl) rfl ?_) | (refine zq 64 rfl ?_; refine zT rfl (by kernel_rfl) rfl (zK rfl (xW x y) (.cons (.same rfl) (.cons (.same rfl) .nil)) rfl) rfl ?_) | refine zD ?_ | refine zB _ rfl (by kernel_rfl) ?_ | refine zX rfl ?_ | refine zY rfl ?_ | refine zC ?_ | with_reducible refine zO ?_ | refine zI ?_ | refine zJ ?_ | (with_reducible first | refine zM ?_ | refine zN ?_ | refine zF ?_ | refine zH ?_ | refine zG ?_) | refine zP ?_
        refine zj rfl (fun p => ?_) (fun p => ?_)
        · rw [p, cond_true] at e1
          repeat' first | refine zL ?_ | refine zA ?_ | refine zQ [] ?_ | (refine isA ?_; refine zg rfl ?_) | (refine isL ?_; refine zW rfl (by kernel_rfl) rfl rfl ?_) | (refine zd rfl ?_; refine zV rfl (by kernel_rfl) rfl rfl ?_) | refine zD ?_ | refine zB _ rfl (by kernel_rfl) ?_ | refine zX rfl ?_ | refine zY rfl ?_ | refine zC ?_ | with_reducible refine zO ?_ | refine zI ?_ | refine zJ ?_ | (with_reducible first | refine zM ?_ | refine zN ?_ | refine zF ?_ | refine zH ?_ | refine zG ?_) | refine zP ?_
          refine ⟨⟨i + 1, hlt⟩, by simp only; omega, ?_⟩
          exact yX [] rfl rfl (by decide) .nil (by
            repeat' first | exact zk | refine zc ?_ ?_ | exact zo | exact le_refl rfl | exact z8 (congrArg _ e1) | exact xa (by assumption) (by omega))
        · rw [p, cond_false] at e1
          repeat' first | refine zL ?_ | refine zA ?_ | refine zQ [] ?_ | (refine isA ?_; refine zg rfl ?_) | (refine isL ?_; refine zW rfl (by kernel_rfl) rfl rfl ?_) | (refine zd rfl ?_; refine zV rfl (by kernel_rfl) rfl rfl ?_) | refine zD ?_ | refine zB _ rfl (by kernel_rfl) ?_ | refine zX rfl ?_ | refine zY rfl ?_ | refine zC ?_ | with_reducible refine zO ?_ | refine zI ?_ | refine zJ ?_ | (with_reducible first | refine zM ?_ | refine zN ?_ | refine zF ?_ | refine zH ?_ | refine zG ?_) | refine zP ?_
          refine ⟨⟨i + 1, hlt⟩, by simp only; omega, ?_⟩
          exact yX [] rfl rfl (by decide) .nil (by
            repeat' first | exact zk | refine zc ?_ ?_ | exact zo | exact le_refl rfl | exact z8 (congrArg _ e1) | exact xa (by assumption) (by omega))
    · have hge : i = xs.length := by
        have : ¬ ((i : Int) < xs.length) := by simpa using h
        omega
      subst hge
      repeat' first | refine zL ?_ | refine zA ?_ | refine zQ [] ?_ | (refine isA ?_; refine zg rfl ?_) | (refine isL ?_; refine zW rfl (by kernel_rfl) rfl rfl ?_) | (refine zd rfl ?_; refine zV rfl (by kernel_rfl) rfl rfl ?_) | exact yD rfl rfl rfl | refine zD ?_ | refine zB _ rfl (by kernel_rfl) ?_ | refine zX rfl ?_ | refine zY rfl ?_ | refine zC ?_ | with_reducible refine zO ?_ | refine zI ?_ | refine zJ ?_ | (with_reducible first | refine zM ?_ | refine zN ?_ | refine zF ?_ | refine zH ?_ | refine zG ?_) | refine zP ?_
theorem dI (xs : List Rw) (hl : xs.length ≤ 1000000000) : zx Go.Proofs.Try.prog 119 [rwL xs] [] (I (nm xs)) [] false := by
  refine zu [2] Go.Proofs.Try.func119 rfl rfl ?_
  simp only [Go.Proofs.Try.ntmps119, List.length_cons, List.length_nil, Nat.reduceAdd, Nat.reduceSub, List.replicate_succ, List.replicate_zero, List.cons_append, List.nil_append]
  repeat' first | refine zL ?_ | refine zA ?_ | refine zQ [] ?_ | (refine isA ?_; refine zg rfl ?_) | (refine isL ?_; refine zW rfl (by kernel_rfl) rfl rfl ?_) | (refine zd rfl ?_; refine zV rfl (by kernel_rfl) rfl rfl ?_) | refine zD ?_ | refine zB _ rfl (by kernel_rfl) ?_ | refine zX rfl ?_ | refine zY rfl ?_ | refine zC ?_ | with_reducible refine zO ?_ | refine zI ?_ | refine zJ ?_ | (with_reducible first | refine zM ?_ | refine zN ?_ | refine zF ?_ | refine zH ?_ | refine zG ?_) | refine zP ?_
  refine z5 (α := { i : Nat // i ≤ xs.length }) (fun i => ⟨[rwL xs, .any, .any, I (uj xs i.1), I i.1, .any, .any, .any, .any, .any, .any, .any, .any, .any, .any, .any, .any, .any, .any, .any, .any, .any, .any, .any, .any, .any, .any], [], 0⟩) (fun i => xs.length - i.1) ⟨0, Nat.zero_le _⟩ ?_ ?_
  · exact yX [] rfl rfl (by decide) .nil (by repeat' first | exact zk | refine zc ?_ ?_ | exact zo | exact le_refl rfl | exact zm rfl rfl | exact zt rfl)
  · rintro ⟨i, hi⟩
    repeat' first | refine zL ?_ | refine zA ?_ | refine zQ [] ?_ | (refine isA ?_; refine zg rfl ?_) | (refine isL ?_; refine zW rfl (by kernel_rfl) rfl rfl ?_) | (refine zd rfl ?_; refine zV rfl (by kernel_rfl) rfl rfl ?_) | refine zD ?_ | refine zB _ rfl (by kernel_rfl) ?_ | refine zX rfl ?_ | refine zY rfl ?_ | refine zC ?_ | with_reducible refine zO ?_ | refine zI ?_ | refine zJ ?_ | (with_reducible first | refine zM ?_ | refine zN ?_ | refine zF ?_ | refine zH ?_ | refine zG ?_) | refine zP ?_
    refine zj rfl (fun h => ?_) (fun h => ?_)
    · have hlt : i < xs.length := by simpa using h
      obtain ⟨x, hx⟩ : ∃ z, xs[i]? = some z := ⟨_, List.getElem?_eq_getElem hlt⟩
      rcases Nat.eq_zero_or_pos i with rfl | hpos
      · have e1 : uj xs (0 + 1) = ((0 : Nat) : Int) := rfl
        repeat' first | refine zL ?_ | refine zA ?_ | refine zQ [] ?_ | (refine isA ?_; refine zg rfl ?_) | (refine isL ?_; refine zW rfl (by kernel_rfl) rfl rfl ?_) | (refine zd rfl ?_; refine zV rfl (by kernel_rfl) rfl rfl ?_) | refine zD ?_ | refine zB _ rfl (by kernel_rfl) ?_ | refine zX rfl ?_ | refine zY rfl ?_ | refine zC ?_ | with_reducible refine zO ?_ | refine zI ?_ | refine zJ ?_ | (with_reducible first | refine zM ?_ | refine zN ?_ | refine zF ?_ | refine zH ?_ | refine zG ?_) | refine zP ?_
        refine ⟨⟨0 + 1, hlt⟩, by simp only; omega, ?_⟩
        exact yX [] rfl rfl (by decide) .nil (by
          repeat' first | exact zk | refine zc ?_ ?_ | exact zo | exact le_refl rfl | exact z8 (congrArg _ e1) | exact xa (by assumption) (by omega))
      · obtain ⟨k, y, m1, m2, m3, m4⟩ := t7 (xs := xs) (n := i) (by omega) hpos
        have e1 : uj xs (i + 1) = cond (decide (y8 x y < 0)) (i : Int) (k : Int) := by
          rw [uj, m1, decide_eq_false (show ¬ ((k : Nat) : Int) < 0 from by have := Int.natCast_nonneg k; omega), cond_false, Int.toNat_natCast, hx, m3]
        refine uo (T := ⟨[rwL xs, .any, .any, I ((k : Nat) : Int), I ((i : Nat) : Int), .any, .any, .any, .any, .any, .any, .any, .any, .any, .any, .any, .any, .any, .any, .any, .any, .any, .any, .any, .any, .any, .any], [], 0⟩) (yX [] rfl rfl (by decide) .nil (by
          repeat' first | exact zk | refine zc ?_ ?_ | exact zo | exact le_refl rfl | exact z8 (congrArg _ m1.symm))) ?_
        repeat' first | refine zL ?_ | refine zA ?_ | refine zQ [] ?_ | (refine isA ?_; refine zg rfl ?_) | (refine isL ?_; refine zW rfl (by kernel_rfl) rfl rfl ?_) | (refine zd rfl ?_; refine zV rfl (by kernel_rfl) rfl rfl ?_) | refine zD ?_ | refine zB _ rfl (by kernel_rfl) ?_ | refine zX rfl ?_ | refine zY rfl ?_ | refine zC ?_ | with_reducible refine zO ?_ | refine zI ?_ | refine zJ ?_ | (with_reducible first | refine zM ?_ | refine zN ?_ | refine zF ?_ | refine zH ?_ | refine zG ?_) | refine zP ?_
        refine yG rfl rfl rfl rfl (fun p => absurd (of_decide_eq_true p) (by omega)) (fun p => ?_)
        repeat' first | refine zL ?_ | refine zA ?_ | refine zQ [] ?_ | (refine isA ?_; refine zg rfl ?_) | (refine isL ?_; refine zW rfl (by kernel_rfl) rfl rfl ?_) | (refine zd rfl ?_; refine zV rfl (by kernel_rfl) rfl rfl ?_) | (refine z7 (x := .tmp 14) ?_; refine za rfl (zz (t := rwT) (z := x) rfl rfl rfl rfl (Int.natCast_nonneg _) hx) rfl ?_) | (refine z6 (x := .tmp 14) rfl ?_; refine zT rfl (by kernel_rfl) rfl (zz (t := rwT) (z := x) rfl rfl rfl rfl (Int.natCast_nonneg _) hx) rfl ?_) | (refine z7 (x := .tmp 18) ?_; refine za rfl (zz (t := rwT) (z := y) rfl rfl rfl rfl (Int.natCast_nonneg _) m3) rfl ?_) | (refine z6 (x := .tmp 18) rfl ?_; refine zT rfl (by kernel_rfl) rfl (zz (t := rwT) (z := y) rfl rfl rfl rfl (Int.natCast_nonneg _) m3) rfl ?_) | (refine zp 68 ?_; refine za rfl (zK rfl (xy x y) (.cons (.same rfl) (.cons (.same rfl) .nil)) rfl) rfl ?_) | (refine zq 68 rfl ?_; refine zT rfl (by kernel_rfl) rfl (zK rfl (xy x y) (.cons (.same rfl) (.cons (.same rfl) .nil)) rfl) rfl ?_) | refine zD ?_ | refine zB _ rfl (by kernel_rfl) ?_ | refine zX rfl ?_ | refine zY rfl ?_ | refine zC ?_ | with_reducible refine zO ?_ | refine zI ?_ | refine zJ ?_ | (with_reducible first | refine zM ?_ | refine zN ?_ | refine zF ?_ | refine zH ?_ | refine zG ?_) | refine zP ?_
        refine zj rfl (fun p => ?_) (fun p => ?_)
        · rw [p, cond_true] at e1
          repeat' first | refine zL ?_ | refine zA ?_ | refine zQ [] ?_ | (refine isA ?_; refine zg rfl ?_) | (refine isL ?_; refine zW rfl (by kernel_rfl) rfl rfl ?_) | (refine zd rfl ?_; refine zV rfl (by kernel_rfl) rfl rfl ?_) | refine zD ?_ | refine zB _ rfl (by kernel_rfl) ?_ | refine zX rfl ?_ | refine zY rfl ?_ | refine zC ?_ | with_reducible refine zO ?_ | refine zI ?_ | refine zJ ?_ | (with_reducible first | refine zM ?_ | refine zN ?_ | refine zF ?_ | refine zH ?_ | refine zG ?_) | refine zP ?_
          refine ⟨⟨i + 1, hlt⟩, by simp only; omega, ?_⟩
          exact yX [] rfl rfl (by decide) .nil (by
            repeat' first | exact zk | refine zc ?_ ?_ | exact zo | exact le_refl rfl | exact z8 (congrArg _ e1) | exact xa (by assumption) (by omega))
        · rw [p, cond_false] at e1
          repeat' first | refine zL ?_ | refine zA ?_ | refine zQ [] ?_ | (refine isA ?_; refine zg rfl ?_) | (refine isL ?_; refine zW rfl (by kernel_rfl) rfl rfl ?_) | (refine zd rfl ?_; refine zV rfl (by kernel_rfl) rfl rfl ?_) | refine zD ?_ | refine zB _ rfl (by kernel_rfl) ?_ | refine zX rfl ?_ | refine zY rfl ?_ | refine zC ?_ | with_reducible refine zO ?_ | refine zI ?_ | refine zJ ?_ | (with_reducible first | refine zM ?_ | refine zN ?_ | refine zF ?_ | refine zH ?_ | refine zG ?_) | refine zP ?_
          refine ⟨⟨i + 1, hlt⟩, by simp only; omega, ?_⟩
          exact yX [] rfl rfl (by decide) .nil (by
            repeat' first | exact zk | refine zc ?_ ?_ | exact zo | exact le_refl rfl | exact z8 (congrArg _ e1) | exact xa (by assumption) (by omega))
    · have hge : i = xs.length := by
        have : ¬ ((i : Int) < xs.length) := by simpa using h
        omega
      subst hge
      repeat' first | refine zL ?_ | refine zA ?_ | refine zQ [] ?_ | (refine isA ?_; refine zg rfl ?_) | (refine isL ?_; refine zW rfl (by kernel_rfl) rfl rfl ?_) | (refine zd rfl ?_; refine zV rfl (by kernel_rfl) rfl rfl ?_) | exact yD rfl rfl rfl | refine zD ?_ | refine zB _ rfl (by kernel_rfl) ?_ | refine zX rfl ?_ | refine zY rfl ?_ | refine zC ?_ | with_reducible refine zO ?_ | refine zI ?_ | refine zJ ?_ | (with_reducible first | refine zM ?_ | refine zN ?_ | refine zF ?_ | refine zH ?_ | refine zG ?_) | refine zP ?_
theorem mw (xs : List Rw) (k : Nat) (hk : k < xs.length) (hl : xs.length ≤ 100000000) : zx Go.Proofs.Try.prog 62 [rwL xs, I k] [] (.sl 0 0 (xs.take k ++ xs.drop (k + 1)).length) [rwR (xs.take k ++ xs.drop (k + 1))] false := by
  have ew : IntKind.i64.wrap ((k : Int) + 1) = ((k + 1 : Nat) : Int) := by rw [IntKind.wrap_i64]; omega
  refine zu [4] Go.Proofs.Try.func62 rfl rfl ?_
  simp only [Go.Proofs.Try.ntmps62, List.length_cons, List.length_nil, Nat.reduceAdd, Nat.reduceSub, List.replicate_succ, List.replicate_zero, List.cons_append, List.nil_append]
  repeat' first | refine zL ?_ | refine zA ?_ | refine zQ [] ?_ | (refine isA ?_; refine zg rfl ?_) | (refine isL ?_; refine zW rfl (by kernel_rfl) rfl rfl ?_) | (refine zd rfl ?_; refine zV rfl (by kernel_rfl) rfl rfl ?_) | (refine v7 (x := .tmp 6) ?_; refine za rfl (ym rfl rfl rfl (by omega)) rfl ?_) | (refine v6 (x := .tmp 6) rfl ?_; refine zT rfl (by kernel_rfl) rfl (ym rfl rfl rfl (by omega)) rfl ?_) | (refine v7 (x := .tmp 11) ?_; refine za rfl (xl (k := k + 1) rfl rfl rfl ew (by omega)) rfl ?_) | (refine v6 (x := .tmp 11) rfl ?_; refine zT rfl (by kernel_rfl) rfl (xl (k := k + 1) rfl rfl rfl ew (by omega)) rfl ?_) | (refine zp 114 ?_; refine za rfl (yI rfl (wi (xs.take k) (by simp; omega)) (.cons (.same rfl) .nil) (fun q hq => by simp at hq; subst hq; exact zE _ _) rfl rfl) rfl ?_) | (refine zq 114 rfl ?_; refine zT rfl (by kernel_rfl) rfl (yI rfl (wi (xs.take k) (by simp; omega)) (.cons (.same rfl) .nil) (fun q hq => by simp at hq; subst hq; exact zE _ _) rfl rfl) rfl ?_) | (refine xt ?_; refine za rfl (yU (t := rwT) (xs := xs.take k) (ys := xs.drop (k + 1)) rfl rfl rfl rfl (.lst _ _) (by simp; omega) rfl) rfl ?_) | (refine xR rfl ?_; refine zT rfl (by kernel_rfl) rfl (yU (t := rwT) (xs := xs.take k) (ys := xs.drop (k + 1)) rfl rfl rfl rfl (.lst _ _) (by simp; omega) rfl) rfl ?_) | exact lm [1] rfl (vT (by decide) (.cons rfl rfl rfl rfl (zU (zE _ _)) .nil)) (zm rfl rfl) (Or.inr ⟨rfl, fun q hq => by simp at hq; subst hq; exact ⟨Nat.zero_ne_one, fun _ => (wE _).flatS⟩⟩) | refine zD ?_ | refine zB _ rfl (by kernel_rfl) ?_ | refine zX rfl ?_ | refine zY rfl ?_ | refine zC ?_ | with_reducible refine zO ?_ | refine zI ?_ | refine zJ ?_ | (with_reducible first | refine zM ?_ | refine zN ?_ | refine zF ?_ | refine zH ?_ | refine zG ?_) | refine zP ?_
theorem gW (xs : List Rw) (k : Nat) (hk : k < xs.length) (hl : xs.length ≤ 100000000) : zx Go.Proofs.Try.prog 120 [rwL xs, I k] [] (.sl 0 0 (xs.take k ++ xs.drop (k + 1)).length) [rwR (xs.take k ++ xs.drop (k + 1))] false := by
  have ew : IntKind.i64.wrap ((k : Int) + 1) = ((k + 1 : Nat) : Int) := by rw [IntKind.wrap_i64]; omega
  refine zu [4] Go.Proofs.Try.func120 rfl rfl ?_
  simp only [Go.Proofs.Try.ntmps120, List.length_cons, List.length_nil, Nat.reduceAdd, Nat.reduceSub, List.replicate_succ, List.replicate_zero, List.cons_append, List.nil_append]
  repeat' first | refine zL ?_ | refine zA ?_ | (refine isA ?_; refine zg rfl ?_) | (refine isL ?_; refine zW rfl (by kernel_rfl) rfl rfl ?_) | (refine zd rfl ?_; refine zV rfl (by kernel_rfl) rfl rfl ?_) | refine zD ?_ | refine zB _ rfl (by kernel_rfl) ?_ | refine zX rfl ?_ | refine zY rfl ?_ | refine zC ?_ | with_reducible refine zO ?_ | refine zI ?_ | refine zJ ?_ | (with_reducible first | refine zM ?_ | refine zN ?_ | refine zF ?_ | refine zH ?_ | refine zG ?_) | refine zP ?_
  refine tO (fun _ => True) 11 rfl ?_
  refine yQ 1 trivial rfl (by kernel_rfl) rfl (fun _ => rfl) rfl ?_
  refine yQ 2 trivial rfl (by kernel_rfl) rfl (fun _ => rfl) rfl ?_
  refine xF 3 trivial rfl (by kernel_rfl) rfl (fun _ _ => ym rfl rfl rfl (by omega)) rfl ?_
  refine yQ 5 trivial rfl (by kernel_rfl) rfl (fun _ => rfl) rfl ?_
  refine yQ 6 trivial rfl (by kernel_rfl) rfl (fun _ => rfl) rfl ?_
  refine yQ 7 trivial rfl (by kernel_rfl) rfl (fun _ => rfl) rfl ?_
  refine xF 8 trivial rfl (by kernel_rfl) rfl (fun _ _ => xl (k := k + 1) rfl rfl rfl ew (by omega)) rfl ?_
  refine wY 0 (by kernel_rfl) ?_
  refine gZ rfl rfl rfl trivial rfl ?_
  refine wY 4 (by kernel_rfl) ?_
  refine sq rfl rfl (yU (t := rwT) (xs := []) (ys := xs.take k) rfl rfl rfl rfl (.lst _ _) (by simp; omega) rfl) trivial rfl ?_
  refine wY 9 (by kernel_rfl) ?_
  refine sq rfl rfl (yU (t := rwT) (xs := [] ++ xs.take k) (ys := xs.drop (k + 1)) rfl rfl rfl rfl (.lst _ _) (by simp; omega) rfl) trivial rfl ?_
  refine yQ 10 trivial rfl (by kernel_rfl) rfl (fun _ => rfl) rfl ?_
  refine w8 (by kernel_rfl) ?_
  repeat' first | refine zL ?_ | refine zA ?_ | refine zQ [] ?_ | (refine isA ?_; refine zg rfl ?_) | (refine isL ?_; refine zW rfl (by kernel_rfl) rfl rfl ?_) | (refine zd rfl ?_; refine zV rfl (by kernel_rfl) rfl rfl ?_) | exact lm [2] rfl (vT (by decide) (.cons rfl rfl rfl rfl (zU (zE _ _)) .nil)) (zm rfl rfl) (Or.inr ⟨rfl, fun q hq => by simp at hq; subst hq; exact ⟨Nat.zero_ne_one, fun _ => (wE _).flatS⟩⟩) | refine zD ?_ | refine zB _ rfl (by kernel_rfl) ?_ | refine zX rfl ?_ | refine zY rfl ?_ | refine zC ?_ | with_reducible refine zO ?_ | refine zI ?_ | refine zJ ?_ | (with_reducible first | refine zM ?_ | refine zN ?_ | refine zF ?_ | refine zH ?_ | refine zG ?_) | refine zP ?_
end Go.Proofs.Ytojcojanokhnaaa.Ab
namespace Go.Proofs.Ytojcojanokhnaaa.Ab
open Go.RowKit
theorem vc (rs : List Rn) : rs.flatten.length = tot rs := by rw [List.length_flatten]; rfl
theorem vA {rs : List Rn} {i : Nat} {z : Rn} (hz : rs[i]? = some z) : (rs.take (i + 1)).flatten = (rs.take i).flatten ++ z := by
  rw [yp hz]; simp
theorem m7 (rs : List Rn) (hok : v5 rs) (ht : tot rs ≤ 100000000) : zx Go.Proofs.Try.prog 85 [rnL rs] [] (.sl 0 0 rs.flatten.length) [rwR rs.flatten] false := by
  have hl := hok.1
  refine zu [2] Go.Proofs.Try.func85 rfl rfl ?_
  simp only [Go.Proofs.Try.ntmps85, List.length_cons, List.length_nil, Nat.reduceAdd, Nat.reduceSub, List.replicate_succ, List.replicate_zero, List.cons_append, List.nil_append]
  repeat' first | refine zL ?_ | refine zA ?_ | refine zQ [] ?_ | (refine isA ?_; refine zg rfl ?_) | (refine isL ?_; refine zW rfl (by kernel_rfl) rfl rfl ?_) | (refine zd rfl ?_; refine zV rfl (by kernel_rfl) rfl rfl ?_) | refine zD ?_ | refine zB _ rfl (by kernel_rfl) ?_ | refine zX rfl ?_ | refine zY rfl ?_ | refine zC ?_ | with_reducible refine zO ?_ | refine zI ?_ | refine zJ ?_ | (with_reducible first | refine zM ?_ | refine zN ?_ | refine zF ?_ | refine zH ?_ | refine zG ?_) | refine zP ?_
  refine z5 (α := { i : Nat // i ≤ rs.length }) (fun i => ⟨[rnL rs, .any, .any, .sl 0 0 (rs.take i.1).flatten.length, I i.1, .any, .any, .any, .any, .any, .any, .any, .any, .any, .any, .any, .any, .any, .any, .any], [rwR (rs.take i.1).flatten], 0⟩) (fun i => rs.length - i.1) ⟨0, Nat.zero_le _⟩ ?_ ?_
  · exact yg rfl (by repeat' first | exact EqS.nil | refine EqS.any ?_ | refine EqS.same rfl ?_)
  · rintro ⟨i, hi⟩
    repeat' first | refine zL ?_ | refine zA ?_ | refine zQ [] ?_ | (refine isA ?_; refine zg rfl ?_) | (refine isL ?_; refine zW rfl (by kernel_rfl) rfl rfl ?_) | (refine zd rfl ?_; refine zV rfl (by kernel_rfl) rfl rfl ?_) | refine zD ?_ | refine zB _ rfl (by kernel_rfl) ?_ | refine zX rfl ?_ | refine zY rfl ?_ | refine zC ?_ | with_reducible refine zO ?_ | refine zI ?_ | refine zJ ?_ | (with_reducible first | refine zM ?_ | refine zN ?_ | refine zF ?_ | refine zH ?_ | refine zG ?_) | refine zP ?_
    refine zj rfl (fun h => ?_) (fun h => ?_)
    · have hlt : i < rs.length := by simpa using h
      obtain ⟨z, hz⟩ : ∃ z, rs[i]? = some z := ⟨_, List.getElem?_eq_getElem hlt⟩
      have h1 := qT rs (i + 1)
      rw [vY hz] at h1
      have h2 := vc (rs.take i)
      repeat' first | refine zL ?_ | refine zA ?_ | refine zQ [] ?_ | (refine isA ?_; refine zg rfl ?_) | (refine isL ?_; refine zW rfl (by kernel_rfl) rfl rfl ?_) | (refine zd rfl ?_; refine zV rfl (by kernel_rfl) rfl rfl ?_) | (refine z7 ?_; refine za rfl (zz (t := rnT) (z := z) rfl rfl rfl rfl (Int.natCast_nonneg i) hz) rfl ?_) | (refine z6 rfl ?_; refine zT rfl (by kernel_rfl) rfl (zz (t := rnT) (z := z) rfl rfl rfl rfl (Int.natCast_nonneg i) hz) rfl ?_) | (refine xt ?_; refine za rfl (yU (t := rwT) (xs := (rs.take i).flatten) (ys := z) rfl rfl rfl rfl (.lst _ _) (by omega) rfl) rfl ?_) | (refine xR rfl ?_; refine zT rfl (by kernel_rfl) rfl (yU (t := rwT) (xs := (rs.take i).flatten) (ys := z) rfl rfl rfl rfl (.lst _ _) (by omega) rfl) rfl ?_) | refine zD ?_ | refine zB _ rfl (by kernel_rfl) ?_ | refine zX rfl ?_ | refine zY rfl ?_ | refine zC ?_ | with_reducible refine zO ?_ | refine zI ?_ | refine zJ ?_ | (with_reducible first | refine zM ?_ | refine zN ?_ | refine zF ?_ | refine zH ?_ | refine zG ?_) | refine zP ?_
      refine ⟨⟨i + 1, hlt⟩, by simp only; omega, ?_⟩
      exact yX [1] rfl rfl (by decide) (.cons rfl rfl rfl rfl (yh (by rw [vA hz]) (zE _ _)) .nil) (by
        repeat' first | exact zk | refine zc ?_ ?_ | exact zo | exact le_refl rfl | exact zm rfl rfl | exact zm rfl (by rw [vA hz, List.length_append]) | exact xa (by assumption) (by omega))
    · have hge : i = rs.length := by
        have : ¬ ((i : Int) < rs.length) := by simpa using h
        omega
      subst hge
      repeat' first | refine zL ?_ | refine zA ?_ | refine zQ [] ?_ | (refine isA ?_; refine zg rfl ?_) | (refine isL ?_; refine zW rfl (by kernel_rfl) rfl rfl ?_) | (refine zd rfl ?_; refine zV rfl (by kernel_rfl) rfl rfl ?_) | exact ln (ty := rwT) rfl rfl rfl rfl (by simp) (by simp) (wE _) | refine zD ?_ | refine zB _ rfl (by kernel_rfl) ?_ | refine zX rfl ?_ | refine zY rfl ?_ | refine zC ?_ | with_reducible refine zO ?_ | refine zI ?_ | refine zJ ?_ | (with_reducible first | refine zM ?_ | refine zN ?_ | refine zF ?_ | refine zH ?_ | refine zG ?_) | refine zP ?_
theorem fR (rs : List Rn) (hok : v5 rs) (ht : tot rs ≤ 100000000) : zx Go.Proofs.Try.prog 78 [rnL rs] [] (.sl 0 0 rs.flatten.length) [rwR rs.flatten] false := by
  have hl := hok.1
  refine zu [2] Go.Proofs.Try.func78 rfl rfl ?_
  simp only [Go.Proofs.Try.ntmps78, List.length_cons, List.length_nil, Nat.reduceAdd, Nat.reduceSub, List.replicate_succ, List.replicate_zero, List.cons_append, List.nil_append]
  repeat' first | refine zL ?_ | refine zA ?_ | refine zQ [] ?_ | (refine isA ?_; refine zg rfl ?_) | (refine isL ?_; refine zW rfl (by kernel_rfl) rfl rfl ?_) | (refine zd rfl ?_; refine zV rfl (by kernel_rfl) rfl rfl ?_) | refine zD ?_ | refine zB _ rfl (by kernel_rfl) ?_ | refine zX rfl ?_ | refine zY rfl ?_ | refine zC ?_ | with_reducible refine zO ?_ | refine zI ?_ | refine zJ ?_ | (with_reducible first | refine zM ?_ | refine zN ?_ | refine zF ?_ | refine zH ?_ | refine zG ?_) | refine zP ?_
  refine z5 (α := { i : Nat // i ≤ rs.length }) (fun i => ⟨[rnL rs, .any, .any, .sl 0 0 (rs.take i.1).flatten.length, .any, .any, .any, rnL rs, I rs.length, I i.1, .any, .any, .any, .any, .any, .any, .any, .any, .any], [rwR (rs.take i.1).flatten], 0⟩) (fun i => rs.length - i.1) ⟨0, Nat.zero_le _⟩ ?_ ?_
  · exact yg rfl (by repeat' first | exact EqS.nil | refine EqS.any ?_ | refine EqS.same rfl ?_)
  · rintro ⟨i, hi⟩
    repeat' first | refine zL ?_ | refine zA ?_ | refine zQ [] ?_ | (refine isA ?_; refine zg rfl ?_) | (refine isL ?_; refine zW rfl (by kernel_rfl) rfl rfl ?_) | (refine zd rfl ?_; refine zV rfl (by kernel_rfl) rfl rfl ?_) | refine zD ?_ | refine zB _ rfl (by kernel_rfl) ?_ | refine zX rfl ?_ | refine zY rfl ?_ | refine zC ?_ | with_reducible refine zO ?_ | refine zI ?_ | refine zJ ?_ | (with_reducible first | refine zM ?_ | refine zN ?_ | refine zF ?_ | refine zH ?_ | refine zG ?_) | refine zP ?_
    refine zj rfl (fun h => ?_) (fun h => ?_)
    · have hlt : i < rs.length := by simpa using h
      obtain ⟨z, hz⟩ : ∃ z, rs[i]? = some z := ⟨_, List.getElem?_eq_getElem hlt⟩
      have h1 := qT rs (i + 1)
      rw [vY hz] at h1
      have h2 := vc (rs.take i)
      repeat' first | refine zL ?_ | refine zA ?_ | refine zQ [] ?_ | (refine isA ?_; refine zg rfl ?_) | (refine isL ?_; refine zW rfl (by kernel_rfl) rfl rfl ?_) | (refine zd rfl ?_; refine zV rfl (by kernel_rfl) rfl rfl ?_) | (refine z7 ?_; refine za rfl (zz (t := rnT) (z := z) rfl rfl rfl rfl (Int.natCast_nonneg i) hz) rfl ?_) | (refine z6 rfl ?_; refine zT rfl (by kernel_rfl) rfl (zz (t := rnT) (z := z) rfl rfl rfl rfl (Int.natCast_nonneg i) hz) rfl ?_) | (refine xt ?_; refine za rfl (yU (t := rwT) (xs := (rs.take i).flatten) (ys := z) rfl rfl rfl rfl (.lst _ _) (by omega) rfl) rfl ?_) | (refine xR rfl ?_; refine zT rfl (by kernel_rfl) rfl (yU (t := rwT) (xs := (rs.take i).flatten) (ys := z) rfl rfl rfl rfl (.lst _ _) (by omega) rfl) rfl ?_) | refine zD ?_ | refine zB _ rfl (by kernel_rfl) ?_ | refine zX rfl ?_ | refine zY rfl ?_ | refine zC ?_ | with_reducible refine zO ?_ | refine zI ?_ | refine zJ ?_ | (with_reducible first | refine zM ?_ | refine zN ?_ | refine zF ?_ | refine zH ?_ | refine zG ?_) | refine zP ?_
      refine ⟨⟨i + 1, hlt⟩, by simp only; omega, ?_⟩
      exact yX [2] rfl rfl (by decide) (.cons rfl rfl rfl rfl (yh (by rw [vA hz]) (zE _ _)) .nil) (by
        repeat' first | exact zk | refine zc ?_ ?_ | exact zo | exact le_refl rfl | exact zm rfl rfl | exact zm rfl (by rw [vA hz, List.length_append]) | exact xa (by assumption) (by omega))
    · have hge : i = rs.length := by
        have : ¬ ((i : Int) < rs.length) := by simpa using h
        omega
      subst hge
      repeat' first | refine zL ?_ | refine zA ?_ | refine zQ [] ?_ | (refine isA ?_; refine zg rfl ?_) | (refine isL ?_; refine zW rfl (by kernel_rfl) rfl rfl ?_) | (refine zd rfl ?_; refine zV rfl (by kernel_rfl) rfl rfl ?_) | exact ln (ty := rwT) rfl rfl rfl rfl (by simp) (by simp) (wE _) | refine zD ?_ | refine zB _ rfl (by kernel_rfl) ?_ | refine zX rfl ?_ | refine zY rfl ?_ | refine zC ?_ | with_reducible refine zO ?_ | refine zI ?_ | refine zJ ?_ | (with_reducible first | refine zM ?_ | refine zN ?_ | refine zF ?_ | refine zH ?_ | refine zG ?_) | refine zP ?_
end Go.Proofs.Ytojcojanokhnaaa.Ab
namespace Go.Proofs.Ytojcojanokhnaaa.Ab
open Go.RowKit
def rcV (rs : List Rn) (k : Nat) (p : Int) : Int := cond (decide (p < 0)) 0 (x3 ((rs.getD k [])[p.toNat]?).toList)
def xJ (s : So) : Int := cond (decide (s.ph = 1)) (x3 s.heap + x3 s.dfr) (cond (decide (s.ph = 2)) (cond (decide (s.lp < 0) || decide (s.rp < 0)) 0 (rcV s.runs 0 s.lp + rcV s.runs 1 s.rp)) (cond (decide (s.ph = 3)) (rcV s.runs 0 s.lp) 0))
def vy (s : So) : Bool := avR s.input && (inV s.pos 0 s.input.length && (avS s.runs && (decide (0 ≤ s.wr) && (vw s.out && s.heap.all fun r => !bel r s.out))))
def sJ (s : So) : Bool := decide (s.lp = 0) && (decide (s.rp = 0) && ((decide (0 < s.out.length) || decide (s.dfr.length = 0)) && (decide (xJ s ≤ 60) && eqB (s.runs.flatten ++ s.out ++ s.heap ++ s.dfr) (s.input.take s.pos.toNat))))
def vX (s : So) : Bool := decide (s.pos = s.input.length) && (decide (s.heap.length = 0) && (decide (s.dfr.length = 0) && eqB s.runs.flatten s.input))
def vO (s : So) : Bool := match s.runs with
  | a :: b :: _ => inV s.lp 0 a.length && (inV s.rp 0 b.length && (xj s.out (mgV (a.take s.lp.toNat) (b.take s.rp.toNat)) && xj s.out ((mgV a b).take (s.lp.toNat + s.rp.toNat))))
  | _ => false
def uV (s : So) : Bool := decide (s.runs.length = 1) && (inV s.lp 0 ((s.input.length : Int) - 1) && (decide (s.rp = 0) && decide (s.out.length = 0)))
def uW (s : So) : Bool := decide (s.runs.length ≤ 1) && (decide (s.lp = s.input.length) && (decide (s.rp = 0) && decide (s.out.length = 0)))
def vS (s : So) : Bool := vy s && cond (decide (s.ph = 1)) (sJ s) (vX s && cond (decide (s.ph = 2)) (vO s) (cond (decide (s.ph = 3)) (uV s) (cond (decide (s.ph = 4)) (uW s) false)))
def yO (s : So) : So := { s with lp := 0, rp := 0, ph := cond (decide (s.runs.length = 0)) 4 (cond (decide (s.runs.length = 1)) 3 2) }
def endV (s : So) : So := { s with runs := s.runs ++ [s.out], out := [] }
def uy (s : So) (r : Rw) : So := cond (bel r s.out) { s with dfr := s.dfr ++ [r], pos := s.pos + 1 } { s with heap := s.heap ++ [r], pos := s.pos + 1 }
def kd (s : So) (k : Nat) (r : Rw) : So := { s with heap := s.heap.take k ++ s.heap.drop (k + 1), out := s.out ++ [r], wr := IntKind.i64.wrap (s.wr + xB r) }
def yk (s : So) : So := { s with runs := s.runs ++ [s.out], out := [], heap := s.dfr, dfr := [] }
def vt (s : So) : So := cond (decide (0 < s.out.length)) (endV s) s
def qK (s : So) : So := { s with runs := s.runs.drop 2 ++ [s.out], out := [] }
def pm (s : So) (r : Rw) : So := { s with out := s.out ++ [r], wr := IntKind.i64.wrap (s.wr + xB r), lp := s.lp + 1 }
def sV (s : So) (r : Rw) : So := { s with out := s.out ++ [r], wr := IntKind.i64.wrap (s.wr + xB r), rp := s.rp + 1 }
def vu (s : So) : So := { s with lp := s.lp + 1, ph := cond (decide (s.lp + 1 = s.input.length)) 4 3 }
inductive StepV (s : So) (g : Int) : So → List Rw → Prop where
  | put {r : Rw} (hp : s.ph = 1) (hr : s.input[s.pos.toNat]? = some r) (hf : xJ s + xB r ≤ g) : StepV s g (uy s r) []
  | pop {k : Nat} {r : Rw} (hp : s.ph = 1) (hf : ∀ r, s.input[s.pos.toNat]? = some r → g < xJ s + xB r) (hh : 0 < s.heap.length) (hk : nm s.heap = (k : Nat)) (hr : s.heap[k]? = some r) : StepV s g (kd s k r) []
  | swap (hp : s.ph = 1) (hf : ∀ r, s.input[s.pos.toNat]? = some r → g < xJ s + xB r) (hh : s.heap = []) (hd : 0 < s.dfr.length) : StepV s g (yk s) []
  | close (hp : s.ph = 1) (hf : ∀ r, s.input[s.pos.toNat]? = some r → g < xJ s + xB r) (hh : s.heap = []) (hd : s.dfr = []) : StepV s g (yO (vt s)) []
  | merged {a b : Rn} {rest : List Rn} (hp : s.ph = 2) (hr : s.runs = a :: b :: rest) (h1 : s.lp = a.length) (h2 : s.rp = b.length) : StepV s g (yO (qK s)) []
  | left {a b : Rn} {rest : List Rn} {r : Rw} (hp : s.ph = 2) (hr : s.runs = a :: b :: rest) (h1 : a[s.lp.toNat]? = some r) (h2 : ∀ q, b[s.rp.toNat]? = some q → leW r q) : StepV s g (pm s r) []
  | right {a b : Rn} {rest : List Rn} {r : Rw} (hp : s.ph = 2) (hr : s.runs = a :: b :: rest) (h1 : b[s.rp.toNat]? = some r) (h2 : ∀ q, a[s.lp.toNat]? = some q → ¬ leW q r) : StepV s g (sV s r) []
  | emit {a : Rn} {r : Rw} (hp : s.ph = 3) (hr : s.runs = [a]) (h1 : a[s.lp.toNat]? = some r) : StepV s g (vu s) [r]
end Go.Proofs.Ytojcojanokhnaaa.Ab
namespace Go.Proofs.Ytojcojanokhnaaa.Ab
open Go.RowKit
instance : DecidableEq Rw := fun x y => decidable_of_iff (rwD x y = true) mQ
structure MgI (a b : Rn) (i j : Nat) (out : List Rw) : Prop where
  ha : i ≤ a.length
  hb : j ≤ b.length
  o1 : out = mgV (a.take i) (b.take j)
  o2 : out = (mgV a b).take (i + j)
theorem MgI.len {a b : Rn} {i j : Nat} {out : List Rw} (h : MgI a b i j out) : out.length = i + j := by
  have h1 := h.ha
  have h2 := h.hb
  rw [h.o1, tZ, List.length_take, List.length_take]; omega
def eW (r : Rn) : Prop := r ≠ [] ∧ Srt r ∧ avR r = true
structure VBa (s : So) : Prop where
  input : avR s.input = true
  pos : ∃ p : Nat, s.pos = (p : Int) ∧ p ≤ s.input.length
  runs : ∀ r ∈ s.runs, eW r
  wr : 0 ≤ s.wr
  out : Srt s.out
  heap : ∀ x ∈ s.heap, bel x s.out = false
structure VRe (s : So) : Prop where
  ph : s.ph = 1
  lp : s.lp = 0
  rp : s.rp = 0
  dfr : s.dfr ≠ [] → s.out ≠ []
  mem : x3 s.heap + x3 s.dfr ≤ 60
  bag : (s.runs.flatten ++ s.out ++ s.heap ++ s.dfr).Perm (s.input.take s.pos.toNat)
structure VTe (s : So) : Prop where
  pos : s.pos = s.input.length
  heap : s.heap = []
  dfr : s.dfr = []
  bag : s.runs.flatten.Perm s.input
inductive VS (s : So) : Prop where
  | read (b : VBa s) (r : VRe s) : VS s
  | merge (b : VBa s) (t : VTe s) (ph : s.ph = 2) {x y : Rn} {rest : List Rn} {i j : Nat} (runs : s.runs = x :: y :: rest) (lp : s.lp = (i : Int)) (rp : s.rp = (j : Int)) (m : MgI x y i j s.out) : VS s
  | emit (b : VBa s) (t : VTe s) (ph : s.ph = 3) {x : Rn} {i : Nat} (runs : s.runs = [x]) (lp : s.lp = (i : Int)) (h : i < s.input.length) (rp : s.rp = 0) (out : s.out = []) : VS s
  | done (b : VBa s) (t : VTe s) (ph : s.ph = 4) (runs : s.runs.length ≤ 1) (lp : s.lp = s.input.length) (rp : s.rp = 0) (out : s.out = []) : VS s
theorem lE {s : So} : vy s = true ↔ VBa s := by
  simp only [vy, Bool.and_eq_true, wD, decide_eq_true_eq, vw, List.all_eq_true, avS, Bool.not_eq_true']
  constructor
  · rintro ⟨h1, h2, h3, h4, h5, h6⟩
    refine ⟨h1, ⟨s.pos.toNat, by omega, by omega⟩, fun r hr => ?_, h4, h5, h6⟩
    obtain ⟨a, b, c⟩ := h3 r hr
    refine ⟨?_, b, c⟩
    rintro rfl
    simp at a
  · rintro ⟨h1, ⟨p, h2, h2'⟩, h3, h4, h5, h6⟩
    refine ⟨h1, by omega, fun r hr => ?_, h4, h5, h6⟩
    obtain ⟨a, b, c⟩ := h3 r hr
    refine ⟨?_, b, c⟩
    simpa using a
theorem gA {xs ys : List Rw} : (xj xs ys = true) = (xs = ys) := propext vd
theorem sI {s : So} : vS s = true ↔ VS s := by
  unfold vS
  rw [Bool.and_eq_true, lE]
  constructor
  · rintro ⟨b, h⟩
    rcases Classical.em (s.ph = 1) with h1 | h1
    · rw [decide_eq_true h1, cond_true] at h
      simp only [sJ, Bool.and_eq_true, Bool.or_eq_true, decide_eq_true_eq, uQ, xJ, h1, decide_true, cond_true] at h
      obtain ⟨q1, q2, q3, q4, q5⟩ := h
      refine .read b ⟨h1, q1, q2, fun hd => ?_, q4, q5⟩
      rintro e
      rw [e] at q3
      rcases q3 with q3 | q3
      · simp at q3
      · exact hd (List.eq_nil_of_length_eq_zero q3)
    · rw [decide_eq_false h1, cond_false] at h
      simp only [vX, Bool.and_eq_true, decide_eq_true_eq, uQ] at h
      obtain ⟨⟨t1, t2, t3, t4⟩, h⟩ := h
      have t : VTe s := ⟨t1, List.eq_nil_of_length_eq_zero t2, List.eq_nil_of_length_eq_zero t3, t4⟩
      rcases Classical.em (s.ph = 2) with h2 | h2
      · rw [decide_eq_true h2, cond_true] at h
        unfold vO at h
        split at h
        · rename_i a b' rest hr
          simp only [Bool.and_eq_true, wD, gA] at h
          obtain ⟨q1, q2, q3, q4⟩ := h
          exact .merge b t h2 hr (i := s.lp.toNat) (j := s.rp.toNat) (by omega) (by omega) ⟨by omega, by omega, q3, q4⟩
        · cases h
      · rw [decide_eq_false h2, cond_false] at h
        rcases Classical.em (s.ph = 3) with h3 | h3
        · rw [decide_eq_true h3, cond_true] at h
          simp only [uV, Bool.and_eq_true, wD, decide_eq_true_eq] at h
          obtain ⟨q1, q2, q3, q4⟩ := h
          obtain ⟨x, hx⟩ := List.length_eq_one_iff.1 q1
          exact .emit b t h3 hx (i := s.lp.toNat) (by omega) (by omega) q3 (List.eq_nil_of_length_eq_zero q4)
        · rw [decide_eq_false h3, cond_false] at h
          rcases Classical.em (s.ph = 4) with h4 | h4
          · rw [decide_eq_true h4, cond_true] at h
            simp only [uW, Bool.and_eq_true, decide_eq_true_eq] at h
            obtain ⟨q1, q2, q3, q4⟩ := h
            exact .done b t h4 q1 q2 q3 (List.eq_nil_of_length_eq_zero q4)
          · rw [decide_eq_false h4, cond_false] at h
            cases h
  · intro h
    cases h with
    | read b r =>
      refine ⟨b, ?_⟩
      rw [decide_eq_true r.ph, cond_true]
      simp only [sJ, Bool.and_eq_true, Bool.or_eq_true, decide_eq_true_eq, uQ, xJ, r.ph, decide_true, cond_true]
      refine ⟨r.lp, r.rp, ?_, r.mem, r.bag⟩
      rcases Classical.em (s.dfr = []) with e | e
      · right; rw [e]; rfl
      · left; exact List.length_pos_iff.2 (r.dfr e)
    | merge b t ph runs lp rp m =>
      refine ⟨b, ?_⟩
      have ht : vX s = true := by simp only [vX, Bool.and_eq_true, decide_eq_true_eq, uQ]; exact ⟨t.pos, by rw [t.heap]; rfl, by rw [t.dfr]; rfl, t.bag⟩
      rw [decide_eq_false (by rw [ph]; decide), cond_false, ht, Bool.true_and, decide_eq_true ph, cond_true]
      have q1 := m.ha
      have q2 := m.hb
      simp only [vO, runs, Bool.and_eq_true, wD, gA, lp, rp, Int.toNat_natCast]
      exact ⟨by omega, by omega, m.o1, m.o2⟩
    | emit b t ph runs lp h rp out =>
      refine ⟨b, ?_⟩
      have ht : vX s = true := by simp only [vX, Bool.and_eq_true, decide_eq_true_eq, uQ]; exact ⟨t.pos, by rw [t.heap]; rfl, by rw [t.dfr]; rfl, t.bag⟩
      rw [decide_eq_false (by rw [ph]; decide), cond_false, ht, Bool.true_and, decide_eq_false (by rw [ph]; decide), cond_false, decide_eq_true ph, cond_true]
      simp only [uV, Bool.and_eq_true, wD, decide_eq_true_eq]
      exact ⟨by rw [runs]; rfl, by omega, rp, by rw [out]; rfl⟩
    | done b t ph runs lp rp out =>
      refine ⟨b, ?_⟩
      have ht : vX s = true := by simp only [vX, Bool.and_eq_true, decide_eq_true_eq, uQ]; exact ⟨t.pos, by rw [t.heap]; rfl, by rw [t.dfr]; rfl, t.bag⟩
      rw [decide_eq_false (by rw [ph]; decide), cond_false, ht, Bool.true_and, decide_eq_false (by rw [ph]; decide), cond_false, decide_eq_false (by rw [ph]; decide), cond_false, decide_eq_true ph, cond_true]
      simp only [uW, Bool.and_eq_true, decide_eq_true_eq]
      exact ⟨runs, lp, rp, by rw [out]; rfl⟩
end Go.Proofs.Ytojcojanokhnaaa.Ab
namespace Go.Proofs.Ytojcojanokhnaaa.Ab
open Go.RowKit
theorem fW {xs : List Rw} : avR xs = true ↔ (∀ x ∈ xs, vRw x = true) ∧ xs.length ≤ 24 := by
  simp only [avR, Bool.and_eq_true, List.all_eq_true, decide_eq_true_eq]
  constructor
  · rintro ⟨a, b⟩; exact ⟨a, by omega⟩
  · rintro ⟨a, b⟩; exact ⟨a, by omega⟩
def tP (s : So) (g : Int) : Prop := ∀ r, s.input[s.pos.toNat]? = some r → g < xJ s + xB r
theorem gt {s : So} {g : Int} (hv : VS s) (hd : s.ph ≠ 4) : ∃ x r, StepV s g x r := by
  cases hv with
  | read b q =>
    rcases Classical.em (∃ r, s.input[s.pos.toNat]? = some r ∧ xJ s + xB r ≤ g) with ⟨r, h1, h2⟩ | hn
    · exact ⟨_, _, .put q.ph h1 h2⟩
    · have hf : tP s g := fun r hr => Classical.byContradiction fun h => hn ⟨r, hr, by omega⟩
      rcases Nat.eq_zero_or_pos s.heap.length with h0 | h0
      · rcases Nat.eq_zero_or_pos s.dfr.length with d0 | d0
        · exact ⟨_, _, .close q.ph hf (List.eq_nil_of_length_eq_zero h0) (List.eq_nil_of_length_eq_zero d0)⟩
        · exact ⟨_, _, .swap q.ph hf (List.eq_nil_of_length_eq_zero h0) d0⟩
      · obtain ⟨k, y, h1, h2, _⟩ := fE h0
        exact ⟨_, _, .pop q.ph hf h0 h1 h2⟩
  | @merge b t ph x y rest i j runs lp rp m =>
    have e1 : s.lp.toNat = i := by omega
    have e2 : s.rp.toNat = j := by omega
    rcases Classical.em (i = x.length) with h1 | h1
    · rcases Classical.em (j = y.length) with h2 | h2
      · exact ⟨_, _, .merged ph runs (by omega) (by omega)⟩
      · have := m.hb
        obtain ⟨r, hr⟩ : ∃ z, y[j]? = some z := ⟨_, List.getElem?_eq_getElem (by omega)⟩
        refine ⟨_, _, .right (r := r) ph runs (by rw [e2]; exact hr) (fun q hq => ?_)⟩
        rw [e1, h1, List.getElem?_eq_none (Nat.le_refl _)] at hq
        cases hq
    · have := m.ha
      obtain ⟨r, hr⟩ : ∃ z, x[i]? = some z := ⟨_, List.getElem?_eq_getElem (by omega)⟩
      rcases Classical.em (∀ q, y[j]? = some q → leW r q) with hq | hq
      · exact ⟨_, _, .left (r := r) ph runs (by rw [e1]; exact hr) (by rw [e2]; exact hq)⟩
      · obtain ⟨q, hq⟩ := Classical.not_forall.1 hq
        have h3 : y[j]? = some q := Classical.byContradiction fun h => hq fun h' => absurd h' h
        have h4 : ¬ leW r q := fun h => hq fun _ => h
        refine ⟨_, _, .right (r := q) ph runs (by rw [e2]; exact h3) (fun q' hq' => ?_)⟩
        rw [e1, hr] at hq'
        cases hq'
        exact h4
  | @emit b t ph x i runs lp h rp out =>
    have hb := t.bag.length_eq
    rw [runs] at hb
    simp at hb
    obtain ⟨r, hr⟩ : ∃ z, x[i]? = some z := ⟨_, List.getElem?_eq_getElem (by omega)⟩
    exact ⟨_, _, .emit ph runs (by rw [lp]; exact hr)⟩
  | done b t ph => exact absurd ph hd
theorem pe {s : So} (q : s.ph = 1) : xJ s = x3 s.heap + x3 s.dfr := by simp [xJ, q]
end Go.Proofs.Ytojcojanokhnaaa.Ab
namespace Go.Proofs.Ytojcojanokhnaaa.Ab
open Go.RowKit
theorem lV (rs : List Rn) (k : Nat) (p : Int) : 0 ≤ rcV rs k p ∧ rcV rs k p ≤ 4 := by
  unfold rcV
  cases decide (p < 0) with
  | true => simp
  | false =>
    rw [cond_false]
    cases (rs.getD k [])[p.toNat]? with
    | none => simp [x3]
    | some x => have := qu x; simp only [Option.toList_some, x3]; omega
theorem et {s : So} (h : s.ph ≠ 1) : 0 ≤ xJ s ∧ xJ s ≤ 8 := by
  unfold xJ
  rw [decide_eq_false h, cond_false]
  have h0 := lV s.runs 0 s.lp
  have h1 := lV s.runs 1 s.rp
  cases decide (s.ph = 2) with
  | true =>
    rw [cond_true]
    cases (decide (s.lp < 0) || decide (s.rp < 0)) with
    | true => simp
    | false => simp only [cond_false]; omega
  | false =>
    rw [cond_false]
    cases decide (s.ph = 3) with
    | true => simp only [cond_true]; omega
    | false => simp
theorem eu (s : So) : 0 ≤ xJ s := by
  rcases Classical.em (s.ph = 1) with h | h
  · rw [pe h]; have := uX s.heap; have := uX s.dfr; omega
  · exact (et h).1
theorem kI {s x : So} {g : Int} {r : List Rw} (h : StepV s g x r) : r.length ≤ 1 := by
  cases h <;> simp
def remV (s : So) : Int := cond (decide (s.ph = 3) || decide (s.ph = 4)) (s.input.length - s.lp) s.input.length
inductive Fits (g : Int) : So → Nat → So → Prop where
  | stop {s : So} (h : xJ s ≤ g) : Fits g s 0 s
  | step {s x y : So} {r : List Rw} {n : Nat} (h : g < xJ s) (st : StepV s g x r) (f : Fits g x n y) : Fits g s (n + 1) y
def bufN (s : So) : Nat := s.heap.length + s.dfr.length + cond (decide (s.dfr.length = 0)) 0 1
end Go.Proofs.Ytojcojanokhnaaa.Ab
namespace Go.Proofs.Ytojcojanokhnaaa.Ab
open Go.RowKit
theorem kZ {rs : List Rn} {k : Nat} {p : Int} (h : p < 0) : rcV rs k p = 0 := by unfold rcV; rw [decide_eq_true h, cond_true]
theorem el {rs : List Rn} {k : Nat} {p : Int} (h : rs.length ≤ k) : rcV rs k p = 0 := by
  unfold rcV
  rw [List.getD_eq_getElem?_getD, List.getElem?_eq_none h]
  cases decide (p < 0) <;> rfl
theorem eo {rs : List Rn} {k p : Nat} {z : Rn} (hz : rs[k]? = some z) (h : z.length ≤ p) : rcV rs k p = 0 := by
  unfold rcV
  rw [List.getD_eq_getElem?_getD, hz, Option.getD_some, Int.toNat_natCast, List.getElem?_eq_none h]
  cases decide ((p : Int) < 0) <;> rfl
theorem rc_at {rs : List Rn} {k p : Nat} {z : Rn} {x : Rw} (hz : rs[k]? = some z) (hx : z[p]? = some x) : rcV rs k p = xB x := by
  unfold rcV
  rw [List.getD_eq_getElem?_getD, hz, Option.getD_some, Int.toNat_natCast, hx, decide_eq_false (by omega), cond_false]
  show xB x + 0 = xB x
  omega
theorem qM (s : So) (k : Nat) (p : Int) (hok : v5 s.runs) (hk : k ≤ 1) : zx Go.Proofs.Try.prog 89 [.agg (soE s), I k, I p] [] (I (rcV s.runs k p)) [] false := by
  have hl := hok.1
  rcases Nat.lt_or_ge k s.runs.length with h1 | h1
  · obtain ⟨z, hz⟩ : ∃ z, s.runs[k]? = some z := ⟨_, List.getElem?_eq_getElem h1⟩
    have zl := hok.at hz
    rcases Int.lt_or_le p 0 with h2 | h2
    · have e := kZ (rs := s.runs) (k := k) h2
      refine zu [6] Go.Proofs.Try.func89 rfl rfl ?_
      simp only [Go.Proofs.Try.ntmps89, List.length_cons, List.length_nil, Nat.reduceAdd, Nat.reduceSub, List.replicate_succ, List.replicate_zero, List.cons_append, List.nil_append]
      repeat' first | refine zL ?_ | refine zA ?_ | refine zQ [] ?_ | (refine isA ?_; refine zg rfl ?_) | (refine isL ?_; refine zW rfl (by kernel_rfl) rfl rfl ?_) | (refine zd rfl ?_; refine zV rfl (by kernel_rfl) rfl rfl ?_) | refine zD ?_ | refine zB _ rfl (by kernel_rfl) ?_ | refine zX rfl ?_ | refine zY rfl ?_ | refine zC ?_ | with_reducible refine zO ?_ | refine zI ?_ | refine zJ ?_ | (with_reducible first | refine zM ?_ | refine zN ?_ | refine zF ?_ | refine zH ?_ | refine zG ?_) | refine zP ?_
      refine yW rfl rfl (fun h => absurd (of_decide_eq_true h) (by omega)) (fun h => ?_)
      repeat' first | refine zL ?_ | refine zA ?_ | refine zQ [] ?_ | (refine isA ?_; refine zg rfl ?_) | (refine isL ?_; refine zW rfl (by kernel_rfl) rfl rfl ?_) | (refine zd rfl ?_; refine zV rfl (by kernel_rfl) rfl rfl ?_) | refine zD ?_ | refine zB _ rfl (by kernel_rfl) ?_ | refine zX rfl ?_ | refine zY rfl ?_ | refine zC ?_ | with_reducible refine zO ?_ | refine zI ?_ | refine zJ ?_ | (with_reducible first | refine zM ?_ | refine zN ?_ | refine zF ?_ | refine zH ?_ | refine zG ?_) | refine zP ?_
      refine yW rfl rfl (fun h => ?_) (fun h => absurd h2 (of_decide_eq_false h))
      repeat' first | refine zL ?_ | refine zA ?_ | refine zQ [] ?_ | (refine isA ?_; refine zg rfl ?_) | (refine isL ?_; refine zW rfl (by kernel_rfl) rfl rfl ?_) | (refine zd rfl ?_; refine zV rfl (by kernel_rfl) rfl rfl ?_) | exact yD rfl rfl (by rw [e]) | refine zD ?_ | refine zB _ rfl (by kernel_rfl) ?_ | refine zX rfl ?_ | refine zY rfl ?_ | refine zC ?_ | with_reducible refine zO ?_ | refine zI ?_ | refine zJ ?_ | (with_reducible first | refine zM ?_ | refine zN ?_ | refine zF ?_ | refine zH ?_ | refine zG ?_) | refine zP ?_
    · obtain ⟨q, rfl⟩ := Int.eq_ofNat_of_zero_le h2
      rcases Nat.lt_or_ge q z.length with h3 | h3
      · obtain ⟨x, hx⟩ : ∃ y, z[q]? = some y := ⟨_, List.getElem?_eq_getElem h3⟩
        have e := rc_at hz hx
        refine zu [6] Go.Proofs.Try.func89 rfl rfl ?_
        simp only [Go.Proofs.Try.ntmps89, List.length_cons, List.length_nil, Nat.reduceAdd, Nat.reduceSub, List.replicate_succ, List.replicate_zero, List.cons_append, List.nil_append]
        repeat' first | refine zL ?_ | refine zA ?_ | refine zQ [] ?_ | (refine isA ?_; refine zg rfl ?_) | (refine isL ?_; refine zW rfl (by kernel_rfl) rfl rfl ?_) | (refine zd rfl ?_; refine zV rfl (by kernel_rfl) rfl rfl ?_) | refine zD ?_ | refine zB _ rfl (by kernel_rfl) ?_ | refine zX rfl ?_ | refine zY rfl ?_ | refine zC ?_ | with_reducible refine zO ?_ | refine zI ?_ | refine zJ ?_ | (with_reducible first | refine zM ?_ | refine zN ?_ | refine zF ?_ | refine zH ?_ | refine zG ?_) | refine zP ?_
        refine yW rfl rfl (fun h => absurd (of_decide_eq_true h) (by omega)) (fun h => ?_)
        repeat' first | refine zL ?_ | refine zA ?_ | refine zQ [] ?_ | (refine isA ?_; refine zg rfl ?_) | (refine isL ?_; refine zW rfl (by kernel_rfl) rfl rfl ?_) | (refine zd rfl ?_; refine zV rfl (by kernel_rfl) rfl rfl ?_) | refine zD ?_ | refine zB _ rfl (by kernel_rfl) ?_ | refine zX rfl ?_ | refine zY rfl ?_ | refine zC ?_ | with_reducible refine zO ?_ | refine zI ?_ | refine zJ ?_ | (with_reducible first | refine zM ?_ | refine zN ?_ | refine zF ?_ | refine zH ?_ | refine zG ?_) | refine zP ?_
        refine yW rfl rfl (fun h => absurd (of_decide_eq_true h) (by omega)) (fun h => ?_)
        repeat' first | refine zL ?_ | refine zA ?_ | refine zQ [] ?_ | (refine isA ?_; refine zg rfl ?_) | (refine isL ?_; refine zW rfl (by kernel_rfl) rfl rfl ?_) | (refine zd rfl ?_; refine zV rfl (by kernel_rfl) rfl rfl ?_) | (refine z7 (x := .tmp 19) ?_; refine za rfl (zz (t := rnT) (z := z) rfl rfl rfl rfl (Int.natCast_nonneg k) hz) rfl ?_) | (refine z6 (x := .tmp 19) rfl ?_; refine zT rfl (by kernel_rfl) rfl (zz (t := rnT) (z := z) rfl rfl rfl rfl (Int.natCast_nonneg k) hz) rfl ?_) | (refine z7 (x := .tmp 28) ?_; refine za rfl (zz (t := rnT) (z := z) rfl rfl rfl rfl (Int.natCast_nonneg k) hz) rfl ?_) | (refine z6 (x := .tmp 28) rfl ?_; refine zT rfl (by kernel_rfl) rfl (zz (t := rnT) (z := z) rfl rfl rfl rfl (Int.natCast_nonneg k) hz) rfl ?_) | (refine z7 (x := .tmp 32) ?_; refine za rfl (zz (t := rwT) (z := x) rfl rfl rfl rfl (Int.natCast_nonneg q) hx) rfl ?_) | (refine z6 (x := .tmp 32) rfl ?_; refine zT rfl (by kernel_rfl) rfl (zz (t := rwT) (z := x) rfl rfl rfl rfl (Int.natCast_nonneg q) hx) rfl ?_) | (refine zp 58 ?_; refine za rfl (zK rfl (w4 x) (.cons (.same rfl) .nil) rfl) rfl ?_) | (refine zq 58 rfl ?_; refine zT rfl (by kernel_rfl) rfl (zK rfl (w4 x) (.cons (.same rfl) .nil) rfl) rfl ?_) | refine zD ?_ | refine zB _ rfl (by kernel_rfl) ?_ | refine zX rfl ?_ | refine zY rfl ?_ | refine zC ?_ | with_reducible refine zO ?_ | refine zI ?_ | refine zJ ?_ | (with_reducible first | refine zM ?_ | refine zN ?_ | refine zF ?_ | refine zH ?_ | refine zG ?_) | refine zP ?_
        refine zj rfl (fun h => absurd (of_decide_eq_true h) (by omega)) (fun h => ?_)
        repeat' first | refine zL ?_ | refine zA ?_ | refine zQ [] ?_ | (refine isA ?_; refine zg rfl ?_) | (refine isL ?_; refine zW rfl (by kernel_rfl) rfl rfl ?_) | (refine zd rfl ?_; refine zV rfl (by kernel_rfl) rfl rfl ?_) | (refine z7 (x := .tmp 19) ?_; refine za rfl (zz (t := rnT) (z := z) rfl rfl rfl rfl (Int.natCast_nonneg k) hz) rfl ?_) | (refine z6 (x := .tmp 19) rfl ?_; refine zT rfl (by kernel_rfl) rfl (zz (t := rnT) (z := z) rfl rfl rfl rfl (Int.natCast_nonneg k) hz) rfl ?_) | (refine z7 (x := .tmp 28) ?_; refine za rfl (zz (t := rnT) (z := z) rfl rfl rfl rfl (Int.natCast_nonneg k) hz) rfl ?_) | (refine z6 (x := .tmp 28) rfl ?_; refine zT rfl (by kernel_rfl) rfl (zz (t := rnT) (z := z) rfl rfl rfl rfl (Int.natCast_nonneg k) hz) rfl ?_) | (refine z7 (x := .tmp 32) ?_; refine za rfl (zz (t := rwT) (z := x) rfl rfl rfl rfl (Int.natCast_nonneg q) hx) rfl ?_) | (refine z6 (x := .tmp 32) rfl ?_; refine zT rfl (by kernel_rfl) rfl (zz (t := rwT) (z := x) rfl rfl rfl rfl (Int.natCast_nonneg q) hx) rfl ?_) | (refine zp 58 ?_; refine za rfl (zK rfl (w4 x) (.cons (.same rfl) .nil) rfl) rfl ?_) | (refine zq 58 rfl ?_; refine zT rfl (by kernel_rfl) rfl (zK rfl (w4 x) (.cons (.same rfl) .nil) rfl) rfl ?_) | exact yD rfl rfl (by rw [e]) | refine zD ?_ | refine zB _ rfl (by kernel_rfl) ?_ | refine zX rfl ?_ | refine zY rfl ?_ | refine zC ?_ | with_reducible refine zO ?_ | refine zI ?_ | refine zJ ?_ | (with_reducible first | refine zM ?_ | refine zN ?_ | refine zF ?_ | refine zH ?_ | refine zG ?_) | refine zP ?_
      · have e := eo hz h3
        refine zu [6] Go.Proofs.Try.func89 rfl rfl ?_
        simp only [Go.Proofs.Try.ntmps89, List.length_cons, List.length_nil, Nat.reduceAdd, Nat.reduceSub, List.replicate_succ, List.replicate_zero, List.cons_append, List.nil_append]
        repeat' first | refine zL ?_ | refine zA ?_ | refine zQ [] ?_ | (refine isA ?_; refine zg rfl ?_) | (refine isL ?_; refine zW rfl (by kernel_rfl) rfl rfl ?_) | (refine zd rfl ?_; refine zV rfl (by kernel_rfl) rfl rfl ?_) | refine zD ?_ | refine zB _ rfl (by kernel_rfl) ?_ | refine zX rfl ?_ | refine zY rfl ?_ | refine zC ?_ | with_reducible refine zO ?_ | refine zI ?_ | refine zJ ?_ | (with_reducible first | refine zM ?_ | refine zN ?_ | refine zF ?_ | refine zH ?_ | refine zG ?_) | refine zP ?_
        refine yW rfl rfl (fun h => absurd (of_decide_eq_true h) (by omega)) (fun h => ?_)
        repeat' first | refine zL ?_ | refine zA ?_ | refine zQ [] ?_ | (refine isA ?_; refine zg rfl ?_) | (refine isL ?_; refine zW rfl (by kernel_rfl) rfl rfl ?_) | (refine zd rfl ?_; refine zV rfl (by kernel_rfl) rfl rfl ?_) | refine zD ?_ | refine zB _ rfl (by kernel_rfl) ?_ | refine zX rfl ?_ | refine zY rfl ?_ | refine zC ?_ | with_reducible refine zO ?_ | refine zI ?_ | refine zJ ?_ | (with_reducible first | refine zM ?_ | refine zN ?_ | refine zF ?_ | refine zH ?_ | refine zG ?_) | refine zP ?_
        refine yW rfl rfl (fun h => absurd (of_decide_eq_true h) (by omega)) (fun h => ?_)
        repeat' first | refine zL ?_ | refine zA ?_ | refine zQ [] ?_ | (refine isA ?_; refine zg rfl ?_) | (refine isL ?_; refine zW rfl (by kernel_rfl) rfl rfl ?_) | (refine zd rfl ?_; refine zV rfl (by kernel_rfl) rfl rfl ?_) | (refine z7 (x := .tmp 19) ?_; refine za rfl (zz (t := rnT) (z := z) rfl rfl rfl rfl (Int.natCast_nonneg k) hz) rfl ?_) | (refine z6 (x := .tmp 19) rfl ?_; refine zT rfl (by kernel_rfl) rfl (zz (t := rnT) (z := z) rfl rfl rfl rfl (Int.natCast_nonneg k) hz) rfl ?_) | refine zD ?_ | refine zB _ rfl (by kernel_rfl) ?_ | refine zX rfl ?_ | refine zY rfl ?_ | refine zC ?_ | with_reducible refine zO ?_ | refine zI ?_ | refine zJ ?_ | (with_reducible first | refine zM ?_ | refine zN ?_ | refine zF ?_ | refine zH ?_ | refine zG ?_) | refine zP ?_
        refine zj rfl (fun h => ?_) (fun h => absurd (of_decide_eq_false h) (by omega))
        repeat' first | refine zL ?_ | refine zA ?_ | refine zQ [] ?_ | (refine isA ?_; refine zg rfl ?_) | (refine isL ?_; refine zW rfl (by kernel_rfl) rfl rfl ?_) | (refine zd rfl ?_; refine zV rfl (by kernel_rfl) rfl rfl ?_) | exact yD rfl rfl (by rw [e]) | refine zD ?_ | refine zB _ rfl (by kernel_rfl) ?_ | refine zX rfl ?_ | refine zY rfl ?_ | refine zC ?_ | with_reducible refine zO ?_ | refine zI ?_ | refine zJ ?_ | (with_reducible first | refine zM ?_ | refine zN ?_ | refine zF ?_ | refine zH ?_ | refine zG ?_) | refine zP ?_
  · have e := el (p := p) h1
    refine zu [6] Go.Proofs.Try.func89 rfl rfl ?_
    simp only [Go.Proofs.Try.ntmps89, List.length_cons, List.length_nil, Nat.reduceAdd, Nat.reduceSub, List.replicate_succ, List.replicate_zero, List.cons_append, List.nil_append]
    repeat' first | refine zL ?_ | refine zA ?_ | refine zQ [] ?_ | (refine isA ?_; refine zg rfl ?_) | (refine isL ?_; refine zW rfl (by kernel_rfl) rfl rfl ?_) | (refine zd rfl ?_; refine zV rfl (by kernel_rfl) rfl rfl ?_) | refine zD ?_ | refine zB _ rfl (by kernel_rfl) ?_ | refine zX rfl ?_ | refine zY rfl ?_ | refine zC ?_ | with_reducible refine zO ?_ | refine zI ?_ | refine zJ ?_ | (with_reducible first | refine zM ?_ | refine zN ?_ | refine zF ?_ | refine zH ?_ | refine zG ?_) | refine zP ?_
    refine yW rfl rfl (fun h => ?_) (fun h => absurd (of_decide_eq_false h) (by omega))
    repeat' first | refine zL ?_ | refine zA ?_ | refine zQ [] ?_ | (refine isA ?_; refine zg rfl ?_) | (refine isL ?_; refine zW rfl (by kernel_rfl) rfl rfl ?_) | (refine zd rfl ?_; refine zV rfl (by kernel_rfl) rfl rfl ?_) | exact yD rfl rfl (by rw [e]) | refine zD ?_ | refine zB _ rfl (by kernel_rfl) ?_ | refine zX rfl ?_ | refine zY rfl ?_ | refine zC ?_ | with_reducible refine zO ?_ | refine zI ?_ | refine zJ ?_ | (with_reducible first | refine zM ?_ | refine zN ?_ | refine zF ?_ | refine zH ?_ | refine zG ?_) | refine zP ?_
def wX (rs : List Rn) (k p : Nat) : List Rw := ((rs.getD k [])[p]?).toList
theorem qe (rs : List Rn) (k p : Nat) : (wX rs k p).length ≤ 1 := by
  unfold wX; cases (rs.getD k [])[p]? <;> simp
theorem nh (rs : List Rn) (k p : Nat) : rcV rs k p = x3 (wX rs k p) := by
  unfold rcV wX
  rw [decide_eq_false (by omega), cond_false, Int.toNat_natCast]
theorem wT (rs : List Rn) (k p : Nat) (hok : v5 rs) (hk : k ≤ 1) : zx Go.Proofs.Try.prog 71 [rnL rs, I k, I p] [] (rwL (wX rs k p)) [] true := by
  have hl := hok.1
  rcases Nat.lt_or_ge k rs.length with h1 | h1
  · obtain ⟨z, hz⟩ : ∃ z, rs[k]? = some z := ⟨_, List.getElem?_eq_getElem h1⟩
    have zl := hok.at hz
    rcases Nat.lt_or_ge p z.length with h3 | h3
    · obtain ⟨x, hx⟩ : ∃ y, z[p]? = some y := ⟨_, List.getElem?_eq_getElem h3⟩
      have e : wX rs k p = [x] := by unfold wX; rw [List.getD_eq_getElem?_getD, hz, Option.getD_some, hx]; rfl
      rw [e]
      refine zu [6] Go.Proofs.Try.func71 rfl rfl ?_
      simp only [Go.Proofs.Try.ntmps71, List.length_cons, List.length_nil, Nat.reduceAdd, Nat.reduceSub, List.replicate_succ, List.replicate_zero, List.cons_append, List.nil_append]
      repeat' first | refine zL ?_ | refine zA ?_ | refine zQ [] ?_ | (refine isA ?_; refine zg rfl ?_) | (refine isL ?_; refine zW rfl (by kernel_rfl) rfl rfl ?_) | (refine zd rfl ?_; refine zV rfl (by kernel_rfl) rfl rfl ?_) | refine zD ?_ | refine zB _ rfl (by kernel_rfl) ?_ | refine zX rfl ?_ | refine zY rfl ?_ | refine zC ?_ | with_reducible refine zO ?_ | refine zI ?_ | refine zJ ?_ | (with_reducible first | refine zM ?_ | refine zN ?_ | refine zF ?_ | refine zH ?_ | refine zG ?_) | refine zP ?_
      refine yW rfl rfl (fun h => ?_) (fun h => absurd (of_decide_eq_false h) (by omega))
      repeat' first | refine zL ?_ | refine zA ?_ | refine zQ [] ?_ | (refine isA ?_; refine zg rfl ?_) | (refine isL ?_; refine zW rfl (by kernel_rfl) rfl rfl ?_) | (refine zd rfl ?_; refine zV rfl (by kernel_rfl) rfl rfl ?_) | (refine z7 (x := .tmp 13) ?_; refine za rfl (zz (t := rnT) (z := z) rfl rfl rfl rfl (Int.natCast_nonneg k) hz) rfl ?_) | (refine z6 (x := .tmp 13) rfl ?_; refine zT rfl (by kernel_rfl) rfl (zz (t := rnT) (z := z) rfl rfl rfl rfl (Int.natCast_nonneg k) hz) rfl ?_) | refine zD ?_ | refine zB _ rfl (by kernel_rfl) ?_ | refine zX rfl ?_ | refine zY rfl ?_ | refine zC ?_ | with_reducible refine zO ?_ | refine zI ?_ | refine zJ ?_ | (with_reducible first | refine zM ?_ | refine zN ?_ | refine zF ?_ | refine zH ?_ | refine zG ?_) | refine zP ?_
      refine zj rfl (fun h => ?_) (fun h => absurd (of_decide_eq_false h) (by omega))
      repeat' first | (refine isA ?_; refine za rfl (yR rfl rfl rfl rfl rfl) rfl ?_) | refine zL ?_ | refine zA ?_ | refine zQ [] ?_ | (refine isA ?_; refine zg rfl ?_) | (refine isL ?_; refine zW rfl (by kernel_rfl) rfl rfl ?_) | (refine zd rfl ?_; refine zV rfl (by kernel_rfl) rfl rfl ?_) | (refine z7 (x := .tmp 21) ?_; refine za rfl (zz (t := rnT) (z := z) rfl rfl rfl rfl (Int.natCast_nonneg k) hz) rfl ?_) | (refine z6 (x := .tmp 21) rfl ?_; refine zT rfl (by kernel_rfl) rfl (zz (t := rnT) (z := z) rfl rfl rfl rfl (Int.natCast_nonneg k) hz) rfl ?_) | (refine z7 (x := .tmp 25) ?_; refine za rfl (zz (t := rwT) (z := x) rfl rfl rfl rfl (Int.natCast_nonneg p) hx) rfl ?_) | (refine z6 (x := .tmp 25) rfl ?_; refine zT rfl (by kernel_rfl) rfl (zz (t := rwT) (z := x) rfl rfl rfl rfl (Int.natCast_nonneg p) hx) rfl ?_) | exact kx rfl (.same rfl) | refine zD ?_ | refine zB _ rfl (by kernel_rfl) ?_ | refine zX rfl ?_ | refine zY rfl ?_ | refine zC ?_ | with_reducible refine zO ?_ | refine zI ?_ | refine zJ ?_ | (with_reducible first | refine zM ?_ | refine zN ?_ | refine zF ?_ | refine zH ?_ | refine zG ?_) | refine zP ?_
    · have e : wX rs k p = [] := by unfold wX; rw [List.getD_eq_getElem?_getD, hz, Option.getD_some, List.getElem?_eq_none h3]; rfl
      rw [e]
      refine zu [6] Go.Proofs.Try.func71 rfl rfl ?_
      simp only [Go.Proofs.Try.ntmps71, List.length_cons, List.length_nil, Nat.reduceAdd, Nat.reduceSub, List.replicate_succ, List.replicate_zero, List.cons_append, List.nil_append]
      repeat' first | refine zL ?_ | refine zA ?_ | refine zQ [] ?_ | (refine isA ?_; refine zg rfl ?_) | (refine isL ?_; refine zW rfl (by kernel_rfl) rfl rfl ?_) | (refine zd rfl ?_; refine zV rfl (by kernel_rfl) rfl rfl ?_) | refine zD ?_ | refine zB _ rfl (by kernel_rfl) ?_ | refine zX rfl ?_ | refine zY rfl ?_ | refine zC ?_ | with_reducible refine zO ?_ | refine zI ?_ | refine zJ ?_ | (with_reducible first | refine zM ?_ | refine zN ?_ | refine zF ?_ | refine zH ?_ | refine zG ?_) | refine zP ?_
      refine yW rfl rfl (fun h => ?_) (fun h => absurd (of_decide_eq_false h) (by omega))
      repeat' first | refine zL ?_ | refine zA ?_ | refine zQ [] ?_ | (refine isA ?_; refine zg rfl ?_) | (refine isL ?_; refine zW rfl (by kernel_rfl) rfl rfl ?_) | (refine zd rfl ?_; refine zV rfl (by kernel_rfl) rfl rfl ?_) | (refine z7 (x := .tmp 13) ?_; refine za rfl (zz (t := rnT) (z := z) rfl rfl rfl rfl (Int.natCast_nonneg k) hz) rfl ?_) | (refine z6 (x := .tmp 13) rfl ?_; refine zT rfl (by kernel_rfl) rfl (zz (t := rnT) (z := z) rfl rfl rfl rfl (Int.natCast_nonneg k) hz) rfl ?_) | refine zD ?_ | refine zB _ rfl (by kernel_rfl) ?_ | refine zX rfl ?_ | refine zY rfl ?_ | refine zC ?_ | with_reducible refine zO ?_ | refine zI ?_ | refine zJ ?_ | (with_reducible first | refine zM ?_ | refine zN ?_ | refine zF ?_ | refine zH ?_ | refine zG ?_) | refine zP ?_
      refine zj rfl (fun h => absurd (of_decide_eq_true h) (by omega)) (fun h => ?_)
      repeat' first | (refine isA ?_; refine za rfl (yR rfl rfl rfl rfl rfl) rfl ?_) | refine zL ?_ | refine zA ?_ | refine zQ [] ?_ | (refine isA ?_; refine zg rfl ?_) | (refine isL ?_; refine zW rfl (by kernel_rfl) rfl rfl ?_) | (refine zd rfl ?_; refine zV rfl (by kernel_rfl) rfl rfl ?_) | exact kx rfl (.same rfl) | refine zD ?_ | refine zB _ rfl (by kernel_rfl) ?_ | refine zX rfl ?_ | refine zY rfl ?_ | refine zC ?_ | with_reducible refine zO ?_ | refine zI ?_ | refine zJ ?_ | (with_reducible first | refine zM ?_ | refine zN ?_ | refine zF ?_ | refine zH ?_ | refine zG ?_) | refine zP ?_
  · have e : wX rs k p = [] := by unfold wX; rw [List.getD_eq_getElem?_getD, List.getElem?_eq_none h1]; rfl
    rw [e]
    refine zu [6] Go.Proofs.Try.func71 rfl rfl ?_
    simp only [Go.Proofs.Try.ntmps71, List.length_cons, List.length_nil, Nat.reduceAdd, Nat.reduceSub, List.replicate_succ, List.replicate_zero, List.cons_append, List.nil_append]
    repeat' first | refine zL ?_ | refine zA ?_ | refine zQ [] ?_ | (refine isA ?_; refine zg rfl ?_) | (refine isL ?_; refine zW rfl (by kernel_rfl) rfl rfl ?_) | (refine zd rfl ?_; refine zV rfl (by kernel_rfl) rfl rfl ?_) | refine zD ?_ | refine zB _ rfl (by kernel_rfl) ?_ | refine zX rfl ?_ | refine zY rfl ?_ | refine zC ?_ | with_reducible refine zO ?_ | refine zI ?_ | refine zJ ?_ | (with_reducible first | refine zM ?_ | refine zN ?_ | refine zF ?_ | refine zH ?_ | refine zG ?_) | refine zP ?_
    refine yW rfl rfl (fun h => absurd (of_decide_eq_true h) (by omega)) (fun h => ?_)
    repeat' first | (refine isA ?_; refine za rfl (yR rfl rfl rfl rfl rfl) rfl ?_) | refine zL ?_ | refine zA ?_ | refine zQ [] ?_ | (refine isA ?_; refine zg rfl ?_) | (refine isL ?_; refine zW rfl (by kernel_rfl) rfl rfl ?_) | (refine zd rfl ?_; refine zV rfl (by kernel_rfl) rfl rfl ?_) | exact kx rfl (.same rfl) | refine zD ?_ | refine zB _ rfl (by kernel_rfl) ?_ | refine zX rfl ?_ | refine zY rfl ?_ | refine zC ?_ | with_reducible refine zO ?_ | refine zI ?_ | refine zJ ?_ | (with_reducible first | refine zM ?_ | refine zN ?_ | refine zF ?_ | refine zH ?_ | refine zG ?_) | refine zP ?_
theorem f9 {s : So} (h : s.ph = 2) : xJ s = cond (decide (s.lp < 0) || decide (s.rp < 0)) 0 (rcV s.runs 0 s.lp + rcV s.runs 1 s.rp) := by
  unfold xJ; rw [decide_eq_false (by rw [h]; decide), cond_false, decide_eq_true h, cond_true]
theorem f8 {s : So} (h : s.ph = 3) : xJ s = rcV s.runs 0 s.lp := by
  unfold xJ; rw [decide_eq_false (by rw [h]; decide), cond_false, decide_eq_false (by rw [h]; decide), cond_false, decide_eq_true h, cond_true]
theorem eA {s : So} (h1 : s.ph ≠ 1) (h2 : s.ph ≠ 2) (h3 : s.ph ≠ 3) : xJ s = 0 := by
  unfold xJ; rw [decide_eq_false h1, cond_false, decide_eq_false h2, cond_false, decide_eq_false h3, cond_false]
theorem ur {a b : Int} (h : 0 ≤ a ∧ a ≤ 4000000000) (k : 0 ≤ b ∧ b ≤ 4000000000) : IntKind.i64.wrap (a + b) = a + b := by rw [IntKind.wrap_i64]; omega
theorem qx (s : So) (hok : okSo s) : zx Go.Proofs.Try.prog 19 [.agg (soE s)] [] (I (xJ s)) [] false := by
  have g2 := hok.heap
  have g3 := hok.dfr
  have t2 := uX s.heap
  have t3 := uX s.dfr
  have r0 := lV s.runs 0 s.lp
  have r1 := lV s.runs 1 s.rp
  have c0 := qM s 0 s.lp hok.rn (by omega)
  have c1 := qM s 1 s.rp hok.rn (by omega)
  refine zu [2] Go.Proofs.Try.func19 rfl rfl ?_
  simp only [Go.Proofs.Try.ntmps19, List.length_cons, List.length_nil, Nat.reduceAdd, Nat.reduceSub, List.replicate_succ, List.replicate_zero, List.cons_append, List.nil_append]
  repeat' first | refine zL ?_ | refine zA ?_ | refine zQ [] ?_ | (refine isA ?_; refine zg rfl ?_) | (refine isL ?_; refine zW rfl (by kernel_rfl) rfl rfl ?_) | (refine zd rfl ?_; refine zV rfl (by kernel_rfl) rfl rfl ?_) | refine zD ?_ | refine zB _ rfl (by kernel_rfl) ?_ | refine zX rfl ?_ | refine zY rfl ?_ | refine zC ?_ | with_reducible refine zO ?_ | refine zI ?_ | refine zJ ?_ | (with_reducible first | refine zM ?_ | refine zN ?_ | refine zF ?_ | refine zH ?_ | refine zG ?_) | refine zP ?_
  refine zj rfl (fun h => ?_) (fun h => ?_)
  · have e := pe (of_decide_eq_true h)
    repeat' first | refine zL ?_ | refine zA ?_ | refine zQ [] ?_ | (refine isA ?_; refine zg rfl ?_) | (refine isL ?_; refine zW rfl (by kernel_rfl) rfl rfl ?_) | (refine zd rfl ?_; refine zV rfl (by kernel_rfl) rfl rfl ?_) | (refine zp 88 (x := #[.tmp 8]) ?_; refine za rfl (zK rfl (qw s.heap (by omega)) (.cons (.same rfl) .nil) rfl) rfl ?_) | (refine zq 88 (x := #[.tmp 8]) rfl ?_; refine zT rfl (by kernel_rfl) rfl (zK rfl (qw s.heap (by omega)) (.cons (.same rfl) .nil) rfl) rfl ?_) | (refine zp 88 (x := #[.tmp 11]) ?_; refine za rfl (zK rfl (qw s.dfr (by omega)) (.cons (.same rfl) .nil) rfl) rfl ?_) | (refine zq 88 (x := #[.tmp 11]) rfl ?_; refine zT rfl (by kernel_rfl) rfl (zK rfl (qw s.dfr (by omega)) (.cons (.same rfl) .nil) rfl) rfl ?_) | exact yD rfl rfl (by rw [e, ur (by omega) (by omega)]) | refine zD ?_ | refine zB _ rfl (by kernel_rfl) ?_ | refine zX rfl ?_ | refine zY rfl ?_ | refine zC ?_ | with_reducible refine zO ?_ | refine zI ?_ | refine zJ ?_ | (with_reducible first | refine zM ?_ | refine zN ?_ | refine zF ?_ | refine zH ?_ | refine zG ?_) | refine zP ?_
  have h1 := of_decide_eq_false h
  repeat' first | refine zL ?_ | refine zA ?_ | refine zQ [] ?_ | (refine isA ?_; refine zg rfl ?_) | (refine isL ?_; refine zW rfl (by kernel_rfl) rfl rfl ?_) | (refine zd rfl ?_; refine zV rfl (by kernel_rfl) rfl rfl ?_) | refine zD ?_ | refine zB _ rfl (by kernel_rfl) ?_ | refine zX rfl ?_ | refine zY rfl ?_ | refine zC ?_ | with_reducible refine zO ?_ | refine zI ?_ | refine zJ ?_ | (with_reducible first | refine zM ?_ | refine zN ?_ | refine zF ?_ | refine zH ?_ | refine zG ?_) | refine zP ?_
  refine zj rfl (fun h => ?_) (fun h => ?_)
  · have e := f9 (of_decide_eq_true h)
    repeat' first | refine zL ?_ | refine zA ?_ | refine zQ [] ?_ | (refine isA ?_; refine zg rfl ?_) | (refine isL ?_; refine zW rfl (by kernel_rfl) rfl rfl ?_) | (refine zd rfl ?_; refine zV rfl (by kernel_rfl) rfl rfl ?_) | (refine zp 89 ?_; refine za rfl (zK rfl c0 (.cons (.same rfl) (.cons (.same rfl) (.cons (.same rfl) .nil))) rfl) rfl ?_) | (refine zq 89 rfl ?_; refine zT rfl (by kernel_rfl) rfl (zK rfl c0 (.cons (.same rfl) (.cons (.same rfl) (.cons (.same rfl) .nil))) rfl) rfl ?_) | (refine zp 89 ?_; refine za rfl (zK rfl c1 (.cons (.same rfl) (.cons (.same rfl) (.cons (.same rfl) .nil))) rfl) rfl ?_) | (refine zq 89 rfl ?_; refine zT rfl (by kernel_rfl) rfl (zK rfl c1 (.cons (.same rfl) (.cons (.same rfl) (.cons (.same rfl) .nil))) rfl) rfl ?_) | refine zD ?_ | refine zB _ rfl (by kernel_rfl) ?_ | refine zX rfl ?_ | refine zY rfl ?_ | refine zC ?_ | with_reducible refine zO ?_ | refine zI ?_ | refine zJ ?_ | (with_reducible first | refine zM ?_ | refine zN ?_ | refine zF ?_ | refine zH ?_ | refine zG ?_) | refine zP ?_ | refine zj rfl (fun hbr => ?_) (fun hbr => ?_) | (refine wy ?_; refine yW rfl rfl (fun hbr => ?_) (fun hbr => ?_) <;> (fail_if_success (with_reducible (have hx : true = true := hbr))) <;> (fail_if_success (with_reducible (have hx : false = false := hbr)))) | (refine zd rfl ?_; refine yG rfl rfl rfl rfl (fun hbr => ?_) (fun hbr => ?_) <;> (fail_if_success (with_reducible (have hx : true = true := hbr))) <;> (fail_if_success (with_reducible (have hx : false = false := hbr))))
    all_goals exact yD rfl rfl (by simp_all; try exact ur (by omega) (by omega))
  have h2 := of_decide_eq_false h
  repeat' first | refine zL ?_ | refine zA ?_ | refine zQ [] ?_ | (refine isA ?_; refine zg rfl ?_) | (refine isL ?_; refine zW rfl (by kernel_rfl) rfl rfl ?_) | (refine zd rfl ?_; refine zV rfl (by kernel_rfl) rfl rfl ?_) | refine zD ?_ | refine zB _ rfl (by kernel_rfl) ?_ | refine zX rfl ?_ | refine zY rfl ?_ | refine zC ?_ | with_reducible refine zO ?_ | refine zI ?_ | refine zJ ?_ | (with_reducible first | refine zM ?_ | refine zN ?_ | refine zF ?_ | refine zH ?_ | refine zG ?_) | refine zP ?_
  refine zj rfl (fun h => ?_) (fun h => ?_)
  · have e := f8 (of_decide_eq_true h)
    repeat' first | refine zL ?_ | refine zA ?_ | refine zQ [] ?_ | (refine isA ?_; refine zg rfl ?_) | (refine isL ?_; refine zW rfl (by kernel_rfl) rfl rfl ?_) | (refine zd rfl ?_; refine zV rfl (by kernel_rfl) rfl rfl ?_) | (refine zp 89 ?_; refine za rfl (zK rfl c0 (.cons (.same rfl) (.cons (.same rfl) (.cons (.same rfl) .nil))) rfl) rfl ?_) | (refine zq 89 rfl ?_; refine zT rfl (by kernel_rfl) rfl (zK rfl c0 (.cons (.same rfl) (.cons (.same rfl) (.cons (.same rfl) .nil))) rfl) rfl ?_) | exact yD rfl rfl (by rw [e]) | refine zD ?_ | refine zB _ rfl (by kernel_rfl) ?_ | refine zX rfl ?_ | refine zY rfl ?_ | refine zC ?_ | with_reducible refine zO ?_ | refine zI ?_ | refine zJ ?_ | (with_reducible first | refine zM ?_ | refine zN ?_ | refine zF ?_ | refine zH ?_ | refine zG ?_) | refine zP ?_
  · have e := eA h1 h2 (of_decide_eq_false h)
    repeat' first | refine zL ?_ | refine zA ?_ | refine zQ [] ?_ | (refine isA ?_; refine zg rfl ?_) | (refine isL ?_; refine zW rfl (by kernel_rfl) rfl rfl ?_) | (refine zd rfl ?_; refine zV rfl (by kernel_rfl) rfl rfl ?_) | exact yD rfl rfl (by rw [e]) | refine zD ?_ | refine zB _ rfl (by kernel_rfl) ?_ | refine zX rfl ?_ | refine zY rfl ?_ | refine zC ?_ | with_reducible refine zO ?_ | refine zI ?_ | refine zJ ?_ | (with_reducible first | refine zM ?_ | refine zN ?_ | refine zF ?_ | refine zH ?_ | refine zG ?_) | refine zP ?_
theorem ny (s : So) (hok : okSo s) : zx Go.Proofs.Try.prog 20 [.agg (soE s)] [] (I (xJ s)) [] false := by
  have g2 := hok.heap
  have g3 := hok.dfr
  have t2 := uX s.heap
  have t3 := uX s.dfr
  have r0 := lV s.runs 0 s.lp
  have r1 := lV s.runs 1 s.rp
  refine zu [2] Go.Proofs.Try.func20 rfl rfl ?_
  simp only [Go.Proofs.Try.ntmps20, List.length_cons, List.length_nil, Nat.reduceAdd, Nat.reduceSub, List.replicate_succ, List.replicate_zero, List.cons_append, List.nil_append]
  repeat' first | refine zL ?_ | refine zA ?_ | refine zQ [] ?_ | (refine isA ?_; refine zg rfl ?_) | (refine isL ?_; refine zW rfl (by kernel_rfl) rfl rfl ?_) | (refine zd rfl ?_; refine zV rfl (by kernel_rfl) rfl rfl ?_) | refine zD ?_ | refine zB _ rfl (by kernel_rfl) ?_ | refine zX rfl ?_ | refine zY rfl ?_ | refine zC ?_ | with_reducible refine zO ?_ | refine zI ?_ | refine zJ ?_ | (with_reducible first | refine zM ?_ | refine zN ?_ | refine zF ?_ | refine zH ?_ | refine zG ?_) | refine zP ?_
  refine zj rfl (fun h => ?_) (fun h => ?_)
  · have e := pe (of_decide_eq_true h)
    repeat' first | refine zL ?_ | refine zA ?_ | refine zQ [] ?_ | (refine isA ?_; refine zg rfl ?_) | (refine isL ?_; refine zW rfl (by kernel_rfl) rfl rfl ?_) | (refine zd rfl ?_; refine zV rfl (by kernel_rfl) rfl rfl ?_) | (refine zp 90 (x := #[.tmp 8]) ?_; refine za rfl (zK rfl (vV s.heap (by omega)) (.cons (.same rfl) .nil) rfl) rfl ?_) | (refine zq 90 (x := #[.tmp 8]) rfl ?_; refine zT rfl (by kernel_rfl) rfl (zK rfl (vV s.heap (by omega)) (.cons (.same rfl) .nil) rfl) rfl ?_) | (refine zp 90 (x := #[.tmp 11]) ?_; refine za rfl (zK rfl (vV s.dfr (by omega)) (.cons (.same rfl) .nil) rfl) rfl ?_) | (refine zq 90 (x := #[.tmp 11]) rfl ?_; refine zT rfl (by kernel_rfl) rfl (zK rfl (vV s.dfr (by omega)) (.cons (.same rfl) .nil) rfl) rfl ?_) | exact yD rfl rfl (by rw [e, ur (by omega) (by omega)]) | refine zD ?_ | refine zB _ rfl (by kernel_rfl) ?_ | refine zX rfl ?_ | refine zY rfl ?_ | refine zC ?_ | with_reducible refine zO ?_ | refine zI ?_ | refine zJ ?_ | (with_reducible first | refine zM ?_ | refine zN ?_ | refine zF ?_ | refine zH ?_ | refine zG ?_) | refine zP ?_
  have h1 := of_decide_eq_false h
  repeat' first | refine zL ?_ | refine zA ?_ | refine zQ [] ?_ | (refine isA ?_; refine zg rfl ?_) | (refine isL ?_; refine zW rfl (by kernel_rfl) rfl rfl ?_) | (refine zd rfl ?_; refine zV rfl (by kernel_rfl) rfl rfl ?_) | refine zD ?_ | refine zB _ rfl (by kernel_rfl) ?_ | refine zX rfl ?_ | refine zY rfl ?_ | refine zC ?_ | with_reducible refine zO ?_ | refine zI ?_ | refine zJ ?_ | (with_reducible first | refine zM ?_ | refine zN ?_ | refine zF ?_ | refine zH ?_ | refine zG ?_) | refine zP ?_
  refine zj rfl (fun h => ?_) (fun h => ?_)
  · have e := f9 (of_decide_eq_true h)
    repeat' first | refine zL ?_ | refine zA ?_ | refine zQ [] ?_ | (refine isA ?_; refine zg rfl ?_) | (refine isL ?_; refine zW rfl (by kernel_rfl) rfl rfl ?_) | (refine zd rfl ?_; refine zV rfl (by kernel_rfl) rfl rfl ?_) | refine zD ?_ | refine zB _ rfl (by kernel_rfl) ?_ | refine zX rfl ?_ | refine zY rfl ?_ | refine zC ?_ | with_reducible refine zO ?_ | refine zI ?_ | refine zJ ?_ | (with_reducible first | refine zM ?_ | refine zN ?_ | refine zF ?_ | refine zH ?_ | refine zG ?_) | refine zP ?_
    refine yW rfl rfl (fun p => ?_) (fun p => ?_)
    · repeat' first | refine zL ?_ | refine zA ?_ | refine zQ [] ?_ | (refine isA ?_; refine zg rfl ?_) | (refine isL ?_; refine zW rfl (by kernel_rfl) rfl rfl ?_) | (refine zd rfl ?_; refine zV rfl (by kernel_rfl) rfl rfl ?_) | exact yD rfl rfl (by rw [e, p]; rfl) | refine zD ?_ | refine zB _ rfl (by kernel_rfl) ?_ | refine zX rfl ?_ | refine zY rfl ?_ | refine zC ?_ | with_reducible refine zO ?_ | refine zI ?_ | refine zJ ?_ | (with_reducible first | refine zM ?_ | refine zN ?_ | refine zF ?_ | refine zH ?_ | refine zG ?_) | refine zP ?_
    · repeat' first | refine zL ?_ | refine zA ?_ | refine zQ [] ?_ | (refine isA ?_; refine zg rfl ?_) | (refine isL ?_; refine zW rfl (by kernel_rfl) rfl rfl ?_) | (refine zd rfl ?_; refine zV rfl (by kernel_rfl) rfl rfl ?_) | refine zD ?_ | refine zB _ rfl (by kernel_rfl) ?_ | refine zX rfl ?_ | refine zY rfl ?_ | refine zC ?_ | with_reducible refine zO ?_ | refine zI ?_ | refine zJ ?_ | (with_reducible first | refine zM ?_ | refine zN ?_ | refine zF ?_ | refine zH ?_ | refine zG ?_) | refine zP ?_
      refine zj rfl (fun q => ?_) (fun q => ?_)
      · repeat' first | refine zL ?_ | refine zA ?_ | refine zQ [] ?_ | (refine isA ?_; refine zg rfl ?_) | (refine isL ?_; refine zW rfl (by kernel_rfl) rfl rfl ?_) | (refine zd rfl ?_; refine zV rfl (by kernel_rfl) rfl rfl ?_) | exact yD rfl rfl (by rw [e, p, q]; rfl) | refine zD ?_ | refine zB _ rfl (by kernel_rfl) ?_ | refine zX rfl ?_ | refine zY rfl ?_ | refine zC ?_ | with_reducible refine zO ?_ | refine zI ?_ | refine zJ ?_ | (with_reducible first | refine zM ?_ | refine zN ?_ | refine zF ?_ | refine zH ?_ | refine zG ?_) | refine zP ?_
      · obtain ⟨i, hi⟩ := Int.eq_ofNat_of_zero_le (show 0 ≤ s.lp from Int.not_lt.1 (of_decide_eq_false p))
        obtain ⟨j, hj⟩ := Int.eq_ofNat_of_zero_le (show 0 ≤ s.rp from Int.not_lt.1 (of_decide_eq_false q))
        have e' : xJ s = x3 (wX s.runs 0 i) + x3 (wX s.runs 1 j) := by rw [e, p, q, hi, hj]; rw [← nh, ← nh]; try rfl
        have c0 := wT s.runs 0 i hok.rn (by omega)
        have c1 := wT s.runs 1 j hok.rn (by omega)
        rw [← hi] at c0
        rw [← hj] at c1
        have b0 := qe s.runs 0 i
        have b1 := qe s.runs 1 j
        have u0 := uX (wX s.runs 0 i)
        have u1 := uX (wX s.runs 1 j)
        generalize wX s.runs 0 i = x0 at *
        generalize wX s.runs 1 j = x1 at *
        repeat' first | refine zL ?_ | refine zA ?_ | refine zQ [] ?_ | (refine isA ?_; refine zg rfl ?_) | (refine isL ?_; refine zW rfl (by kernel_rfl) rfl rfl ?_) | (refine zd rfl ?_; refine zV rfl (by kernel_rfl) rfl rfl ?_) | (refine zp 71 ?_; refine za rfl (zK rfl c0 (.cons (.same rfl) (.cons (.same rfl) (.cons (.same rfl) .nil))) rfl) rfl ?_) | (refine zq 71 rfl ?_; refine zT rfl (by kernel_rfl) rfl (zK rfl c0 (.cons (.same rfl) (.cons (.same rfl) (.cons (.same rfl) .nil))) rfl) rfl ?_) | (refine zp 71 ?_; refine za rfl (zK rfl c1 (.cons (.same rfl) (.cons (.same rfl) (.cons (.same rfl) .nil))) rfl) rfl ?_) | (refine zq 71 rfl ?_; refine zT rfl (by kernel_rfl) rfl (zK rfl c1 (.cons (.same rfl) (.cons (.same rfl) (.cons (.same rfl) .nil))) rfl) rfl ?_) | (refine zp 90 (x := #[.tmp 28]) ?_; refine za rfl (zK rfl (vV x0 (by omega)) (.cons (.same rfl) .nil) rfl) rfl ?_) | (refine zq 90 (x := #[.tmp 28]) rfl ?_; refine zT rfl (by kernel_rfl) rfl (zK rfl (vV x0 (by omega)) (.cons (.same rfl) .nil) rfl) rfl ?_) | (refine zp 90 (x := #[.tmp 34]) ?_; refine za rfl (zK rfl (vV x1 (by omega)) (.cons (.same rfl) .nil) rfl) rfl ?_) | (refine zq 90 (x := #[.tmp 34]) rfl ?_; refine zT rfl (by kernel_rfl) rfl (zK rfl (vV x1 (by omega)) (.cons (.same rfl) .nil) rfl) rfl ?_) | exact yD rfl rfl (by rw [e', ur (by omega) (by omega)]) | refine zD ?_ | refine zB _ rfl (by kernel_rfl) ?_ | refine zX rfl ?_ | refine zY rfl ?_ | refine zC ?_ | with_reducible refine zO ?_ | refine zI ?_ | refine zJ ?_ | (with_reducible first | refine zM ?_ | refine zN ?_ | refine zF ?_ | refine zH ?_ | refine zG ?_) | refine zP ?_
  have h2 := of_decide_eq_false h
  repeat' first | refine zL ?_ | refine zA ?_ | refine zQ [] ?_ | (refine isA ?_; refine zg rfl ?_) | (refine isL ?_; refine zW rfl (by kernel_rfl) rfl rfl ?_) | (refine zd rfl ?_; refine zV rfl (by kernel_rfl) rfl rfl ?_) | refine zD ?_ | refine zB _ rfl (by kernel_rfl) ?_ | refine zX rfl ?_ | refine zY rfl ?_ | refine zC ?_ | with_reducible refine zO ?_ | refine zI ?_ | refine zJ ?_ | (with_reducible first | refine zM ?_ | refine zN ?_ | refine zF ?_ | refine zH ?_ | refine zG ?_) | refine zP ?_
  refine zj rfl (fun h => ?_) (fun h => ?_)
  · have e := f8 (of_decide_eq_true h)
    repeat' first | refine zL ?_ | refine zA ?_ | refine zQ [] ?_ | (refine isA ?_; refine zg rfl ?_) | (refine isL ?_; refine zW rfl (by kernel_rfl) rfl rfl ?_) | (refine zd rfl ?_; refine zV rfl (by kernel_rfl) rfl rfl ?_) | refine zD ?_ | refine zB _ rfl (by kernel_rfl) ?_ | refine zX rfl ?_ | refine zY rfl ?_ | refine zC ?_ | with_reducible refine zO ?_ | refine zI ?_ | refine zJ ?_ | (with_reducible first | refine zM ?_ | refine zN ?_ | refine zF ?_ | refine zH ?_ | refine zG ?_) | refine zP ?_
    refine zj rfl (fun q => ?_) (fun q => ?_)
    · have e' := kZ (rs := s.runs) (k := 0) (of_decide_eq_true q)
      repeat' first | refine zL ?_ | refine zA ?_ | refine zQ [] ?_ | (refine isA ?_; refine zg rfl ?_) | (refine isL ?_; refine zW rfl (by kernel_rfl) rfl rfl ?_) | (refine zd rfl ?_; refine zV rfl (by kernel_rfl) rfl rfl ?_) | exact yD rfl rfl (by rw [e, e']) | refine zD ?_ | refine zB _ rfl (by kernel_rfl) ?_ | refine zX rfl ?_ | refine zY rfl ?_ | refine zC ?_ | with_reducible refine zO ?_ | refine zI ?_ | refine zJ ?_ | (with_reducible first | refine zM ?_ | refine zN ?_ | refine zF ?_ | refine zH ?_ | refine zG ?_) | refine zP ?_
    · obtain ⟨i, hi⟩ := Int.eq_ofNat_of_zero_le (show 0 ≤ s.lp from Int.not_lt.1 (of_decide_eq_false q))
      have e' : xJ s = x3 (wX s.runs 0 i) := by rw [e, hi]; rw [← nh]; try rfl
      have c0 := wT s.runs 0 i hok.rn (by omega)
      rw [← hi] at c0
      have b0 := qe s.runs 0 i
      generalize wX s.runs 0 i = x0 at *
      repeat' first | refine zL ?_ | refine zA ?_ | refine zQ [] ?_ | (refine isA ?_; refine zg rfl ?_) | (refine isL ?_; refine zW rfl (by kernel_rfl) rfl rfl ?_) | (refine zd rfl ?_; refine zV rfl (by kernel_rfl) rfl rfl ?_) | (refine zp 71 ?_; refine za rfl (zK rfl c0 (.cons (.same rfl) (.cons (.same rfl) (.cons (.same rfl) .nil))) rfl) rfl ?_) | (refine zq 71 rfl ?_; refine zT rfl (by kernel_rfl) rfl (zK rfl c0 (.cons (.same rfl) (.cons (.same rfl) (.cons (.same rfl) .nil))) rfl) rfl ?_) | (refine zp 90 ?_; refine za rfl (zK rfl (vV x0 (by omega)) (.cons (.same rfl) .nil) rfl) rfl ?_) | (refine zq 90 rfl ?_; refine zT rfl (by kernel_rfl) rfl (zK rfl (vV x0 (by omega)) (.cons (.same rfl) .nil) rfl) rfl ?_) | exact yD rfl rfl (by rw [e']) | refine zD ?_ | refine zB _ rfl (by kernel_rfl) ?_ | refine zX rfl ?_ | refine zY rfl ?_ | refine zC ?_ | with_reducible refine zO ?_ | refine zI ?_ | refine zJ ?_ | (with_reducible first | refine zM ?_ | refine zN ?_ | refine zF ?_ | refine zH ?_ | refine zG ?_) | refine zP ?_
  · have e := eA h1 h2 (of_decide_eq_false h)
    repeat' first | refine zL ?_ | refine zA ?_ | refine zQ [] ?_ | (refine isA ?_; refine zg rfl ?_) | (refine isL ?_; refine zW rfl (by kernel_rfl) rfl rfl ?_) | (refine zd rfl ?_; refine zV rfl (by kernel_rfl) rfl rfl ?_) | exact yD rfl rfl (by rw [e]) | refine zD ?_ | refine zB _ rfl (by kernel_rfl) ?_ | refine zX rfl ?_ | refine zY rfl ?_ | refine zC ?_ | with_reducible refine zO ?_ | refine zI ?_ | refine zJ ?_ | (with_reducible first | refine zM ?_ | refine zN ?_ | refine zF ?_ | refine zH ?_ | refine zG ?_) | refine zP ?_
theorem nx (rs : List Rn) (hok : v5 rs) (ht : tot rs ≤ 100000000) : zx Go.Proofs.Try.prog 80 [rnL rs] [] (.sl 0 0 rs.flatten.length) [rwR rs.flatten] false := by
  have hl := hok.1
  refine zu [2] Go.Proofs.Try.func80 rfl rfl ?_
  simp only [Go.Proofs.Try.ntmps80, List.length_cons, List.length_nil, Nat.reduceAdd, Nat.reduceSub, List.replicate_succ, List.replicate_zero, List.cons_append, List.nil_append]
  repeat' first | refine zL ?_ | refine zA ?_ | refine zQ [] ?_ | (refine isA ?_; refine zg rfl ?_) | (refine isL ?_; refine zW rfl (by kernel_rfl) rfl rfl ?_) | (refine zd rfl ?_; refine zV rfl (by kernel_rfl) rfl rfl ?_) | refine zD ?_ | refine zB _ rfl (by kernel_rfl) ?_ | refine zX rfl ?_ | refine zY rfl ?_ | refine zC ?_ | with_reducible refine zO ?_ | refine zI ?_ | refine zJ ?_ | (with_reducible first | refine zM ?_ | refine zN ?_ | refine zF ?_ | refine zH ?_ | refine zG ?_) | refine zP ?_
  refine z5 (α := { i : Nat // i ≤ rs.length }) (fun i => ⟨[.any, .any, .any, .sl 0 0 (rs.take i.1).flatten.length, .any, .any, .any, rnL rs, I rs.length, I i.1, .any, .any, .any, .any, .any, .any, .any, .any], [rwR (rs.take i.1).flatten], 0⟩) (fun i => rs.length - i.1) ⟨0, Nat.zero_le _⟩ ?_ ?_
  · exact yg rfl (by repeat' first | exact EqS.nil | refine EqS.any ?_ | refine EqS.same rfl ?_)
  · rintro ⟨i, hi⟩
    repeat' first | refine zL ?_ | refine zA ?_ | refine zQ [] ?_ | (refine isA ?_; refine zg rfl ?_) | (refine isL ?_; refine zW rfl (by kernel_rfl) rfl rfl ?_) | (refine zd rfl ?_; refine zV rfl (by kernel_rfl) rfl rfl ?_) | refine zD ?_ | refine zB _ rfl (by kernel_rfl) ?_ | refine zX rfl ?_ | refine zY rfl ?_ | refine zC ?_ | with_reducible refine zO ?_ | refine zI ?_ | refine zJ ?_ | (with_reducible first | refine zM ?_ | refine zN ?_ | refine zF ?_ | refine zH ?_ | refine zG ?_) | refine zP ?_
    refine zj rfl (fun h => ?_) (fun h => ?_)
    · have hlt : i < rs.length := by simpa using h
      obtain ⟨z, hz⟩ : ∃ z, rs[i]? = some z := ⟨_, List.getElem?_eq_getElem hlt⟩
      have h1 := qT rs (i + 1)
      rw [vY hz] at h1
      have h2 := vc (rs.take i)
      repeat' first | refine zL ?_ | refine zA ?_ | refine zQ [] ?_ | (refine isA ?_; refine zg rfl ?_) | (refine isL ?_; refine zW rfl (by kernel_rfl) rfl rfl ?_) | (refine zd rfl ?_; refine zV rfl (by kernel_rfl) rfl rfl ?_) | (refine z7 ?_; refine za rfl (zz (t := rnT) (z := z) rfl rfl rfl rfl (Int.natCast_nonneg i) hz) rfl ?_) | (refine z6 rfl ?_; refine zT rfl (by kernel_rfl) rfl (zz (t := rnT) (z := z) rfl rfl rfl rfl (Int.natCast_nonneg i) hz) rfl ?_) | (refine xt ?_; refine za rfl (yU (t := rwT) (xs := (rs.take i).flatten) (ys := z) rfl rfl rfl rfl (.lst _ _) (by omega) rfl) rfl ?_) | (refine xR rfl ?_; refine zT rfl (by kernel_rfl) rfl (yU (t := rwT) (xs := (rs.take i).flatten) (ys := z) rfl rfl rfl rfl (.lst _ _) (by omega) rfl) rfl ?_) | refine zD ?_ | refine zB _ rfl (by kernel_rfl) ?_ | refine zX rfl ?_ | refine zY rfl ?_ | refine zC ?_ | with_reducible refine zO ?_ | refine zI ?_ | refine zJ ?_ | (with_reducible first | refine zM ?_ | refine zN ?_ | refine zF ?_ | refine zH ?_ | refine zG ?_) | refine zP ?_
      refine ⟨⟨i + 1, hlt⟩, by simp only; omega, ?_⟩
      exact yX [1] rfl rfl (by decide) (.cons rfl rfl rfl rfl (yh (by rw [vA hz]) (zE _ _)) .nil) (by
        repeat' first | exact zk | refine zc ?_ ?_ | exact zo | exact le_refl rfl | exact zm rfl rfl | exact zm rfl (by rw [vA hz, List.length_append]) | exact xa (by assumption) (by omega))
    · have hge : i = rs.length := by
        have : ¬ ((i : Int) < rs.length) := by simpa using h
        omega
      subst hge
      repeat' first | refine zL ?_ | refine zA ?_ | refine zQ [] ?_ | (refine isA ?_; refine zg rfl ?_) | (refine isL ?_; refine zW rfl (by kernel_rfl) rfl rfl ?_) | (refine zd rfl ?_; refine zV rfl (by kernel_rfl) rfl rfl ?_) | exact ln (ty := rwT) rfl rfl rfl rfl (by simp) (by simp) (wE _) | refine zD ?_ | refine zB _ rfl (by kernel_rfl) ?_ | refine zX rfl ?_ | refine zY rfl ?_ | refine zC ?_ | with_reducible refine zO ?_ | refine zI ?_ | refine zJ ?_ | (with_reducible first | refine zM ?_ | refine zN ?_ | refine zF ?_ | refine zH ?_ | refine zG ?_) | refine zP ?_
end Go.Proofs.Ytojcojanokhnaaa.Ab
namespace Go.Proofs.Ytojcojanokhnaaa.Ab
open Go.RowKit
theorem qS (s : So) : vy s = (avR s.input && (inV s.pos 0 s.input.length && (avS s.runs && (!decide (s.wr < 0) && (vw s.out && s.heap.all fun r => !bel r s.out))))) := by
  unfold vy
  congr 4
  rw [Bool.eq_iff_iff]
  simp
theorem mB {s : So} (h : vy s = false) : vS s = false := by unfold vS; rw [h, Bool.false_and]
theorem fi {s : So} (h : vy s = true) (k : decide (s.ph = 1) = true) : vS s = sJ s := by unfold vS; rw [h, Bool.true_and, k, cond_true]
theorem fh {s : So} (h : vy s = true) (k : decide (s.ph = 1) = false) : vS s = (vX s && cond (decide (s.ph = 2)) (vO s) (cond (decide (s.ph = 3)) (uV s) (cond (decide (s.ph = 4)) (uW s) false))) := by unfold vS; rw [h, Bool.true_and, k, cond_false]
theorem mc {s : So} {i : Nat} {z : Rw} (hz : s.heap[i]? = some z) (h : bel z s.out = true) : vy s = false := by
  have e : (s.heap.all fun r => !bel r s.out) = false := by
    rw [List.all_eq_false]
    exact ⟨z, List.mem_of_getElem? hz, by simp [h]⟩
  rw [qS, e]
  simp
theorem pq {s : So} (hb : (avR s.input && (inV s.pos 0 s.input.length && (avS s.runs && (!decide (s.wr < 0) && vw s.out)))) = true) (h : ∀ j z, j < s.heap.length → s.heap[j]? = some z → bel z s.out = false) : vy s = true := by
  have e : (s.heap.all fun r => !bel r s.out) = true := List.all_eq_true.2 fun z hz => by
    obtain ⟨j, hj⟩ := List.getElem?_of_mem hz
    simp [h j z (List.getElem?_eq_some_iff.1 hj).1 hj]
  rw [qS, e]
  simp only [Bool.and_eq_true] at hb ⊢
  obtain ⟨a, b, c, d, e⟩ := hb
  exact ⟨a, b, c, d, e, trivial⟩
theorem tc {xs out : List Rw} {i : Nat} {z : Rw} (hb : ∀ j z, j < i → xs[j]? = some z → bel z out = false) (hz : xs[i]? = some z) (h : bel z out = false) : ∀ j z, j < i + 1 → xs[j]? = some z → bel z out = false := fun j y hj hy => by
  rcases Nat.lt_or_ge j i with hlt | hge
  · exact hb j y hlt hy
  · obtain rfl : j = i := by omega
    rw [hz] at hy
    cases hy
    exact h
theorem mD (s : So) : sJ s = (decide (s.lp = 0) && (decide (s.rp = 0) && ((decide ((0 : Int) < (s.out.length : Int)) || decide ((s.dfr.length : Int) = 0)) && (decide (xJ s ≤ 60) && eqB (s.runs.flatten ++ s.out ++ s.heap ++ s.dfr) (s.input.take s.pos.toNat))))) := by
  unfold sJ
  rw [show decide (0 < s.out.length) = decide ((0 : Int) < (s.out.length : Int)) from decide_eq_decide.2 (by omega), show decide (s.dfr.length = 0) = decide ((s.dfr.length : Int) = 0) from decide_eq_decide.2 (by omega)]
theorem gj (s : So) : vX s = (decide (s.pos = s.input.length) && (decide ((s.heap.length : Int) = 0) && (decide ((s.dfr.length : Int) = 0) && eqB s.runs.flatten s.input))) := by
  unfold vX
  rw [show decide (s.heap.length = 0) = decide ((s.heap.length : Int) = 0) from decide_eq_decide.2 (by omega), show decide (s.dfr.length = 0) = decide ((s.dfr.length : Int) = 0) from decide_eq_decide.2 (by omega)]
theorem mE (s : So) : vy s = (!(!avR s.input || (!inV s.pos 0 s.input.length || (!avS s.runs || (decide (s.wr < 0) || !vw s.out)))) && s.heap.all fun r => !bel r s.out) := by
  rw [qS]
  cases avR s.input <;> cases inV s.pos 0 s.input.length <;> cases avS s.runs <;> cases decide (s.wr < 0) <;> cases vw s.out <;> rfl
theorem mC (s : So) : vX s = !(!decide (s.pos = s.input.length) || (decide ((0 : Int) < (s.heap.length : Int)) || (decide ((0 : Int) < (s.dfr.length : Int)) || !eqB s.runs.flatten s.input))) := by
  rw [gj, show decide ((s.heap.length : Int) = 0) = !decide ((0 : Int) < (s.heap.length : Int)) from by rw [← decide_not]; exact decide_eq_decide.2 (by omega), show decide ((s.dfr.length : Int) = 0) = !decide ((0 : Int) < (s.dfr.length : Int)) from by rw [← decide_not]; exact decide_eq_decide.2 (by omega)]
  cases decide (s.pos = s.input.length) <;> cases decide ((0 : Int) < (s.heap.length : Int)) <;> cases decide ((0 : Int) < (s.dfr.length : Int)) <;> cases eqB s.runs.flatten s.input <;> rfl
theorem gm (s : So) (h : s.input.length ≤ 1000000000) : uV s = (decide ((s.runs.length : Int) = 1) && (inV s.lp 0 (IntKind.i64.wrap ((s.input.length : Int) - 1)) && (decide (s.rp = 0) && decide ((s.out.length : Int) = 0)))) := by
  unfold uV
  rw [show IntKind.i64.wrap ((s.input.length : Int) - 1) = (s.input.length : Int) - 1 by rw [IntKind.wrap_i64]; omega, show decide (s.runs.length = 1) = decide ((s.runs.length : Int) = 1) from decide_eq_decide.2 (by omega), show decide (s.out.length = 0) = decide ((s.out.length : Int) = 0) from decide_eq_decide.2 (by omega)]
theorem gn (s : So) : uW s = (decide ((s.runs.length : Int) ≤ 1) && (decide (s.lp = s.input.length) && (decide (s.rp = 0) && decide ((s.out.length : Int) = 0)))) := by
  unfold uW
  rw [show decide (s.runs.length ≤ 1) = decide ((s.runs.length : Int) ≤ 1) from decide_eq_decide.2 (by omega), show decide (s.out.length = 0) = decide ((s.out.length : Int) = 0) from decide_eq_decide.2 (by omega)]
theorem pE {s : So} (h : decide ((s.runs.length : Int) < 2) = true) : vO s = false := by
  have := of_decide_eq_true h
  unfold vO
  match hr : s.runs with
  | [] => rfl
  | [x] => rfl
  | x :: y :: rest => rw [hr] at this; simp at this; omega
theorem pG {rs : List Rn} (h : decide ((rs.length : Int) < 2) = false) : ∃ a b rest, rs = a :: b :: rest := by
  have := of_decide_eq_false h
  match rs with
  | [] => simp at this
  | [x] => simp at this
  | x :: y :: rest => exact ⟨x, y, rest, rfl⟩
theorem pF {s : So} {a b : Rn} {rest : List Rn} (hr : s.runs = a :: b :: rest) : vO s = (!(!inV s.lp 0 a.length || !inV s.rp 0 b.length) && (xj s.out (mgV (a.take s.lp.toNat) (b.take s.rp.toNat)) && xj s.out ((mgV a b).take (s.lp.toNat + s.rp.toNat)))) := by
  unfold vO
  rw [hr, Bool.eq_iff_iff]
  simp only [Bool.and_eq_true, Bool.not_eq_true', Bool.or_eq_false_iff, Bool.not_eq_false', and_assoc]
theorem tog4 (s : So) : [s.runs.flatten, s.out, s.heap, s.dfr].flatten = s.runs.flatten ++ s.out ++ s.heap ++ s.dfr := by simp
theorem eM (s : So) (hok : okSo s) : zx Go.Proofs.Try.prog 17 [.agg (soE s)] [] (B (vS s)) [] false := by
  have g1 := hok.input
  have g2 := hok.heap
  have g3 := hok.dfr
  have g4 := hok.out
  have g5 := hok.rn
  have g6 := hok.tot
  have g7 := vc s.runs
  have a1 := gV s.input (by omega)
  have a2 := dQ s.runs g5
  have a3 := gT s.out (by omega)
  have a4 := qx s hok
  have a5 := (fR s.runs g5 (by omega)).frozen (zy rfl)
  have a6 := gU s.runs.flatten s.input (by omega) (by omega)
  refine zu [2] Go.Proofs.Try.func17 rfl rfl ?_
  simp only [Go.Proofs.Try.ntmps17, List.length_cons, List.length_nil, Nat.reduceAdd, Nat.reduceSub, List.replicate_succ, List.replicate_zero, List.cons_append, List.nil_append]
  repeat' first | refine zL ?_ | refine zA ?_ | refine zQ [] ?_ | (refine isA ?_; refine zg rfl ?_) | (refine isL ?_; refine zW rfl (by kernel_rfl) rfl rfl ?_) | (refine zd rfl ?_; refine zV rfl (by kernel_rfl) rfl rfl ?_) | (refine zp 74 ?_; refine za rfl (zK rfl a1 (.cons (.same rfl) .nil) rfl) rfl ?_) | (refine zq 74 rfl ?_; refine zT rfl (by kernel_rfl) rfl (zK rfl a1 (.cons (.same rfl) .nil) rfl) rfl ?_) | (refine zp 75 ?_; refine za rfl (zK rfl (wA _ _ _) (.cons (.same rfl) (.cons (.same rfl) (.cons (.same rfl) .nil))) rfl) rfl ?_) | (refine zq 75 rfl ?_; refine zT rfl (by kernel_rfl) rfl (zK rfl (wA _ _ _) (.cons (.same rfl) (.cons (.same rfl) (.cons (.same rfl) .nil))) rfl) rfl ?_) | (refine zp 76 ?_; refine za rfl (zK rfl a2 (.cons (.same rfl) .nil) rfl) rfl ?_) | (refine zq 76 rfl ?_; refine zT rfl (by kernel_rfl) rfl (zK rfl a2 (.cons (.same rfl) .nil) rfl) rfl ?_) | (refine zp 77 ?_; refine za rfl (zK rfl a3 (.cons (.same rfl) .nil) rfl) rfl ?_) | (refine zq 77 rfl ?_; refine zT rfl (by kernel_rfl) rfl (zK rfl a3 (.cons (.same rfl) .nil) rfl) rfl ?_) | refine zD ?_ | refine zB _ rfl (by kernel_rfl) ?_ | refine zX rfl ?_ | refine zY rfl ?_ | refine zC ?_ | with_reducible refine zO ?_ | refine zI ?_ | refine zJ ?_ | (with_reducible first | refine zM ?_ | refine zN ?_ | refine zF ?_ | refine zH ?_ | refine zG ?_) | refine zP ?_ | refine zj rfl (fun hbr => ?_) (fun hbr => ?_) | (refine wy ?_; refine yW rfl rfl (fun hbr => ?_) (fun hbr => ?_) <;> (fail_if_success (with_reducible (have hx : true = true := hbr))) <;> (fail_if_success (with_reducible (have hx : false = false := hbr)))) | (refine zd rfl ?_; refine yG rfl rfl rfl rfl (fun hbr => ?_) (fun hbr => ?_) <;> (fail_if_success (with_reducible (have hx : true = true := hbr))) <;> (fail_if_success (with_reducible (have hx : false = false := hbr))))
  all_goals first
    | exact yD rfl rfl (congrArg B (mB (by rw [mE]; simp only [*, Bool.true_or, Bool.false_or, Bool.or_true, Bool.or_false, Bool.true_and, Bool.false_and, Bool.and_true, Bool.and_false, Bool.not_true, Bool.not_false, cond_true, cond_false])).symm)
    | skip
  have hq : (avR s.input && (inV s.pos 0 s.input.length && (avS s.runs && (!decide (s.wr < 0) && vw s.out)))) = true := by
    simp only [Bool.not_eq_false'] at *
    simp only [*, Bool.true_and, Bool.not_false]
  refine z5 (α := { i : Nat // i ≤ s.heap.length ∧ ∀ j z, j < i → s.heap[j]? = some z → bel z s.out = false }) (fun i => ⟨(.any :: .any :: .any :: (.ptr 1 0) :: .any :: .any :: .any :: .any :: .any :: .any :: .any :: .any :: .any :: .any :: .any :: .any :: .any :: .any :: .any :: .any :: .any :: .any :: .any :: .any :: .any :: .any :: .any :: .any :: .any :: .any :: .any :: .any :: .any :: .any :: .any :: .any :: .any :: .any :: .any :: .any :: .any :: (rwL s.heap) :: (I s.heap.length) :: (I i.1) :: .any :: .any :: .any :: .any :: .any :: .any :: .any :: .any :: .any :: .any :: .any :: .any :: .any :: .any :: .any :: .any :: .any :: .any :: .any :: .any :: .any :: .any :: .any :: .any :: .any :: .any :: .any :: .any :: .any :: .any :: .any :: .any :: .any :: .any :: .any :: .any :: .any :: .any :: .any :: .any :: .any :: .any :: .any :: .any :: .any :: .any :: .any :: .any :: .any :: .any :: .any :: .any :: .any :: .any :: .any :: .any :: .any :: .any :: .any :: .any :: .any :: .any :: .any :: .any :: .any :: .any :: .any :: .any :: .any :: .any :: .any :: .any :: .any :: .any :: .any :: .any :: .any :: .any :: .any :: .any :: .any :: .any :: .any :: .any :: .any :: .any :: .any :: .any :: .any :: .any :: .any :: .any :: .any :: .any :: .any :: .any :: .any :: .any :: .any :: .any :: .any :: .any :: .any :: .any :: .any :: .any :: .any :: .any :: .any :: .any :: .any :: .any :: .any :: .any :: .any :: .any :: .any :: .any :: .any :: .any :: .any :: .any :: .any :: .any :: .any :: .any :: .any :: .any :: .any :: .any :: .any :: .any :: .any :: .any :: .any :: .any :: .any :: .any :: .any :: .any :: .any :: .any :: .any :: .any :: .any :: .any :: .any :: .any :: .any :: .any :: .any :: .any :: .any :: .any :: .any :: .any :: .any :: .any :: .any :: .any :: .any :: .any :: .any :: .any :: .any :: .any :: .any :: .any :: .any :: .any :: .any :: .any :: .any :: .any :: .any :: .any :: .any :: .any :: .any :: .any :: .any :: .any :: .any :: .any :: .any :: .any :: .any :: .any :: .any :: .any :: []), [⟨27, 10, soE s, 0⟩, ⟨27, 10, soE s, 0⟩], 0⟩) (fun i => s.heap.length - i.1) ⟨0, Nat.zero_le _, fun j z h => absurd h (Nat.not_lt_zero j)⟩ ?_ ?_
  · exact yX [0, 1] rfl rfl (by decide) (by repeat' first | exact HLes.nil | refine HLes.cons rfl rfl rfl rfl ?_ ?_ | exact zk | refine zc ?_ ?_ | exact zo | exact le_refl rfl | exact zm rfl rfl | exact zt rfl) (by repeat' first | exact zk | refine zc ?_ ?_ | exact zo | exact le_refl rfl | exact zm rfl rfl | exact zt rfl)
  · rintro ⟨i, hi, hb⟩
    repeat' first | refine zL ?_ | refine zA ?_ | refine zQ [] ?_ | (refine isA ?_; refine zg rfl ?_) | (refine isL ?_; refine zW rfl (by kernel_rfl) rfl rfl ?_) | (refine zd rfl ?_; refine zV rfl (by kernel_rfl) rfl rfl ?_) | refine zD ?_ | refine zB _ rfl (by kernel_rfl) ?_ | refine zX rfl ?_ | refine zY rfl ?_ | refine zC ?_ | with_reducible refine zO ?_ | refine zI ?_ | refine zJ ?_ | (with_reducible first | refine zM ?_ | refine zN ?_ | refine zF ?_ | refine zH ?_ | refine zG ?_) | refine zP ?_
    refine zj rfl (fun h => ?_) (fun h => ?_)
    · have hlt : i < s.heap.length := by simpa using h
      obtain ⟨z, hz⟩ : ∃ z, s.heap[i]? = some z := ⟨_, List.getElem?_eq_getElem hlt⟩
      repeat' first | refine zL ?_ | refine zA ?_ | refine zQ [] ?_ | (refine isA ?_; refine zg rfl ?_) | (refine isL ?_; refine zW rfl (by kernel_rfl) rfl rfl ?_) | (refine zd rfl ?_; refine zV rfl (by kernel_rfl) rfl rfl ?_) | (refine z7 ?_; refine za rfl (zz (t := rwT) (z := z) rfl rfl rfl rfl (Int.natCast_nonneg i) hz) rfl ?_) | (refine z6 rfl ?_; refine zT rfl (by kernel_rfl) rfl (zz (t := rwT) (z := z) rfl rfl rfl rfl (Int.natCast_nonneg i) hz) rfl ?_) | (refine zp 59 ?_; refine za rfl (zK rfl (qy z s.out (by omega)) (.cons (.same rfl) (.cons (.same rfl) .nil)) rfl) rfl ?_) | (refine zq 59 rfl ?_; refine zT rfl (by kernel_rfl) rfl (zK rfl (qy z s.out (by omega)) (.cons (.same rfl) (.cons (.same rfl) .nil)) rfl) rfl ?_) | refine zD ?_ | refine zB _ rfl (by kernel_rfl) ?_ | refine zX rfl ?_ | refine zY rfl ?_ | refine zC ?_ | with_reducible refine zO ?_ | refine zI ?_ | refine zJ ?_ | (with_reducible first | refine zM ?_ | refine zN ?_ | refine zF ?_ | refine zH ?_ | refine zG ?_) | refine zP ?_
      refine zj rfl (fun p => ?_) (fun p => ?_)
      · repeat' first | refine zL ?_ | refine zA ?_ | refine zQ [] ?_ | (refine isA ?_; refine zg rfl ?_) | (refine isL ?_; refine zW rfl (by kernel_rfl) rfl rfl ?_) | (refine zd rfl ?_; refine zV rfl (by kernel_rfl) rfl rfl ?_) | exact yD rfl rfl (congrArg B (mB (mc hz p)).symm) | refine zD ?_ | refine zB _ rfl (by kernel_rfl) ?_ | refine zX rfl ?_ | refine zY rfl ?_ | refine zC ?_ | with_reducible refine zO ?_ | refine zI ?_ | refine zJ ?_ | (with_reducible first | refine zM ?_ | refine zN ?_ | refine zF ?_ | refine zH ?_ | refine zG ?_) | refine zP ?_
      · repeat' first | refine zL ?_ | refine zA ?_ | refine zQ [] ?_ | (refine isA ?_; refine zg rfl ?_) | (refine isL ?_; refine zW rfl (by kernel_rfl) rfl rfl ?_) | (refine zd rfl ?_; refine zV rfl (by kernel_rfl) rfl rfl ?_) | refine zD ?_ | refine zB _ rfl (by kernel_rfl) ?_ | refine zX rfl ?_ | refine zY rfl ?_ | refine zC ?_ | with_reducible refine zO ?_ | refine zI ?_ | refine zJ ?_ | (with_reducible first | refine zM ?_ | refine zN ?_ | refine zF ?_ | refine zH ?_ | refine zG ?_) | refine zP ?_
        refine ⟨⟨i + 1, hlt, tc hb hz p⟩, by simp only; omega, ?_⟩
        exact yX [0, 1] rfl rfl (by decide) (by repeat' first | exact HLes.nil | refine HLes.cons rfl rfl rfl rfl ?_ ?_ | exact zk | refine zc ?_ ?_ | exact zo | exact le_refl rfl | exact zm rfl rfl | exact zt rfl) (by repeat' first | exact zk | refine zc ?_ ?_ | exact zo | exact le_refl rfl | exact zm rfl rfl | exact zt rfl | exact xa (by assumption) (by omega))
    · have hge : i = s.heap.length := by
        have : ¬ ((i : Int) < s.heap.length) := by simpa using h
        omega
      subst hge
      have hB := pq hq hb
      have e1 := fi hB
      have e2 := fh hB
      simp only [Bool.and_eq_true, wD] at hq
      obtain ⟨hv0, ⟨hp0, hp1⟩, hv1, hv2, hv3⟩ := hq
      repeat' first | refine zL ?_ | refine zA ?_ | refine zQ [] ?_ | (refine isA ?_; refine zg rfl ?_) | (refine isL ?_; refine zW rfl (by kernel_rfl) rfl rfl ?_) | (refine zd rfl ?_; refine zV rfl (by kernel_rfl) rfl rfl ?_) | (refine zp 78 ?_; refine za rfl (zK rfl a5 (.cons (.same rfl) .nil) rfl) rfl ?_) | (refine zq 78 rfl ?_; refine zT rfl (by kernel_rfl) rfl (zK rfl a5 (.cons (.same rfl) .nil) rfl) rfl ?_) | refine zD ?_ | refine zB _ rfl (by kernel_rfl) ?_ | refine zX rfl ?_ | refine zY rfl ?_ | refine zC ?_ | with_reducible refine zO ?_ | refine zI ?_ | refine zJ ?_ | (with_reducible first | refine zM ?_ | refine zN ?_ | refine zF ?_ | refine zH ?_ | refine zG ?_) | refine zP ?_
      refine zj rfl (fun h => ?_) (fun h => ?_)
      · have e1 := e1 h
        rw [mD] at e1
        have hp : s.pos = ((s.pos.toNat : Nat) : Int) := by omega
        have t4 := tog4 s
        have a7 := (nx [s.runs.flatten, s.out, s.heap, s.dfr] ⟨by simp, fun x hx => by simp at hx; rcases hx with rfl | rfl | rfl | rfl <;> omega⟩ (by show ([s.runs.flatten, s.out, s.heap, s.dfr].map List.length).sum ≤ _; simp only [List.map_cons, List.map_nil, List.sum_cons, List.sum_nil]; omega)).frozen (zy rfl)
        rw [t4] at a7
        have a8 := gU (s.runs.flatten ++ s.out ++ s.heap ++ s.dfr) (s.input.take s.pos.toNat) (by rw [List.length_append, List.length_append, List.length_append]; omega) (by simp; omega)
        repeat' first | refine zL ?_ | refine zA ?_ | refine zQ [] ?_ | (refine isA ?_; refine zg rfl ?_) | (refine isL ?_; refine zW rfl (by kernel_rfl) rfl rfl ?_) | (refine zd rfl ?_; refine zV rfl (by kernel_rfl) rfl rfl ?_) | refine za rfl (yR rfl rfl rfl rfl rfl) rfl ?_ | refine zT rfl (by kernel_rfl) rfl (yR rfl rfl rfl rfl rfl) rfl ?_ | (refine zp 19 ?_; refine za rfl (zK rfl a4 (.cons (.same rfl) .nil) rfl) rfl ?_) | (refine zq 19 rfl ?_; refine zT rfl (by kernel_rfl) rfl (zK rfl a4 (.cons (.same rfl) .nil) rfl) rfl ?_) | (refine zp 80 ?_; refine za rfl (zK rfl a7 (.cons (.same rfl) .nil) rfl) rfl ?_) | (refine zq 80 rfl ?_; refine zT rfl (by kernel_rfl) rfl (zK rfl a7 (.cons (.same rfl) .nil) rfl) rfl ?_) | (refine zp 79 ?_; refine za rfl (zK rfl a8 (.cons (.same rfl) (.cons (.same rfl) .nil)) rfl) rfl ?_) | (refine zq 79 rfl ?_; refine zT rfl (by kernel_rfl) rfl (zK rfl a8 (.cons (.same rfl) (.cons (.same rfl) .nil)) rfl) rfl ?_) | (refine v7 (x := .tmp 94) ?_; refine za rfl (ym rfl rfl (congrArg I hp) (by omega)) rfl ?_) | (refine v6 (x := .tmp 94) rfl ?_; refine zT rfl (by kernel_rfl) rfl (ym rfl rfl (congrArg I hp) (by omega)) rfl ?_) | refine zD ?_ | refine zB _ rfl (by kernel_rfl) ?_ | refine zX rfl ?_ | refine zY rfl ?_ | refine zC ?_ | with_reducible refine zO ?_ | refine zI ?_ | refine zJ ?_ | (with_reducible first | refine zM ?_ | refine zN ?_ | refine zF ?_ | refine zH ?_ | refine zG ?_) | refine zP ?_ | refine zj rfl (fun hbr => ?_) (fun hbr => ?_) | (refine wy ?_; refine yW rfl rfl (fun hbr => ?_) (fun hbr => ?_) <;> (fail_if_success (with_reducible (have hx : true = true := hbr))) <;> (fail_if_success (with_reducible (have hx : false = false := hbr)))) | (refine zd rfl ?_; refine yG rfl rfl rfl rfl (fun hbr => ?_) (fun hbr => ?_) <;> (fail_if_success (with_reducible (have hx : true = true := hbr))) <;> (fail_if_success (with_reducible (have hx : false = false := hbr))))
        all_goals exact yD rfl rfl (congrArg B (by rw [e1]; clear e1 e2 hp; simp only [*, Bool.true_or, Bool.false_or, Bool.or_true, Bool.or_false, Bool.true_and, Bool.false_and, Bool.and_true, Bool.and_false, Bool.not_true, Bool.not_false, cond_true, cond_false]))
      · have e2 := e2 h
        rw [mC] at e2
        repeat' first | refine zL ?_ | refine zA ?_ | refine zQ [] ?_ | (refine isA ?_; refine zg rfl ?_) | (refine isL ?_; refine zW rfl (by kernel_rfl) rfl rfl ?_) | (refine zd rfl ?_; refine zV rfl (by kernel_rfl) rfl rfl ?_) | (refine zp 79 ?_; refine za rfl (zK rfl a6 (.cons (.same rfl) (.cons (.same rfl) .nil)) rfl) rfl ?_) | (refine zq 79 rfl ?_; refine zT rfl (by kernel_rfl) rfl (zK rfl a6 (.cons (.same rfl) (.cons (.same rfl) .nil)) rfl) rfl ?_) | refine zD ?_ | refine zB _ rfl (by kernel_rfl) ?_ | refine zX rfl ?_ | refine zY rfl ?_ | refine zC ?_ | with_reducible refine zO ?_ | refine zI ?_ | refine zJ ?_ | (with_reducible first | refine zM ?_ | refine zN ?_ | refine zF ?_ | refine zH ?_ | refine zG ?_) | refine zP ?_ | (refine wy ?_; refine yW rfl rfl (fun hbr => ?_) (fun hbr => ?_) <;> (fail_if_success (with_reducible (have hx : true = true := hbr))) <;> (fail_if_success (with_reducible (have hx : false = false := hbr)))) | (refine zd rfl ?_; refine yG rfl rfl rfl rfl (fun hbr => ?_) (fun hbr => ?_) <;> (fail_if_success (with_reducible (have hx : true = true := hbr))) <;> (fail_if_success (with_reducible (have hx : false = false := hbr))))
        all_goals first
          | exact yD rfl rfl (congrArg B (by rw [e2]; clear e1 e2; simp only [*, Bool.true_or, Bool.false_or, Bool.or_true, Bool.or_false, Bool.true_and, Bool.false_and, Bool.and_true, Bool.and_false, Bool.not_true, Bool.not_false, cond_true, cond_false]))
          | skip
        refine zj rfl (fun q => ?_) (fun q => ?_)
        · repeat' first | refine zL ?_ | refine zA ?_ | refine zQ [] ?_ | (refine isA ?_; refine zg rfl ?_) | (refine isL ?_; refine zW rfl (by kernel_rfl) rfl rfl ?_) | (refine zd rfl ?_; refine zV rfl (by kernel_rfl) rfl rfl ?_) | exact yD rfl rfl (congrArg B (by rw [e2]; clear e1 e2; simp only [*, Bool.true_or, Bool.false_or, Bool.or_true, Bool.or_false, Bool.true_and, Bool.false_and, Bool.and_true, Bool.and_false, Bool.not_true, Bool.not_false, cond_true, cond_false])) | refine zD ?_ | refine zB _ rfl (by kernel_rfl) ?_ | refine zX rfl ?_ | refine zY rfl ?_ | refine zC ?_ | with_reducible refine zO ?_ | refine zI ?_ | refine zJ ?_ | (with_reducible first | refine zM ?_ | refine zN ?_ | refine zF ?_ | refine zH ?_ | refine zG ?_) | refine zP ?_
        have e3 : vS s = cond (decide (s.ph = 2)) (vO s) (cond (decide (s.ph = 3)) (uV s) (cond (decide (s.ph = 4)) (uW s) false)) := by
          rw [e2]
          clear e1 e2
          simp only [*, Bool.true_or, Bool.false_or, Bool.or_true, Bool.or_false, Bool.true_and, Bool.false_and, Bool.and_true, Bool.and_false, Bool.not_true, Bool.not_false, cond_true, cond_false]
        clear e1 e2
        repeat' first | refine zL ?_ | refine zA ?_ | refine zQ [] ?_ | (refine isA ?_; refine zg rfl ?_) | (refine isL ?_; refine zW rfl (by kernel_rfl) rfl rfl ?_) | (refine zd rfl ?_; refine zV rfl (by kernel_rfl) rfl rfl ?_) | refine zD ?_ | refine zB _ rfl (by kernel_rfl) ?_ | refine zX rfl ?_ | refine zY rfl ?_ | refine zC ?_ | with_reducible refine zO ?_ | refine zI ?_ | refine zJ ?_ | (with_reducible first | refine zM ?_ | refine zN ?_ | refine zF ?_ | refine zH ?_ | refine zG ?_) | refine zP ?_
        refine zj rfl (fun h2 => ?_) (fun h2 => ?_)
        · rw [h2, cond_true] at e3
          repeat' first | refine zL ?_ | refine zA ?_ | refine zQ [] ?_ | (refine isA ?_; refine zg rfl ?_) | (refine isL ?_; refine zW rfl (by kernel_rfl) rfl rfl ?_) | (refine zd rfl ?_; refine zV rfl (by kernel_rfl) rfl rfl ?_) | refine zD ?_ | refine zB _ rfl (by kernel_rfl) ?_ | refine zX rfl ?_ | refine zY rfl ?_ | refine zC ?_ | with_reducible refine zO ?_ | refine zI ?_ | refine zJ ?_ | (with_reducible first | refine zM ?_ | refine zN ?_ | refine zF ?_ | refine zH ?_ | refine zG ?_) | refine zP ?_
          refine zj rfl (fun h3 => ?_) (fun h3 => ?_)
          · repeat' first | refine zL ?_ | refine zA ?_ | refine zQ [] ?_ | (refine isA ?_; refine zg rfl ?_) | (refine isL ?_; refine zW rfl (by kernel_rfl) rfl rfl ?_) | (refine zd rfl ?_; refine zV rfl (by kernel_rfl) rfl rfl ?_) | exact yD rfl rfl (congrArg B (by rw [e3, pE h3])) | refine zD ?_ | refine zB _ rfl (by kernel_rfl) ?_ | refine zX rfl ?_ | refine zY rfl ?_ | refine zC ?_ | with_reducible refine zO ?_ | refine zI ?_ | refine zJ ?_ | (with_reducible first | refine zM ?_ | refine zN ?_ | refine zF ?_ | refine zH ?_ | refine zG ?_) | refine zP ?_
          · obtain ⟨a, b, rest, hr⟩ := pG h3
            rw [pF hr] at e3
            have ra : s.runs[0]? = some a := by rw [hr]; rfl
            have rb : s.runs[1]? = some b := by rw [hr]; rfl
            have la := g5.at ra
            have lb := g5.at rb
            have lab : a.length + b.length ≤ 10000000 := by rw [hr] at g6; simp only [tot, List.map_cons, List.sum_cons] at g6; omega
            repeat' first | refine zL ?_ | refine zA ?_ | refine zQ [] ?_ | (refine isA ?_; refine zg rfl ?_) | (refine isL ?_; refine zW rfl (by kernel_rfl) rfl rfl ?_) | (refine zd rfl ?_; refine zV rfl (by kernel_rfl) rfl rfl ?_) | (refine zp 75 ?_; refine za rfl (zK rfl (wA _ _ _) (.cons (.same rfl) (.cons (.same rfl) (.cons (.same rfl) .nil))) rfl) rfl ?_) | (refine zq 75 rfl ?_; refine zT rfl (by kernel_rfl) rfl (zK rfl (wA _ _ _) (.cons (.same rfl) (.cons (.same rfl) (.cons (.same rfl) .nil))) rfl) rfl ?_) | (refine z7 (x := .tmp 134) ?_; refine za rfl (zz (t := rnT) (z := a) rfl rfl rfl rfl (Int.natCast_nonneg 0) ra) rfl ?_) | (refine z6 (x := .tmp 134) rfl ?_; refine zT rfl (by kernel_rfl) rfl (zz (t := rnT) (z := a) rfl rfl rfl rfl (Int.natCast_nonneg 0) ra) rfl ?_) | (refine z7 (x := .tmp 139) ?_; refine za rfl (zz (t := rnT) (z := b) rfl rfl rfl rfl (Int.natCast_nonneg 1) rb) rfl ?_) | (refine z6 (x := .tmp 139) rfl ?_; refine zT rfl (by kernel_rfl) rfl (zz (t := rnT) (z := b) rfl rfl rfl rfl (Int.natCast_nonneg 1) rb) rfl ?_) | refine zD ?_ | refine zB _ rfl (by kernel_rfl) ?_ | refine zX rfl ?_ | refine zY rfl ?_ | refine zC ?_ | with_reducible refine zO ?_ | refine zI ?_ | refine zJ ?_ | (with_reducible first | refine zM ?_ | refine zN ?_ | refine zF ?_ | refine zH ?_ | refine zG ?_) | refine zP ?_ | (refine wy ?_; refine yW rfl rfl (fun hbr => ?_) (fun hbr => ?_) <;> (fail_if_success (with_reducible (have hx : true = true := hbr))) <;> (fail_if_success (with_reducible (have hx : false = false := hbr)))) | (refine zd rfl ?_; refine yG rfl rfl rfl rfl (fun hbr => ?_) (fun hbr => ?_) <;> (fail_if_success (with_reducible (have hx : true = true := hbr))) <;> (fail_if_success (with_reducible (have hx : false = false := hbr))))
            all_goals first
              | exact yD rfl rfl (congrArg B (by rw [e3]; simp only [*, Bool.true_or, Bool.false_or, Bool.or_true, Bool.or_false, Bool.true_and, Bool.false_and, Bool.and_true, Bool.and_false, Bool.not_true, Bool.not_false, cond_true, cond_false]))
              | skip
            refine zj rfl (fun p => ?_) (fun p => ?_)
            · repeat' first | refine zL ?_ | refine zA ?_ | refine zQ [] ?_ | (refine isA ?_; refine zg rfl ?_) | (refine isL ?_; refine zW rfl (by kernel_rfl) rfl rfl ?_) | (refine zd rfl ?_; refine zV rfl (by kernel_rfl) rfl rfl ?_) | exact yD rfl rfl (congrArg B (by rw [e3]; simp only [*, Bool.true_or, Bool.false_or, Bool.or_true, Bool.or_false, Bool.true_and, Bool.false_and, Bool.and_true, Bool.and_false, Bool.not_true, Bool.not_false, cond_true, cond_false])) | refine zD ?_ | refine zB _ rfl (by kernel_rfl) ?_ | refine zX rfl ?_ | refine zY rfl ?_ | refine zC ?_ | with_reducible refine zO ?_ | refine zI ?_ | refine zJ ?_ | (with_reducible first | refine zM ?_ | refine zN ?_ | refine zF ?_ | refine zH ?_ | refine zG ?_) | refine zP ?_
            have p1 : (!inV s.lp 0 a.length) = false := by assumption
            have p1 : inV s.lp 0 a.length = true := by simpa using p1
            have p2 : inV s.rp 0 b.length = true := by simpa using p
            rw [p1, p2] at e3
            simp only [Bool.true_or, Bool.false_or, Bool.or_true, Bool.or_false, Bool.true_and, Bool.false_and, Bool.and_true, Bool.and_false, Bool.not_true, Bool.not_false, cond_true, cond_false] at e3
            obtain ⟨q1, q2⟩ := wD.1 p1
            obtain ⟨q3, q4⟩ := wD.1 p2
            obtain ⟨i, hi⟩ := Int.eq_ofNat_of_zero_le q1
            obtain ⟨j, hj⟩ := Int.eq_ofNat_of_zero_le q3
            have ei : s.lp.toNat = i := by omega
            have ej : s.rp.toNat = j := by omega
            rw [ei, ej] at e3
            have w1 : IntKind.i64.wrap (s.lp + s.rp) = ((i + j : Nat) : Int) := by rw [hi, hj, IntKind.wrap_i64]; omega
            have li : (a.take i).length ≤ 100000000 := by simp; omega
            have lj : (b.take j).length ≤ 100000000 := by simp; omega
            have m1 := (eN (a.take i) (b.take j) li lj).frozen (zy rfl)
            have m2 := (eN a b (by omega) (by omega)).frozen (zy rfl)
            have n2 := tZ a b
            have x1 := so s.out (mgV (a.take i) (b.take j)) (by omega)
            have x2 := so s.out ((mgV a b).take (i + j)) (by omega)
            generalize mgV (a.take i) (b.take j) = M1 at m1 x1 e3
            generalize mgV a b = M2 at m2 x2 e3 n2
            repeat' first | refine zL ?_ | refine zA ?_ | refine zQ [] ?_ | (refine isA ?_; refine zg rfl ?_) | (refine isL ?_; refine zW rfl (by kernel_rfl) rfl rfl ?_) | (refine zd rfl ?_; refine zV rfl (by kernel_rfl) rfl rfl ?_) | (refine v7 (x := .tmp 159) ?_; refine za rfl (ym rfl rfl (congrArg I hi) (by omega)) rfl ?_) | (refine v6 (x := .tmp 159) rfl ?_; refine zT rfl (by kernel_rfl) rfl (ym rfl rfl (congrArg I hi) (by omega)) rfl ?_) | (refine v7 (x := .tmp 163) ?_; refine za rfl (ym rfl rfl (congrArg I hj) (by omega)) rfl ?_) | (refine v6 (x := .tmp 163) rfl ?_; refine zT rfl (by kernel_rfl) rfl (ym rfl rfl (congrArg I hj) (by omega)) rfl ?_) | (refine v7 (x := .tmp 174) ?_; refine za rfl (ym rfl rfl (congrArg I w1) (by omega)) rfl ?_) | (refine v6 (x := .tmp 174) rfl ?_; refine zT rfl (by kernel_rfl) rfl (ym rfl rfl (congrArg I w1) (by omega)) rfl ?_) | (refine zp 82 (x := #[.tmp 162, .tmp 166]) ?_; refine za rfl (zK rfl m1 (.cons (.same rfl) (.cons (.same rfl) .nil)) rfl) rfl ?_) | (refine zq 82 (x := #[.tmp 162, .tmp 166]) rfl ?_; refine zT rfl (by kernel_rfl) rfl (zK rfl m1 (.cons (.same rfl) (.cons (.same rfl) .nil)) rfl) rfl ?_) | (refine zp 82 (x := #[.tmp 172, .tmp 173]) ?_; refine za rfl (zK rfl m2 (.cons (.same rfl) (.cons (.same rfl) .nil)) rfl) rfl ?_) | (refine zq 82 (x := #[.tmp 172, .tmp 173]) rfl ?_; refine zT rfl (by kernel_rfl) rfl (zK rfl m2 (.cons (.same rfl) (.cons (.same rfl) .nil)) rfl) rfl ?_) | (refine zp 81 (x := #[.tmp 158, .tmp 167]) ?_; refine za rfl (zK rfl x1 (.cons (.same rfl) (.cons (.same rfl) .nil)) rfl) rfl ?_) | (refine zq 81 (x := #[.tmp 158, .tmp 167]) rfl ?_; refine zT rfl (by kernel_rfl) rfl (zK rfl x1 (.cons (.same rfl) (.cons (.same rfl) .nil)) rfl) rfl ?_) | (refine zp 81 (x := #[.tmp 171, .tmp 180]) ?_; refine za rfl (zK rfl x2 (.cons (.same rfl) (.cons (.same rfl) .nil)) rfl) rfl ?_) | (refine zq 81 (x := #[.tmp 171, .tmp 180]) rfl ?_; refine zT rfl (by kernel_rfl) rfl (zK rfl x2 (.cons (.same rfl) (.cons (.same rfl) .nil)) rfl) rfl ?_) | refine zD ?_ | refine zB _ rfl (by kernel_rfl) ?_ | refine zX rfl ?_ | refine zY rfl ?_ | refine zC ?_ | with_reducible refine zO ?_ | refine zI ?_ | refine zJ ?_ | (with_reducible first | refine zM ?_ | refine zN ?_ | refine zF ?_ | refine zH ?_ | refine zG ?_) | refine zP ?_ | (refine wy ?_; refine yW rfl rfl (fun hbr => ?_) (fun hbr => ?_) <;> (fail_if_success (with_reducible (have hx : true = true := hbr))) <;> (fail_if_success (with_reducible (have hx : false = false := hbr)))) | (refine zd rfl ?_; refine yG rfl rfl rfl rfl (fun hbr => ?_) (fun hbr => ?_) <;> (fail_if_success (with_reducible (have hx : true = true := hbr))) <;> (fail_if_success (with_reducible (have hx : false = false := hbr))))
            all_goals exact yD rfl rfl (congrArg B (by rw [e3]; clear hi hj q1 q2 q3 q4; simp only [*, Bool.true_or, Bool.false_or, Bool.or_true, Bool.or_false, Bool.true_and, Bool.false_and, Bool.and_true, Bool.and_false, Bool.not_true, Bool.not_false, cond_true, cond_false]))
        · rw [h2, cond_false] at e3
          repeat' first | refine zL ?_ | refine zA ?_ | refine zQ [] ?_ | (refine isA ?_; refine zg rfl ?_) | (refine isL ?_; refine zW rfl (by kernel_rfl) rfl rfl ?_) | (refine zd rfl ?_; refine zV rfl (by kernel_rfl) rfl rfl ?_) | refine zD ?_ | refine zB _ rfl (by kernel_rfl) ?_ | refine zX rfl ?_ | refine zY rfl ?_ | refine zC ?_ | with_reducible refine zO ?_ | refine zI ?_ | refine zJ ?_ | (with_reducible first | refine zM ?_ | refine zN ?_ | refine zF ?_ | refine zH ?_ | refine zG ?_) | refine zP ?_
          refine zj rfl (fun h3 => ?_) (fun h3 => ?_)
          · rw [h3, cond_true, gm s (by omega)] at e3
            repeat' first | refine zL ?_ | refine zA ?_ | refine zQ [] ?_ | (refine isA ?_; refine zg rfl ?_) | (refine isL ?_; refine zW rfl (by kernel_rfl) rfl rfl ?_) | (refine zd rfl ?_; refine zV rfl (by kernel_rfl) rfl rfl ?_) | (refine zp 75 ?_; refine za rfl (zK rfl (wA _ _ _) (.cons (.same rfl) (.cons (.same rfl) (.cons (.same rfl) .nil))) rfl) rfl ?_) | (refine zq 75 rfl ?_; refine zT rfl (by kernel_rfl) rfl (zK rfl (wA _ _ _) (.cons (.same rfl) (.cons (.same rfl) (.cons (.same rfl) .nil))) rfl) rfl ?_) | refine zD ?_ | refine zB _ rfl (by kernel_rfl) ?_ | refine zX rfl ?_ | refine zY rfl ?_ | refine zC ?_ | with_reducible refine zO ?_ | refine zI ?_ | refine zJ ?_ | (with_reducible first | refine zM ?_ | refine zN ?_ | refine zF ?_ | refine zH ?_ | refine zG ?_) | refine zP ?_ | (refine wy ?_; refine yW rfl rfl (fun hbr => ?_) (fun hbr => ?_) <;> (fail_if_success (with_reducible (have hx : true = true := hbr))) <;> (fail_if_success (with_reducible (have hx : false = false := hbr)))) | (refine zd rfl ?_; refine yG rfl rfl rfl rfl (fun hbr => ?_) (fun hbr => ?_) <;> (fail_if_success (with_reducible (have hx : true = true := hbr))) <;> (fail_if_success (with_reducible (have hx : false = false := hbr))))
            all_goals exact yD rfl rfl (congrArg B (by rw [e3]; simp only [*, Bool.true_or, Bool.false_or, Bool.or_true, Bool.or_false, Bool.true_and, Bool.false_and, Bool.and_true, Bool.and_false, Bool.not_true, Bool.not_false, cond_true, cond_false]))
          · rw [h3, cond_false] at e3
            repeat' first | refine zL ?_ | refine zA ?_ | refine zQ [] ?_ | (refine isA ?_; refine zg rfl ?_) | (refine isL ?_; refine zW rfl (by kernel_rfl) rfl rfl ?_) | (refine zd rfl ?_; refine zV rfl (by kernel_rfl) rfl rfl ?_) | refine zD ?_ | refine zB _ rfl (by kernel_rfl) ?_ | refine zX rfl ?_ | refine zY rfl ?_ | refine zC ?_ | with_reducible refine zO ?_ | refine zI ?_ | refine zJ ?_ | (with_reducible first | refine zM ?_ | refine zN ?_ | refine zF ?_ | refine zH ?_ | refine zG ?_) | refine zP ?_
            refine zj rfl (fun h4 => ?_) (fun h4 => ?_)
            · rw [h4, cond_true, gn s] at e3
              repeat' first | refine zL ?_ | refine zA ?_ | refine zQ [] ?_ | (refine isA ?_; refine zg rfl ?_) | (refine isL ?_; refine zW rfl (by kernel_rfl) rfl rfl ?_) | (refine zd rfl ?_; refine zV rfl (by kernel_rfl) rfl rfl ?_) | refine zD ?_ | refine zB _ rfl (by kernel_rfl) ?_ | refine zX rfl ?_ | refine zY rfl ?_ | refine zC ?_ | with_reducible refine zO ?_ | refine zI ?_ | refine zJ ?_ | (with_reducible first | refine zM ?_ | refine zN ?_ | refine zF ?_ | refine zH ?_ | refine zG ?_) | refine zP ?_ | (refine wy ?_; refine yW rfl rfl (fun hbr => ?_) (fun hbr => ?_) <;> (fail_if_success (with_reducible (have hx : true = true := hbr))) <;> (fail_if_success (with_reducible (have hx : false = false := hbr)))) | (refine zd rfl ?_; refine yG rfl rfl rfl rfl (fun hbr => ?_) (fun hbr => ?_) <;> (fail_if_success (with_reducible (have hx : true = true := hbr))) <;> (fail_if_success (with_reducible (have hx : false = false := hbr))))
              all_goals exact yD rfl rfl (congrArg B (by rw [e3]; simp only [*, Bool.true_or, Bool.false_or, Bool.or_true, Bool.or_false, Bool.true_and, Bool.false_and, Bool.and_true, Bool.and_false, Bool.not_true, Bool.not_false, cond_true, cond_false]))
            · rw [h4, cond_false] at e3
              repeat' first | refine zL ?_ | refine zA ?_ | refine zQ [] ?_ | (refine isA ?_; refine zg rfl ?_) | (refine isL ?_; refine zW rfl (by kernel_rfl) rfl rfl ?_) | (refine zd rfl ?_; refine zV rfl (by kernel_rfl) rfl rfl ?_) | exact yD rfl rfl (congrArg B (by rw [e3])) | refine zD ?_ | refine zB _ rfl (by kernel_rfl) ?_ | refine zX rfl ?_ | refine zY rfl ?_ | refine zC ?_ | with_reducible refine zO ?_ | refine zI ?_ | refine zJ ?_ | (with_reducible first | refine zM ?_ | refine zN ?_ | refine zF ?_ | refine zH ?_ | refine zG ?_) | refine zP ?_
end Go.Proofs.Ytojcojanokhnaaa.Ab
namespace Go.Proofs.Ytojcojanokhnaaa.Ab
open Go.RowKit
theorem gl (s : So) (h : s.out.length ≤ 1000000000) : sJ s = (decide (s.lp = 0) && (decide (s.rp = 0) && ((decide ((s.dfr.length : Int) = 0) || decide ((0 : Int) ≤ IntKind.i64.wrap ((s.out.length : Int) - 1))) && (decide (xJ s ≤ 60) && eqB (s.runs.flatten ++ s.out ++ s.heap ++ s.dfr) (s.input.take s.pos.toNat))))) := by
  rw [mD, Bool.or_comm, show decide ((0 : Int) < (s.out.length : Int)) = decide ((0 : Int) ≤ IntKind.i64.wrap ((s.out.length : Int) - 1)) from decide_eq_decide.2 (by rw [IntKind.wrap_i64]; omega)]
theorem gk (s : So) (h1 : s.heap.length ≤ 1000000000) (h2 : s.dfr.length ≤ 1000000000) : vX s = (!(!decide (s.pos = s.input.length) || decide ((0 : Int) < IntKind.i64.wrap ((s.heap.length : Int) + (s.dfr.length : Int)))) && eqB s.runs.flatten s.input) := by
  rw [mC, show decide ((0 : Int) < IntKind.i64.wrap ((s.heap.length : Int) + (s.dfr.length : Int))) = (decide ((0 : Int) < (s.heap.length : Int)) || decide ((0 : Int) < (s.dfr.length : Int))) from by rw [← Bool.decide_or]; exact decide_eq_decide.2 (by rw [IntKind.wrap_i64]; omega)]
  generalize decide (s.pos = s.input.length) = p
  generalize decide ((0 : Int) < (s.heap.length : Int)) = q
  generalize decide ((0 : Int) < (s.dfr.length : Int)) = r
  generalize eqB s.runs.flatten s.input = t
  cases p <;> cases q <;> cases r <;> cases t <;> rfl
theorem vTail (s : So) : cond (decide (s.ph = 3)) (uV s) (cond (decide (s.ph = 4)) (uW s) false) = (!(decide ((1 : Int) < (s.runs.length : Int)) || (!decide (s.rp = 0) || decide ((0 : Int) < (s.out.length : Int)))) && cond (decide (s.ph = 3)) (decide ((s.runs.length : Int) = 1) && inV s.lp 0 ((s.input.length : Int) - 1)) (decide (s.ph = 4) && decide (s.lp = s.input.length))) := by
  unfold uV uW
  rw [show decide (s.out.length = 0) = !decide ((0 : Int) < (s.out.length : Int)) from by rw [← decide_not]; exact decide_eq_decide.2 (by omega), show decide (s.runs.length ≤ 1) = !decide ((1 : Int) < (s.runs.length : Int)) from by rw [← decide_not]; exact decide_eq_decide.2 (by omega), show decide (s.runs.length = 1) = decide ((s.runs.length : Int) = 1) from decide_eq_decide.2 (by omega)]
  rcases Classical.em ((s.runs.length : Int) = 1) with h | h
  · rw [decide_eq_true h, decide_eq_false (show ¬ (1 : Int) < (s.runs.length : Int) by omega)]
    generalize decide ((0 : Int) < (s.out.length : Int)) = q
    generalize decide (s.rp = 0) = r
    generalize inV s.lp 0 ((s.input.length : Int) - 1) = t
    generalize decide (s.lp = s.input.length) = u
    cases decide (s.ph = 3) <;> cases decide (s.ph = 4) <;> cases q <;> cases r <;> cases t <;> cases u <;> rfl
  · rw [decide_eq_false h]
    generalize decide ((1 : Int) < (s.runs.length : Int)) = p
    generalize decide ((0 : Int) < (s.out.length : Int)) = q
    generalize decide (s.rp = 0) = r
    generalize inV s.lp 0 ((s.input.length : Int) - 1) = t
    generalize decide (s.lp = s.input.length) = u
    cases decide (s.ph = 3) <;> cases decide (s.ph = 4) <;> cases p <;> cases q <;> cases r <;> cases t <;> cases u <;> rfl
theorem tL (s : So) (hok : okSo s) : zx Go.Proofs.Try.prog 18 [.agg (soE s)] [] (B (vS s)) [] false := by
  have g1 := hok.input
  have g2 := hok.heap
  have g3 := hok.dfr
  have g4 := hok.out
  have g5 := hok.rn
  have g6 := hok.tot
  have g7 := vc s.runs
  have a1 := gL s.input (by omega)
  have a2 := dJ s.runs g5
  have a3 := gK s.out (by omega)
  have a4 := ny s hok
  have a5 := (m7 s.runs g5 (by omega)).frozen (zy rfl)
  have a6 := m8 s.runs.flatten s.input (by omega) (by omega)
  refine zu [2] Go.Proofs.Try.func18 rfl rfl ?_
  simp only [Go.Proofs.Try.ntmps18, List.length_cons, List.length_nil, Nat.reduceAdd, Nat.reduceSub, List.replicate_succ, List.replicate_zero, List.cons_append, List.nil_append]
  repeat' first | refine zL ?_ | refine zA ?_ | refine zQ [] ?_ | (refine isA ?_; refine zg rfl ?_) | (refine isL ?_; refine zW rfl (by kernel_rfl) rfl rfl ?_) | (refine zd rfl ?_; refine zV rfl (by kernel_rfl) rfl rfl ?_) | (refine zp 25 ?_; refine za rfl (zK rfl a1 (.cons (.same rfl) .nil) rfl) rfl ?_) | (refine zq 25 rfl ?_; refine zT rfl (by kernel_rfl) rfl (zK rfl a1 (.cons (.same rfl) .nil) rfl) rfl ?_) | (refine zp 66 ?_; refine za rfl (zK rfl (uB _ _ _) (.cons (.same rfl) (.cons (.same rfl) (.cons (.same rfl) .nil))) rfl) rfl ?_) | (refine zq 66 rfl ?_; refine zT rfl (by kernel_rfl) rfl (zK rfl (uB _ _ _) (.cons (.same rfl) (.cons (.same rfl) (.cons (.same rfl) .nil))) rfl) rfl ?_) | (refine zp 83 ?_; refine za rfl (zK rfl a2 (.cons (.same rfl) .nil) rfl) rfl ?_) | (refine zq 83 rfl ?_; refine zT rfl (by kernel_rfl) rfl (zK rfl a2 (.cons (.same rfl) .nil) rfl) rfl ?_) | (refine zp 84 ?_; refine za rfl (zK rfl a3 (.cons (.same rfl) .nil) rfl) rfl ?_) | (refine zq 84 rfl ?_; refine zT rfl (by kernel_rfl) rfl (zK rfl a3 (.cons (.same rfl) .nil) rfl) rfl ?_) | refine zD ?_ | refine zB _ rfl (by kernel_rfl) ?_ | refine zX rfl ?_ | refine zY rfl ?_ | refine zC ?_ | with_reducible refine zO ?_ | refine zI ?_ | refine zJ ?_ | (with_reducible first | refine zM ?_ | refine zN ?_ | refine zF ?_ | refine zH ?_ | refine zG ?_) | refine zP ?_ | refine zj rfl (fun hbr => ?_) (fun hbr => ?_) | (refine wy ?_; refine yW rfl rfl (fun hbr => ?_) (fun hbr => ?_) <;> (fail_if_success (with_reducible (have hx : true = true := hbr))) <;> (fail_if_success (with_reducible (have hx : false = false := hbr)))) | (refine zd rfl ?_; refine yG rfl rfl rfl rfl (fun hbr => ?_) (fun hbr => ?_) <;> (fail_if_success (with_reducible (have hx : true = true := hbr))) <;> (fail_if_success (with_reducible (have hx : false = false := hbr))))
  all_goals first
    | exact yD rfl rfl (congrArg B (mB (by rw [mE]; simp only [*, Bool.true_or, Bool.false_or, Bool.or_true, Bool.or_false, Bool.true_and, Bool.false_and, Bool.and_true, Bool.and_false, Bool.not_true, Bool.not_false, cond_true, cond_false])).symm)
    | skip
  have hq : (avR s.input && (inV s.pos 0 s.input.length && (avS s.runs && (!decide (s.wr < 0) && vw s.out)))) = true := by
    simp only [Bool.not_eq_false'] at *
    simp only [*, Bool.true_and, Bool.not_false]
  refine z5 (α := { i : Nat // i ≤ s.heap.length ∧ ∀ j z, j < i → s.heap[j]? = some z → bel z s.out = false }) (fun i => ⟨(.any :: (.ptr 0 0) :: .any :: (I (IntKind.i64.wrap ((s.out.length : Int) - 1))) :: (I i.1) :: .any :: .any :: .any :: .any :: .any :: .any :: .any :: .any :: .any :: .any :: .any :: .any :: .any :: .any :: .any :: .any :: .any :: .any :: .any :: .any :: .any :: .any :: .any :: .any :: .any :: .any :: .any :: .any :: .any :: .any :: .any :: .any :: .any :: .any :: .any :: .any :: .any :: .any :: .any :: .any :: .any :: .any :: .any :: .any :: .any :: .any :: .any :: .any :: .any :: .any :: .any :: .any :: .any :: .any :: .any :: .any :: .any :: .any :: .any :: .any :: .any :: .any :: .any :: .any :: .any :: .any :: .any :: .any :: .any :: .any :: .any :: .any :: .any :: .any :: .any :: .any :: .any :: .any :: .any :: .any :: .any :: .any :: .any :: .any :: .any :: .any :: .any :: .any :: .any :: .any :: .any :: .any :: .any :: .any :: .any :: .any :: .any :: .any :: .any :: .any :: .any :: .any :: .any :: .any :: .any :: .any :: .any :: .any :: .any :: .any :: .any :: .any :: .any :: .any :: .any :: .any :: .any :: .any :: .any :: .any :: .any :: .any :: .any :: .any :: .any :: .any :: .any :: .any :: .any :: .any :: .any :: .any :: .any :: .any :: .any :: .any :: .any :: .any :: .any :: .any :: .any :: .any :: .any :: .any :: .any :: .any :: .any :: .any :: .any :: .any :: .any :: .any :: .any :: .any :: .any :: .any :: .any :: .any :: .any :: .any :: .any :: .any :: .any :: .any :: .any :: .any :: .any :: .any :: .any :: .any :: .any :: .any :: .any :: .any :: .any :: .any :: .any :: .any :: .any :: .any :: .any :: .any :: .any :: .any :: .any :: .any :: .any :: .any :: .any :: .any :: .any :: .any :: .any :: .any :: .any :: .any :: .any :: .any :: .any :: .any :: .any :: .any :: .any :: .any :: .any :: .any :: .any :: .any :: .any :: .any :: .any :: .any :: .any :: .any :: .any :: .any :: .any :: .any :: .any :: .any :: .any :: .any :: .any :: .any :: .any :: .any :: .any :: .any :: .any :: .any :: .any :: .any :: .any :: .any :: .any :: .any :: .any :: .any :: .any :: .any :: .any :: .any :: .any :: .any :: .any :: .any :: .any :: .any :: .any :: .any :: .any :: .any :: .any :: .any :: .any :: []), [⟨27, 10, soE s, 0⟩], 0⟩) (fun i => s.heap.length - i.1) ⟨0, Nat.zero_le _, fun j z h => absurd h (Nat.not_lt_zero j)⟩ ?_ ?_
  · exact yX [0] rfl rfl (by decide) (by repeat' first | exact HLes.nil | refine HLes.cons rfl rfl rfl rfl ?_ ?_ | exact zk | refine zc ?_ ?_ | exact zo | exact le_refl rfl | exact zm rfl rfl | exact zt rfl) (by repeat' first | exact zk | refine zc ?_ ?_ | exact zo | exact le_refl rfl | exact zm rfl rfl | exact zt rfl)
  · rintro ⟨i, hi, hb⟩
    repeat' first | refine zL ?_ | refine zA ?_ | refine zQ [] ?_ | (refine isA ?_; refine zg rfl ?_) | (refine isL ?_; refine zW rfl (by kernel_rfl) rfl rfl ?_) | (refine zd rfl ?_; refine zV rfl (by kernel_rfl) rfl rfl ?_) | refine zD ?_ | refine zB _ rfl (by kernel_rfl) ?_ | refine zX rfl ?_ | refine zY rfl ?_ | refine zC ?_ | with_reducible refine zO ?_ | refine zI ?_ | refine zJ ?_ | (with_reducible first | refine zM ?_ | refine zN ?_ | refine zF ?_ | refine zH ?_ | refine zG ?_) | refine zP ?_
    refine zj rfl (fun h => ?_) (fun h => ?_)
    · have hlt : i < s.heap.length := by simpa using h
      obtain ⟨z, hz⟩ : ∃ z, s.heap[i]? = some z := ⟨_, List.getElem?_eq_getElem hlt⟩
      repeat' first | refine zL ?_ | refine zA ?_ | refine zQ [] ?_ | (refine isA ?_; refine zg rfl ?_) | (refine isL ?_; refine zW rfl (by kernel_rfl) rfl rfl ?_) | (refine zd rfl ?_; refine zV rfl (by kernel_rfl) rfl rfl ?_) | refine zD ?_ | refine zB _ rfl (by kernel_rfl) ?_ | refine zX rfl ?_ | refine zY rfl ?_ | refine zC ?_ | with_reducible refine zO ?_ | refine zI ?_ | refine zJ ?_ | (with_reducible first | refine zM ?_ | refine zN ?_ | refine zF ?_ | refine zH ?_ | refine zG ?_) | refine zP ?_
      refine yG rfl rfl rfl rfl (fun p1 => ?_) (fun p1 => ?_)
      · have q1 : 0 < s.out.length := by have := of_decide_eq_true p1; rw [IntKind.wrap_i64] at this; omega
        obtain ⟨y, hy⟩ : ∃ z, s.out[s.out.length - 1]? = some z := ⟨_, List.getElem?_eq_getElem (by omega)⟩
        have ew : IntKind.i64.wrap ((s.out.length : Int) - 1) = ((s.out.length - 1 : Nat) : Int) := by rw [IntKind.wrap_i64]; omega
        have eb : bel z s.out = decide (y8 z y < 0) := by unfold bel; rw [hy]; rfl
        repeat' first | refine zL ?_ | refine zA ?_ | refine zQ [] ?_ | (refine isA ?_; refine zg rfl ?_) | (refine isL ?_; refine zW rfl (by kernel_rfl) rfl rfl ?_) | (refine zd rfl ?_; refine zV rfl (by kernel_rfl) rfl rfl ?_) | (refine z7 (x := .tmp 52) ?_; refine za rfl (zz (t := rwT) (z := z) rfl rfl rfl rfl (Int.natCast_nonneg i) hz) rfl ?_) | (refine z6 (x := .tmp 52) rfl ?_; refine zT rfl (by kernel_rfl) rfl (zz (t := rwT) (z := z) rfl rfl rfl rfl (Int.natCast_nonneg i) hz) rfl ?_) | (refine z7 (x := .tmp 57) ?_; refine za rfl (zz (t := rwT) (j := ((s.out.length - 1 : Nat) : Int)) (z := y) rfl rfl rfl (congrArg I ew) (Int.natCast_nonneg _) hy) rfl ?_) | (refine z6 (x := .tmp 57) rfl ?_; refine zT rfl (by kernel_rfl) rfl (zz (t := rwT) (j := ((s.out.length - 1 : Nat) : Int)) (z := y) rfl rfl rfl (congrArg I ew) (Int.natCast_nonneg _) hy) rfl ?_) | (refine zp 68 ?_; refine za rfl (zK rfl (xy z y) (.cons (.same rfl) (.cons (.same rfl) .nil)) rfl) rfl ?_) | (refine zq 68 rfl ?_; refine zT rfl (by kernel_rfl) rfl (zK rfl (xy z y) (.cons (.same rfl) (.cons (.same rfl) .nil)) rfl) rfl ?_) | refine zD ?_ | refine zB _ rfl (by kernel_rfl) ?_ | refine zX rfl ?_ | refine zY rfl ?_ | refine zC ?_ | with_reducible refine zO ?_ | refine zI ?_ | refine zJ ?_ | (with_reducible first | refine zM ?_ | refine zN ?_ | refine zF ?_ | refine zH ?_ | refine zG ?_) | refine zP ?_
        refine zj rfl (fun p => ?_) (fun p => ?_)
        · repeat' first | refine zL ?_ | refine zA ?_ | refine zQ [] ?_ | (refine isA ?_; refine zg rfl ?_) | (refine isL ?_; refine zW rfl (by kernel_rfl) rfl rfl ?_) | (refine zd rfl ?_; refine zV rfl (by kernel_rfl) rfl rfl ?_) | exact yD rfl rfl (congrArg B (mB (mc hz (eb.trans p))).symm) | refine zD ?_ | refine zB _ rfl (by kernel_rfl) ?_ | refine zX rfl ?_ | refine zY rfl ?_ | refine zC ?_ | with_reducible refine zO ?_ | refine zI ?_ | refine zJ ?_ | (with_reducible first | refine zM ?_ | refine zN ?_ | refine zF ?_ | refine zH ?_ | refine zG ?_) | refine zP ?_
        · repeat' first | refine zL ?_ | refine zA ?_ | refine zQ [] ?_ | (refine isA ?_; refine zg rfl ?_) | (refine isL ?_; refine zW rfl (by kernel_rfl) rfl rfl ?_) | (refine zd rfl ?_; refine zV rfl (by kernel_rfl) rfl rfl ?_) | refine zD ?_ | refine zB _ rfl (by kernel_rfl) ?_ | refine zX rfl ?_ | refine zY rfl ?_ | refine zC ?_ | with_reducible refine zO ?_ | refine zI ?_ | refine zJ ?_ | (with_reducible first | refine zM ?_ | refine zN ?_ | refine zF ?_ | refine zH ?_ | refine zG ?_) | refine zP ?_
          refine ⟨⟨i + 1, hlt, tc hb hz (eb.trans p)⟩, by simp only; omega, ?_⟩
          exact yX [0] rfl rfl (by decide) (by repeat' first | exact HLes.nil | refine HLes.cons rfl rfl rfl rfl ?_ ?_ | exact zk | refine zc ?_ ?_ | exact zo | exact le_refl rfl | exact zm rfl rfl | exact zt rfl) (by repeat' first | exact zk | refine zc ?_ ?_ | exact zo | exact le_refl rfl | exact zm rfl rfl | exact zt rfl | exact xa (by assumption) (by omega))
      · have q1 : s.out.length = 0 := by have := of_decide_eq_false p1; rw [IntKind.wrap_i64] at this; omega
        have eb : bel z s.out = false := by rw [List.eq_nil_of_length_eq_zero q1]; rfl
        repeat' first | refine zL ?_ | refine zA ?_ | refine zQ [] ?_ | (refine isA ?_; refine zg rfl ?_) | (refine isL ?_; refine zW rfl (by kernel_rfl) rfl rfl ?_) | (refine zd rfl ?_; refine zV rfl (by kernel_rfl) rfl rfl ?_) | refine zD ?_ | refine zB _ rfl (by kernel_rfl) ?_ | refine zX rfl ?_ | refine zY rfl ?_ | refine zC ?_ | with_reducible refine zO ?_ | refine zI ?_ | refine zJ ?_ | (with_reducible first | refine zM ?_ | refine zN ?_ | refine zF ?_ | refine zH ?_ | refine zG ?_) | refine zP ?_
        refine ⟨⟨i + 1, hlt, tc hb hz eb⟩, by simp only; omega, ?_⟩
        exact yX [0] rfl rfl (by decide) (by repeat' first | exact HLes.nil | refine HLes.cons rfl rfl rfl rfl ?_ ?_ | exact zk | refine zc ?_ ?_ | exact zo | exact le_refl rfl | exact zm rfl rfl | exact zt rfl) (by repeat' first | exact zk | refine zc ?_ ?_ | exact zo | exact le_refl rfl | exact zm rfl rfl | exact zt rfl | exact xa (by assumption) (by omega))
    · have hge : i = s.heap.length := by
        have : ¬ ((i : Int) < s.heap.length) := by simpa using h
        omega
      subst hge
      have hB := pq hq hb
      have e1 := fi hB
      have e2 := fh hB
      simp only [Bool.and_eq_true, wD] at hq
      obtain ⟨hv0, ⟨hp0, hp1⟩, hv1, hv2, hv3⟩ := hq
      repeat' first | refine zL ?_ | refine zA ?_ | refine zQ [] ?_ | (refine isA ?_; refine zg rfl ?_) | (refine isL ?_; refine zW rfl (by kernel_rfl) rfl rfl ?_) | (refine zd rfl ?_; refine zV rfl (by kernel_rfl) rfl rfl ?_) | refine zD ?_ | refine zB _ rfl (by kernel_rfl) ?_ | refine zX rfl ?_ | refine zY rfl ?_ | refine zC ?_ | with_reducible refine zO ?_ | refine zI ?_ | refine zJ ?_ | (with_reducible first | refine zM ?_ | refine zN ?_ | refine zF ?_ | refine zH ?_ | refine zG ?_) | refine zP ?_
      refine zj rfl (fun h => ?_) (fun h => ?_)
      · have e1 := e1 h
        rw [gl s (by omega)] at e1
        have hp : s.pos = ((s.pos.toNat : Nat) : Int) := by omega
        have a7 := m7 s.runs g5 (by omega)
        have a8 := m8 (s.runs.flatten ++ s.out ++ s.heap ++ s.dfr) (s.input.take s.pos.toNat) (by rw [List.length_append, List.length_append, List.length_append]; omega) (by simp; omega)
        repeat' first | refine zL ?_ | refine zA ?_ | (refine isA ?_; refine zg rfl ?_) | (refine isL ?_; refine zW rfl (by kernel_rfl) rfl rfl ?_) | (refine zd rfl ?_; refine zV rfl (by kernel_rfl) rfl rfl ?_) | refine zD ?_ | refine zB _ rfl (by kernel_rfl) ?_ | refine zX rfl ?_ | refine zY rfl ?_ | refine zC ?_ | with_reducible refine zO ?_ | refine zI ?_ | refine zJ ?_ | (with_reducible first | refine zM ?_ | refine zN ?_ | refine zF ?_ | refine zH ?_ | refine zG ?_) | refine zP ?_
        refine tO (fun H => H[0]? = some (⟨27, 10, soE s, 0⟩ : Reg)) 13 rfl ?_
        refine yQ 0 rfl rfl (by kernel_rfl) rfl (fun _ => rfl) rfl ?_
        refine xF 1 rfl rfl (by kernel_rfl) rfl (fun _ hG => xE rfl rfl hG rfl rfl) rfl ?_
        refine yQ 3 rfl rfl (by kernel_rfl) rfl (fun _ => rfl) rfl ?_
        refine xF 4 rfl rfl (by kernel_rfl) rfl (fun _ hG => xE rfl rfl hG rfl rfl) rfl ?_
        refine yQ 6 rfl rfl (by kernel_rfl) rfl (fun _ => rfl) rfl ?_
        refine xF 7 rfl rfl (by kernel_rfl) rfl (fun _ hG => xE rfl rfl hG rfl rfl) rfl ?_
        refine yQ 9 rfl rfl (by kernel_rfl) rfl (fun _ => rfl) rfl ?_
        refine xF 10 rfl rfl (by kernel_rfl) rfl (fun _ hG => xE rfl rfl hG rfl rfl) rfl ?_
        refine wY 2 (by kernel_rfl) ?_
        refine sq rfl rfl (yI rfl a7 (.cons (.same rfl) .nil) (fun q hq => by simp at hq; subst hq; exact zE _ _) rfl rfl) rfl rfl ?_
        refine wY 5 (by kernel_rfl) ?_
        refine sq rfl rfl (yU (t := rwT) (xs := s.runs.flatten) (ys := s.out) rfl rfl rfl rfl (.lst _ _) (by omega) rfl) rfl rfl ?_
        refine wY 8 (by kernel_rfl) ?_
        refine sq rfl rfl (yU (t := rwT) (xs := s.runs.flatten ++ s.out) (ys := s.heap) rfl rfl rfl rfl (.lst _ _) (by rw [List.length_append]; omega) rfl) rfl rfl ?_
        refine wY 11 (by kernel_rfl) ?_
        refine sq rfl rfl (yU (t := rwT) (xs := s.runs.flatten ++ s.out ++ s.heap) (ys := s.dfr) rfl rfl rfl rfl (.lst _ _) (by rw [List.length_append, List.length_append]; omega) rfl) rfl rfl ?_
        refine yQ 12 rfl rfl (by kernel_rfl) rfl (fun _ => rfl) rfl ?_
        refine w8 (by kernel_rfl) ?_
        repeat' first | refine zL ?_ | refine zA ?_ | refine zQ [] ?_ | (refine isA ?_; refine zg rfl ?_) | (refine isL ?_; refine zW rfl (by kernel_rfl) rfl rfl ?_) | (refine zd rfl ?_; refine zV rfl (by kernel_rfl) rfl rfl ?_) | (refine zp 20 ?_; refine za rfl (zK rfl a4 (.cons (.same rfl) .nil) rfl) rfl ?_) | (refine zq 20 rfl ?_; refine zT rfl (by kernel_rfl) rfl (zK rfl a4 (.cons (.same rfl) .nil) rfl) rfl ?_) | (refine zp 86 ?_; refine za rfl (zK rfl a8 (.cons (zy rfl) (.cons (.same rfl) .nil)) rfl) rfl ?_) | (refine zq 86 rfl ?_; refine zT rfl (by kernel_rfl) rfl (zK rfl a8 (.cons (zy rfl) (.cons (.same rfl) .nil)) rfl) rfl ?_) | (refine v7 (x := .tmp 105) ?_; refine za rfl (ym rfl rfl (congrArg I hp) (by omega)) rfl ?_) | (refine v6 (x := .tmp 105) rfl ?_; refine zT rfl (by kernel_rfl) rfl (ym rfl rfl (congrArg I hp) (by omega)) rfl ?_) | refine zD ?_ | refine zB _ rfl (by kernel_rfl) ?_ | refine zX rfl ?_ | refine zY rfl ?_ | refine zC ?_ | with_reducible refine zO ?_ | refine zI ?_ | refine zJ ?_ | (with_reducible first | refine zM ?_ | refine zN ?_ | refine zF ?_ | refine zH ?_ | refine zG ?_) | refine zP ?_ | refine zj rfl (fun hbr => ?_) (fun hbr => ?_) | (refine wy ?_; refine yW rfl rfl (fun hbr => ?_) (fun hbr => ?_) <;> (fail_if_success (with_reducible (have hx : true = true := hbr))) <;> (fail_if_success (with_reducible (have hx : false = false := hbr)))) | (refine zd rfl ?_; refine yG rfl rfl rfl rfl (fun hbr => ?_) (fun hbr => ?_) <;> (fail_if_success (with_reducible (have hx : true = true := hbr))) <;> (fail_if_success (with_reducible (have hx : false = false := hbr))))
        all_goals exact yD rfl rfl (congrArg B (by rw [e1]; clear e1 e2 hp; simp only [*, Bool.true_or, Bool.false_or, Bool.or_true, Bool.or_false, Bool.true_and, Bool.false_and, Bool.and_true, Bool.and_false, Bool.not_true, Bool.not_false, cond_true, cond_false]))
      · have e2 := e2 h
        rw [gk s (by omega) (by omega)] at e2
        repeat' first | refine zL ?_ | refine zA ?_ | refine zQ [] ?_ | (refine isA ?_; refine zg rfl ?_) | (refine isL ?_; refine zW rfl (by kernel_rfl) rfl rfl ?_) | (refine zd rfl ?_; refine zV rfl (by kernel_rfl) rfl rfl ?_) | refine zD ?_ | refine zB _ rfl (by kernel_rfl) ?_ | refine zX rfl ?_ | refine zY rfl ?_ | refine zC ?_ | with_reducible refine zO ?_ | refine zI ?_ | refine zJ ?_ | (with_reducible first | refine zM ?_ | refine zN ?_ | refine zF ?_ | refine zH ?_ | refine zG ?_) | refine zP ?_ | (refine wy ?_; refine yW rfl rfl (fun hbr => ?_) (fun hbr => ?_) <;> (fail_if_success (with_reducible (have hx : true = true := hbr))) <;> (fail_if_success (with_reducible (have hx : false = false := hbr)))) | (refine zd rfl ?_; refine yG rfl rfl rfl rfl (fun hbr => ?_) (fun hbr => ?_) <;> (fail_if_success (with_reducible (have hx : true = true := hbr))) <;> (fail_if_success (with_reducible (have hx : false = false := hbr))))
        all_goals first
          | exact yD rfl rfl (congrArg B (by rw [e2]; clear e1 e2; simp only [*, Bool.true_or, Bool.false_or, Bool.or_true, Bool.or_false, Bool.true_and, Bool.false_and, Bool.and_true, Bool.and_false, Bool.not_true, Bool.not_false, cond_true, cond_false]))
          | skip
        refine zj rfl (fun q => ?_) (fun q => ?_)
        · repeat' first | refine zL ?_ | refine zA ?_ | refine zQ [] ?_ | (refine isA ?_; refine zg rfl ?_) | (refine isL ?_; refine zW rfl (by kernel_rfl) rfl rfl ?_) | (refine zd rfl ?_; refine zV rfl (by kernel_rfl) rfl rfl ?_) | exact yD rfl rfl (congrArg B (by rw [e2]; clear e1 e2; simp only [*, Bool.true_or, Bool.false_or, Bool.or_true, Bool.or_false, Bool.true_and, Bool.false_and, Bool.and_true, Bool.and_false, Bool.not_true, Bool.not_false, cond_true, cond_false])) | refine zD ?_ | refine zB _ rfl (by kernel_rfl) ?_ | refine zX rfl ?_ | refine zY rfl ?_ | refine zC ?_ | with_reducible refine zO ?_ | refine zI ?_ | refine zJ ?_ | (with_reducible first | refine zM ?_ | refine zN ?_ | refine zF ?_ | refine zH ?_ | refine zG ?_) | refine zP ?_
        have e3 : vS s = (eqB s.runs.flatten s.input && cond (decide (s.ph = 2)) (vO s) (cond (decide (s.ph = 3)) (uV s) (cond (decide (s.ph = 4)) (uW s) false))) := by
          rw [e2]
          clear e1 e2
          simp only [*, Bool.true_or, Bool.false_or, Bool.or_true, Bool.or_false, Bool.true_and, Bool.false_and, Bool.and_true, Bool.and_false, Bool.not_true, Bool.not_false, cond_true, cond_false]
        clear e1 e2
        repeat' first | refine zL ?_ | refine zA ?_ | refine zQ [] ?_ | (refine isA ?_; refine zg rfl ?_) | (refine isL ?_; refine zW rfl (by kernel_rfl) rfl rfl ?_) | (refine zd rfl ?_; refine zV rfl (by kernel_rfl) rfl rfl ?_) | refine zD ?_ | refine zB _ rfl (by kernel_rfl) ?_ | refine zX rfl ?_ | refine zY rfl ?_ | refine zC ?_ | with_reducible refine zO ?_ | refine zI ?_ | refine zJ ?_ | (with_reducible first | refine zM ?_ | refine zN ?_ | refine zF ?_ | refine zH ?_ | refine zG ?_) | refine zP ?_
        refine zj rfl (fun h2 => ?_) (fun h2 => ?_)
        · rw [h2, cond_true] at e3
          repeat' first | refine zL ?_ | refine zA ?_ | refine zQ [] ?_ | (refine isA ?_; refine zg rfl ?_) | (refine isL ?_; refine zW rfl (by kernel_rfl) rfl rfl ?_) | (refine zd rfl ?_; refine zV rfl (by kernel_rfl) rfl rfl ?_) | refine zD ?_ | refine zB _ rfl (by kernel_rfl) ?_ | refine zX rfl ?_ | refine zY rfl ?_ | refine zC ?_ | with_reducible refine zO ?_ | refine zI ?_ | refine zJ ?_ | (with_reducible first | refine zM ?_ | refine zN ?_ | refine zF ?_ | refine zH ?_ | refine zG ?_) | refine zP ?_
          refine yG rfl rfl rfl rfl (fun h3 => ?_) (fun h3 => ?_)
          · repeat' first | refine zL ?_ | refine zA ?_ | refine zQ [] ?_ | (refine isA ?_; refine zg rfl ?_) | (refine isL ?_; refine zW rfl (by kernel_rfl) rfl rfl ?_) | (refine zd rfl ?_; refine zV rfl (by kernel_rfl) rfl rfl ?_) | exact yD rfl rfl (congrArg B (by rw [e3, pE h3, Bool.and_false])) | refine zD ?_ | refine zB _ rfl (by kernel_rfl) ?_ | refine zX rfl ?_ | refine zY rfl ?_ | refine zC ?_ | with_reducible refine zO ?_ | refine zI ?_ | refine zJ ?_ | (with_reducible first | refine zM ?_ | refine zN ?_ | refine zF ?_ | refine zH ?_ | refine zG ?_) | refine zP ?_
          · obtain ⟨a, b, rest, hr⟩ := pG h3
            rw [pF hr] at e3
            have ra : s.runs[0]? = some a := by rw [hr]; rfl
            have rb : s.runs[1]? = some b := by rw [hr]; rfl
            have la := g5.at ra
            have lb := g5.at rb
            have lab : a.length + b.length ≤ 10000000 := by rw [hr] at g6; simp only [tot, List.map_cons, List.sum_cons] at g6; omega
            repeat' first | refine zL ?_ | refine zA ?_ | refine zQ [] ?_ | (refine isA ?_; refine zg rfl ?_) | (refine isL ?_; refine zW rfl (by kernel_rfl) rfl rfl ?_) | (refine zd rfl ?_; refine zV rfl (by kernel_rfl) rfl rfl ?_) | (refine zp 66 ?_; refine za rfl (zK rfl (uB _ _ _) (.cons (.same rfl) (.cons (.same rfl) (.cons (.same rfl) .nil))) rfl) rfl ?_) | (refine zq 66 rfl ?_; refine zT rfl (by kernel_rfl) rfl (zK rfl (uB _ _ _) (.cons (.same rfl) (.cons (.same rfl) (.cons (.same rfl) .nil))) rfl) rfl ?_) | (refine z7 (x := .tmp 138) ?_; refine za rfl (zz (t := rnT) (z := a) rfl rfl rfl rfl (Int.natCast_nonneg 0) ra) rfl ?_) | (refine z6 (x := .tmp 138) rfl ?_; refine zT rfl (by kernel_rfl) rfl (zz (t := rnT) (z := a) rfl rfl rfl rfl (Int.natCast_nonneg 0) ra) rfl ?_) | (refine z7 (x := .tmp 150) ?_; refine za rfl (zz (t := rnT) (z := b) rfl rfl rfl rfl (Int.natCast_nonneg 1) rb) rfl ?_) | (refine z6 (x := .tmp 150) rfl ?_; refine zT rfl (by kernel_rfl) rfl (zz (t := rnT) (z := b) rfl rfl rfl rfl (Int.natCast_nonneg 1) rb) rfl ?_) | refine zD ?_ | refine zB _ rfl (by kernel_rfl) ?_ | refine zX rfl ?_ | refine zY rfl ?_ | refine zC ?_ | with_reducible refine zO ?_ | refine zI ?_ | refine zJ ?_ | (with_reducible first | refine zM ?_ | refine zN ?_ | refine zF ?_ | refine zH ?_ | refine zG ?_) | refine zP ?_ | (refine wy ?_; refine yW rfl rfl (fun hbr => ?_) (fun hbr => ?_) <;> (fail_if_success (with_reducible (have hx : true = true := hbr))) <;> (fail_if_success (with_reducible (have hx : false = false := hbr)))) | (refine zd rfl ?_; refine yG rfl rfl rfl rfl (fun hbr => ?_) (fun hbr => ?_) <;> (fail_if_success (with_reducible (have hx : true = true := hbr))) <;> (fail_if_success (with_reducible (have hx : false = false := hbr))))
            all_goals first
              | exact yD rfl rfl (congrArg B (by rw [e3]; simp only [*, Bool.true_or, Bool.false_or, Bool.or_true, Bool.or_false, Bool.true_and, Bool.false_and, Bool.and_true, Bool.and_false, Bool.not_true, Bool.not_false, cond_true, cond_false]))
              | skip
            refine zj rfl (fun p => ?_) (fun p => ?_)
            · repeat' first | refine zL ?_ | refine zA ?_ | refine zQ [] ?_ | (refine isA ?_; refine zg rfl ?_) | (refine isL ?_; refine zW rfl (by kernel_rfl) rfl rfl ?_) | (refine zd rfl ?_; refine zV rfl (by kernel_rfl) rfl rfl ?_) | exact yD rfl rfl (congrArg B (by rw [e3]; simp only [*, Bool.true_or, Bool.false_or, Bool.or_true, Bool.or_false, Bool.true_and, Bool.false_and, Bool.and_true, Bool.and_false, Bool.not_true, Bool.not_false, cond_true, cond_false])) | refine zD ?_ | refine zB _ rfl (by kernel_rfl) ?_ | refine zX rfl ?_ | refine zY rfl ?_ | refine zC ?_ | with_reducible refine zO ?_ | refine zI ?_ | refine zJ ?_ | (with_reducible first | refine zM ?_ | refine zN ?_ | refine zF ?_ | refine zH ?_ | refine zG ?_) | refine zP ?_
            have p1 : (!inV s.lp 0 a.length) = false := by assumption
            have p1 : inV s.lp 0 a.length = true := by simpa using p1
            have p2 : inV s.rp 0 b.length = true := by simpa using p
            rw [p1, p2] at e3
            simp only [Bool.true_or, Bool.false_or, Bool.or_true, Bool.or_false, Bool.true_and, Bool.false_and, Bool.and_true, Bool.and_false, Bool.not_true, Bool.not_false, cond_true, cond_false] at e3
            obtain ⟨q1, q2⟩ := wD.1 p1
            obtain ⟨q3, q4⟩ := wD.1 p2
            obtain ⟨i, hi⟩ := Int.eq_ofNat_of_zero_le q1
            obtain ⟨j, hj⟩ := Int.eq_ofNat_of_zero_le q3
            have ei : s.lp.toNat = i := by omega
            have ej : s.rp.toNat = j := by omega
            rw [ei, ej] at e3
            have w1 : IntKind.i64.wrap (s.lp + s.rp) = ((i + j : Nat) : Int) := by rw [hi, hj, IntKind.wrap_i64]; omega
            have li : (a.take i).length ≤ 100000000 := by simp; omega
            have lj : (b.take j).length ≤ 100000000 := by simp; omega
            have m1 := (eL (a.take i) (b.take j) li lj).frozen (zy rfl)
            have m2 := (eL a b (by omega) (by omega)).frozen (zy rfl)
            have n2 := tZ a b
            have n1 := tZ (a.take i) (b.take j)
            have x1 := nI (mgV (a.take i) (b.take j)) s.out (by omega)
            rw [show xj (mgV (a.take i) (b.take j)) s.out = xj s.out (mgV (a.take i) (b.take j)) from by rw [Bool.eq_iff_iff, vd, vd]; exact eq_comm] at x1
            have x2 := nI s.out ((mgV a b).take (i + j)) (by omega)
            generalize mgV (a.take i) (b.take j) = M1 at m1 x1 e3 n1
            generalize mgV a b = M2 at m2 x2 e3 n2
            repeat' first | refine zL ?_ | refine zA ?_ | refine zQ [] ?_ | (refine isA ?_; refine zg rfl ?_) | (refine isL ?_; refine zW rfl (by kernel_rfl) rfl rfl ?_) | (refine zd rfl ?_; refine zV rfl (by kernel_rfl) rfl rfl ?_) | (refine v7 (x := .tmp 162) ?_; refine za rfl (ym rfl rfl (congrArg I hi) (by omega)) rfl ?_) | (refine v6 (x := .tmp 162) rfl ?_; refine zT rfl (by kernel_rfl) rfl (ym rfl rfl (congrArg I hi) (by omega)) rfl ?_) | (refine v7 (x := .tmp 170) ?_; refine za rfl (ym rfl rfl (congrArg I hj) (by omega)) rfl ?_) | (refine v6 (x := .tmp 170) rfl ?_; refine zT rfl (by kernel_rfl) rfl (ym rfl rfl (congrArg I hj) (by omega)) rfl ?_) | (refine v7 (x := .tmp 187) ?_; refine za rfl (ym rfl rfl (congrArg I w1) (by omega)) rfl ?_) | (refine v6 (x := .tmp 187) rfl ?_; refine zT rfl (by kernel_rfl) rfl (ym rfl rfl (congrArg I w1) (by omega)) rfl ?_) | (refine z7 (x := .tmp 159) ?_; refine za rfl (zz (t := rnT) (z := a) rfl rfl rfl rfl (Int.natCast_nonneg 0) ra) rfl ?_) | (refine z6 (x := .tmp 159) rfl ?_; refine zT rfl (by kernel_rfl) rfl (zz (t := rnT) (z := a) rfl rfl rfl rfl (Int.natCast_nonneg 0) ra) rfl ?_) | (refine z7 (x := .tmp 167) ?_; refine za rfl (zz (t := rnT) (z := b) rfl rfl rfl rfl (Int.natCast_nonneg 1) rb) rfl ?_) | (refine z6 (x := .tmp 167) rfl ?_; refine zT rfl (by kernel_rfl) rfl (zz (t := rnT) (z := b) rfl rfl rfl rfl (Int.natCast_nonneg 1) rb) rfl ?_) | (refine z7 (x := .tmp 178) ?_; refine za rfl (zz (t := rnT) (z := a) rfl rfl rfl rfl (Int.natCast_nonneg 0) ra) rfl ?_) | (refine z6 (x := .tmp 178) rfl ?_; refine zT rfl (by kernel_rfl) rfl (zz (t := rnT) (z := a) rfl rfl rfl rfl (Int.natCast_nonneg 0) ra) rfl ?_) | (refine z7 (x := .tmp 183) ?_; refine za rfl (zz (t := rnT) (z := b) rfl rfl rfl rfl (Int.natCast_nonneg 1) rb) rfl ?_) | (refine z6 (x := .tmp 183) rfl ?_; refine zT rfl (by kernel_rfl) rfl (zz (t := rnT) (z := b) rfl rfl rfl rfl (Int.natCast_nonneg 1) rb) rfl ?_) | (refine zp 87 (x := #[.tmp 165, .tmp 173]) ?_; refine za rfl (zK rfl m1 (.cons (.same rfl) (.cons (.same rfl) .nil)) rfl) rfl ?_) | (refine zq 87 (x := #[.tmp 165, .tmp 173]) rfl ?_; refine zT rfl (by kernel_rfl) rfl (zK rfl m1 (.cons (.same rfl) (.cons (.same rfl) .nil)) rfl) rfl ?_) | (refine zp 87 (x := #[.tmp 181, .tmp 186]) ?_; refine za rfl (zK rfl m2 (.cons (.same rfl) (.cons (.same rfl) .nil)) rfl) rfl ?_) | (refine zq 87 (x := #[.tmp 181, .tmp 186]) rfl ?_; refine zT rfl (by kernel_rfl) rfl (zK rfl m2 (.cons (.same rfl) (.cons (.same rfl) .nil)) rfl) rfl ?_) | (refine zp 72 (x := #[.tmp 196, .tmp 198]) ?_; refine za rfl (zK rfl x1 (.cons (.same rfl) (.cons (.same rfl) .nil)) rfl) rfl ?_) | (refine zq 72 (x := #[.tmp 196, .tmp 198]) rfl ?_; refine zT rfl (by kernel_rfl) rfl (zK rfl x1 (.cons (.same rfl) (.cons (.same rfl) .nil)) rfl) rfl ?_) | (refine zp 72 (x := #[.tmp 176, .tmp 193]) ?_; refine za rfl (zK rfl x2 (.cons (.same rfl) (.cons (.same rfl) .nil)) rfl) rfl ?_) | (refine zq 72 (x := #[.tmp 176, .tmp 193]) rfl ?_; refine zT rfl (by kernel_rfl) rfl (zK rfl x2 (.cons (.same rfl) (.cons (.same rfl) .nil)) rfl) rfl ?_) | (refine zp 85 ?_; refine za rfl (zK rfl a5 (.cons (.same rfl) .nil) rfl) rfl ?_) | (refine zq 85 rfl ?_; refine zT rfl (by kernel_rfl) rfl (zK rfl a5 (.cons (.same rfl) .nil) rfl) rfl ?_) | (refine zp 86 ?_; refine za rfl (zK rfl a6 (.cons (.same rfl) (.cons (.same rfl) .nil)) rfl) rfl ?_) | (refine zq 86 rfl ?_; refine zT rfl (by kernel_rfl) rfl (zK rfl a6 (.cons (.same rfl) (.cons (.same rfl) .nil)) rfl) rfl ?_) | refine zD ?_ | refine zB _ rfl (by kernel_rfl) ?_ | refine zX rfl ?_ | refine zY rfl ?_ | refine zC ?_ | with_reducible refine zO ?_ | refine zI ?_ | refine zJ ?_ | (with_reducible first | refine zM ?_ | refine zN ?_ | refine zF ?_ | refine zH ?_ | refine zG ?_) | refine zP ?_ | (refine wy ?_; refine yW rfl rfl (fun hbr => ?_) (fun hbr => ?_) <;> (fail_if_success (with_reducible (have hx : true = true := hbr))) <;> (fail_if_success (with_reducible (have hx : false = false := hbr)))) | (refine zd rfl ?_; refine yG rfl rfl rfl rfl (fun hbr => ?_) (fun hbr => ?_) <;> (fail_if_success (with_reducible (have hx : true = true := hbr))) <;> (fail_if_success (with_reducible (have hx : false = false := hbr))))
            all_goals exact yD rfl rfl (congrArg B (by rw [e3]; clear hi hj q1 q2 q3 q4; simp only [*, Bool.true_or, Bool.false_or, Bool.or_true, Bool.or_false, Bool.true_and, Bool.false_and, Bool.and_true, Bool.and_false, Bool.not_true, Bool.not_false, cond_true, cond_false]))
        · rw [h2, cond_false, vTail] at e3
          repeat' first | refine zL ?_ | refine zA ?_ | refine zQ [] ?_ | (refine isA ?_; refine zg rfl ?_) | (refine isL ?_; refine zW rfl (by kernel_rfl) rfl rfl ?_) | (refine zd rfl ?_; refine zV rfl (by kernel_rfl) rfl rfl ?_) | (refine zp 85 ?_; refine za rfl (zK rfl a5 (.cons (.same rfl) .nil) rfl) rfl ?_) | (refine zq 85 rfl ?_; refine zT rfl (by kernel_rfl) rfl (zK rfl a5 (.cons (.same rfl) .nil) rfl) rfl ?_) | (refine zp 86 ?_; refine za rfl (zK rfl a6 (.cons (.same rfl) (.cons (.same rfl) .nil)) rfl) rfl ?_) | (refine zq 86 rfl ?_; refine zT rfl (by kernel_rfl) rfl (zK rfl a6 (.cons (.same rfl) (.cons (.same rfl) .nil)) rfl) rfl ?_) | refine zD ?_ | refine zB _ rfl (by kernel_rfl) ?_ | refine zX rfl ?_ | refine zY rfl ?_ | refine zC ?_ | with_reducible refine zO ?_ | refine zI ?_ | refine zJ ?_ | (with_reducible first | refine zM ?_ | refine zN ?_ | refine zF ?_ | refine zH ?_ | refine zG ?_) | refine zP ?_ | (refine wy ?_; refine yW rfl rfl (fun hbr => ?_) (fun hbr => ?_) <;> (fail_if_success (with_reducible (have hx : true = true := hbr))) <;> (fail_if_success (with_reducible (have hx : false = false := hbr)))) | (refine zd rfl ?_; refine yG rfl rfl rfl rfl (fun hbr => ?_) (fun hbr => ?_) <;> (fail_if_success (with_reducible (have hx : true = true := hbr))) <;> (fail_if_success (with_reducible (have hx : false = false := hbr))))
          all_goals first
            | exact yD rfl rfl (congrArg B (by rw [e3]; simp only [*, Bool.true_or, Bool.false_or, Bool.or_true, Bool.or_false, Bool.true_and, Bool.false_and, Bool.and_true, Bool.and_false, Bool.not_true, Bool.not_false, cond_true, cond_false]))
            | skip
          refine zj rfl (fun q => ?_) (fun q => ?_)
          · repeat' first | refine zL ?_ | refine zA ?_ | refine zQ [] ?_ | (refine isA ?_; refine zg rfl ?_) | (refine isL ?_; refine zW rfl (by kernel_rfl) rfl rfl ?_) | (refine zd rfl ?_; refine zV rfl (by kernel_rfl) rfl rfl ?_) | exact yD rfl rfl (congrArg B (by rw [e3]; simp only [Bool.not_eq_true'] at q; rw [q, Bool.false_and])) | refine zD ?_ | refine zB _ rfl (by kernel_rfl) ?_ | refine zX rfl ?_ | refine zY rfl ?_ | refine zC ?_ | with_reducible refine zO ?_ | refine zI ?_ | refine zJ ?_ | (with_reducible first | refine zM ?_ | refine zN ?_ | refine zF ?_ | refine zH ?_ | refine zG ?_) | refine zP ?_
          have q2 : eqB s.runs.flatten s.input = true := by simpa using q
          have w1 : IntKind.i64.wrap ((s.input.length : Int) - 1) = (s.input.length : Int) - 1 := by rw [IntKind.wrap_i64]; omega
          rw [q2, ← w1] at e3
          repeat' first | refine zL ?_ | refine zA ?_ | refine zQ [] ?_ | (refine isA ?_; refine zg rfl ?_) | (refine isL ?_; refine zW rfl (by kernel_rfl) rfl rfl ?_) | (refine zd rfl ?_; refine zV rfl (by kernel_rfl) rfl rfl ?_) | refine zD ?_ | refine zB _ rfl (by kernel_rfl) ?_ | refine zX rfl ?_ | refine zY rfl ?_ | refine zC ?_ | with_reducible refine zO ?_ | refine zI ?_ | refine zJ ?_ | (with_reducible first | refine zM ?_ | refine zN ?_ | refine zF ?_ | refine zH ?_ | refine zG ?_) | refine zP ?_
          refine zj rfl (fun h3 => ?_) (fun h3 => ?_)
          · rw [h3, cond_true] at e3
            repeat' first | refine zL ?_ | refine zA ?_ | refine zQ [] ?_ | (refine isA ?_; refine zg rfl ?_) | (refine isL ?_; refine zW rfl (by kernel_rfl) rfl rfl ?_) | (refine zd rfl ?_; refine zV rfl (by kernel_rfl) rfl rfl ?_) | (refine zp 66 ?_; refine za rfl (zK rfl (uB _ _ _) (.cons (.same rfl) (.cons (.same rfl) (.cons (.same rfl) .nil))) rfl) rfl ?_) | (refine zq 66 rfl ?_; refine zT rfl (by kernel_rfl) rfl (zK rfl (uB _ _ _) (.cons (.same rfl) (.cons (.same rfl) (.cons (.same rfl) .nil))) rfl) rfl ?_) | refine zD ?_ | refine zB _ rfl (by kernel_rfl) ?_ | refine zX rfl ?_ | refine zY rfl ?_ | refine zC ?_ | with_reducible refine zO ?_ | refine zI ?_ | refine zJ ?_ | (with_reducible first | refine zM ?_ | refine zN ?_ | refine zF ?_ | refine zH ?_ | refine zG ?_) | refine zP ?_ | (refine wy ?_; refine yW rfl rfl (fun hbr => ?_) (fun hbr => ?_) <;> (fail_if_success (with_reducible (have hx : true = true := hbr))) <;> (fail_if_success (with_reducible (have hx : false = false := hbr)))) | (refine zd rfl ?_; refine yG rfl rfl rfl rfl (fun hbr => ?_) (fun hbr => ?_) <;> (fail_if_success (with_reducible (have hx : true = true := hbr))) <;> (fail_if_success (with_reducible (have hx : false = false := hbr))))
            all_goals exact yD rfl rfl (congrArg B (by rw [e3]; clear w1; simp only [*, Bool.true_or, Bool.false_or, Bool.or_true, Bool.or_false, Bool.true_and, Bool.false_and, Bool.and_true, Bool.and_false, Bool.not_true, Bool.not_false, cond_true, cond_false]))
          · rw [h3, cond_false] at e3
            repeat' first | refine zL ?_ | refine zA ?_ | refine zQ [] ?_ | (refine isA ?_; refine zg rfl ?_) | (refine isL ?_; refine zW rfl (by kernel_rfl) rfl rfl ?_) | (refine zd rfl ?_; refine zV rfl (by kernel_rfl) rfl rfl ?_) | refine zD ?_ | refine zB _ rfl (by kernel_rfl) ?_ | refine zX rfl ?_ | refine zY rfl ?_ | refine zC ?_ | with_reducible refine zO ?_ | refine zI ?_ | refine zJ ?_ | (with_reducible first | refine zM ?_ | refine zN ?_ | refine zF ?_ | refine zH ?_ | refine zG ?_) | refine zP ?_ | (refine wy ?_; refine yW rfl rfl (fun hbr => ?_) (fun hbr => ?_) <;> (fail_if_success (with_reducible (have hx : true = true := hbr))) <;> (fail_if_success (with_reducible (have hx : false = false := hbr)))) | (refine zd rfl ?_; refine yG rfl rfl rfl rfl (fun hbr => ?_) (fun hbr => ?_) <;> (fail_if_success (with_reducible (have hx : true = true := hbr))) <;> (fail_if_success (with_reducible (have hx : false = false := hbr))))
            all_goals exact yD rfl rfl (congrArg B (by rw [e3]; clear w1; simp only [*, Bool.true_or, Bool.false_or, Bool.or_true, Bool.or_false, Bool.true_and, Bool.false_and, Bool.and_true, Bool.and_false, Bool.not_true, Bool.not_false, cond_true, cond_false]))
end Go.Proofs.Ytojcojanokhnaaa.Ab
namespace Go.Proofs.Ytojcojanokhnaaa.Ab
open Go.RowKit
def rmV (s : So) : Int := cond (vS s) (remV s) 0
end Go.Proofs.Ytojcojanokhnaaa.Ab
namespace Go.Proofs.Ytojcojanokhnaaa.Ab
open Go.RowKit
section
variable {P : Program}
def deadR (r : Reg) : Reg := { r with mode := 2 }
end
theorem xK {P : Program} (id : Nat) {ops : Array Oper} {b : Bool} {y : Code} {Q : Exit → St → Prop} {S : St} (T : St) (h : AW P (.region id ops b) (fun e S' => e = .normal ∧ Sub T S') S) (k : AW P y Q T) : AW P (.seq (.region id ops b) y) Q S :=
  zL ⟨fun C φ a w hI => wp_mono (h.out C φ a w hI) fun e a' w' hq => by
    obtain ⟨S', φ1, hI', he, hs⟩ := hq
    subst he
    obtain ⟨φ2, h2⟩ := hs C φ1 a' w' hI'
    exact ⟨T, φ2, h2, k⟩⟩
@[irreducible] def Hold (p : Prop) : Prop := p
theorem y3 {p : Prop} (h : Hold p) : p := by unfold Hold at h; exact h
theorem xY {p : Prop} (h : p) : Hold p := by unfold Hold; exact h
end Go.Proofs.Ytojcojanokhnaaa.Ab
namespace Go.Proofs.Ytojcojanokhnaaa.Ab
open Go.RowKit
theorem fJ {l : List V} {H : List Reg} {al : Bool} {t : Tmp} {us : List Tmp} {n : Nat} {v r : V} {K : List Reg} (ψ : List Nat) (hv : CellIs l H t n v) (hr : Le ψ r (.tup (v :: us.map fun u => (l[u]?).getD .any))) (hH : HLe ψ K H) (hal : al = true ∨ (tE r = true ∧ ∀ q ∈ K, q.mode ≠ 1 ∧ (q.mode = 0 → vf q.cells))) :
    (Exit.ret = .ret ∨ Exit.ret = .normal) ∧ ∃ v, CellIs l H t n v ∧ Out al r K (.tup (v :: us.map fun u => (l[u]?).getD .any)) ⟨l, H, 0⟩ := ⟨Or.inl rfl, v, hv, u6 (S := ⟨l, H, 0⟩) ψ (fun i hi => absurd hi (Nat.not_lt_zero _)) hH hr hal⟩
def nX (ix : List Nat) (rs : List Rn) : List V := List.zipWith (fun i x => V.sl i 0 x.length) ix rs
theorem kj : ∀ (b : Nat) (rs : List Rn), nC b rs = nX (List.range' b rs.length) rs
  | _, [] => rfl
  | b, x :: rs => by
    show V.sl b 0 x.length :: nC (b + 1) rs = _
    rw [kj (b + 1) rs]
    rfl
theorem kg {ix jx : List Nat} {rs ss : List Rn} (h : ix.length = rs.length) : nX (ix ++ jx) (rs ++ ss) = nX ix rs ++ nX jx ss := by
  unfold nX
  exact List.zipWith_append h
theorem nq {ψ : List Nat} : ∀ {b : Nat} {ix : List Nat} {rs : List Rn}, ix.length = rs.length → (∀ j, j < rs.length → ψ[b + j]? = ix[j]?) → Les ψ (nC b rs) (nX ix rs)
  | b, ix, [], hl, h => by
    rw [List.eq_nil_of_length_eq_zero hl]
    exact zk
  | b, [], x :: rs, hl, h => by simp at hl
  | b, i :: ix, x :: rs, hl, h => by
    refine zc (zm (by have := h 0 (by simp); simpa using this) rfl) (nq (by simpa using hl) fun j hj => ?_)
    have := h (j + 1) (by simp; omega)
    rw [show b + 1 + j = b + (j + 1) by omega]
    simpa using this
theorem qE {H : List Reg} {hs ix : List Nat} {K1 : List Reg} {rs : List Rn} (hl : ix.length = rs.length) (hn : (hs ++ ix).Nodup) (h1 : HLes (hs ++ ix) H hs K1) (h2 : ∀ (j i : Nat) (x : Rn), ix[j]? = some i → rs[j]? = some x → H[i]? = some (rwR x)) :
    HLe (hs ++ ix) (K1 ++ nR rwT 78 rs) H := by
  obtain ⟨e1, e2⟩ := h1.get
  refine ⟨by simp [e1, nR, hl], hn, fun i h hi => ?_⟩
  rcases Nat.lt_or_ge i hs.length with hlt | hge
  · rw [List.getElem?_append_left hlt] at hi
    obtain ⟨r, r', q1, q2, q3⟩ := e2 i h hi
    exact ⟨r, r', zZ q1, q2, q3⟩
  · rw [List.getElem?_append_right hge] at hi
    have hlt := (List.getElem?_eq_some_iff.1 hi).1
    obtain ⟨x, hx⟩ : ∃ z, rs[i - hs.length]? = some z := ⟨_, List.getElem?_eq_getElem (by omega)⟩
    refine ⟨rwR x, rwR x, ?_, h2 _ _ _ hi hx, fun _ => ⟨rfl, rfl, rfl, zU (zE _ _)⟩⟩
    rw [List.getElem?_append_right (by omega), ← e1]
    exact yV hx
theorem kc (hs ix : List Nat) (j : Nat) : (hs ++ ix)[hs.length + j]? = ix[j]? := by
  rw [List.getElem?_append_right (Nat.le_add_right _ _), Nat.add_sub_cancel_left]
theorem vB (b n : Nat) (s : So) : (soR b s).map (shR n) = soR (b + n) s := by
  have h : ∀ xs : List Rw, shR n (rwR xs) = rwR xs := fun xs => by
    show ({ rwR xs with cells := wW n (rwT.flat xs) } : Reg) = rwR xs
    rw [yA n (yM (zE rwT xs))]
  rw [List.map_cons, List.map_cons, List.map_cons, List.map_cons, List.map_cons, h, h, h, h, kh]
  simp only [shR, tz, Nat.add_right_comm b 5 n]
theorem vP (b n : Nat) (s : So) : shV n (.agg (soO b s)) = .agg (soO (b + n) s) := by
  simp only [shV, wW, Nat.add_right_comm]
abbrev zS : List V := [xx, I 0, xx, xx, xx, xx, I 0, I 0, I 0, I 0]
abbrev bxS (cs : List V) : Reg := ⟨27, 10, cs, 0⟩
abbrev stH (s t : So) (r : List Rw) : List Reg := bxS (soE s) :: bxS zS :: bxS (soO 4 t) :: rwR r :: soR 4 t
theorem qN (g : Int) : zx Go.Proofs.Try.prog 57 [I g] [] (B (inV g 8 60)) [] false := by
  refine zu [2] Go.Proofs.Try.func57 rfl rfl ?_
  simp only [Go.Proofs.Try.ntmps57, List.length_cons, List.length_nil, Nat.reduceAdd, Nat.reduceSub, List.replicate_succ, List.replicate_zero, List.cons_append, List.nil_append]
  repeat' first | refine zL ?_ | refine zA ?_ | refine zQ [] ?_ | (refine isA ?_; refine zg rfl ?_) | (refine isL ?_; refine zW rfl (by kernel_rfl) rfl rfl ?_) | (refine zd rfl ?_; refine zV rfl (by kernel_rfl) rfl rfl ?_) | (refine zp 75 ?_; refine za rfl (zK rfl (wA g 8 60) (.cons (.same rfl) (.cons (.same rfl) (.cons (.same rfl) .nil))) rfl) rfl ?_) | (refine zq 75 rfl ?_; refine zT rfl (by kernel_rfl) rfl (zK rfl (wA g 8 60) (.cons (.same rfl) (.cons (.same rfl) (.cons (.same rfl) .nil))) rfl) rfl ?_) | exact yD rfl rfl rfl | refine zD ?_ | refine zB _ rfl (by kernel_rfl) ?_ | refine zX rfl ?_ | refine zY rfl ?_ | refine zC ?_ | with_reducible refine zO ?_ | refine zI ?_ | refine zJ ?_ | (with_reducible first | refine zM ?_ | refine zN ?_ | refine zF ?_ | refine zH ?_ | refine zG ?_) | refine zP ?_
abbrev stL (s : So) (g : Int) (n : Nat) : List V := (.any :: (I g) :: (.ptr 0 0) :: .any :: (.ptr 1 0) :: .any :: .any :: (.ptr 2 0) :: (.sl 3 0 n) :: .any :: .any :: .any :: .any :: .any :: .any :: .any :: .any :: .any :: .any :: .any :: .any :: .any :: .any :: .any :: .any :: .any :: .any :: .any :: .any :: .any :: .any :: .any :: .any :: .any :: .any :: .any :: .any :: .any :: .any :: .any :: .any :: .any :: .any :: .any :: .any :: .any :: .any :: .any :: .any :: .any :: .any :: .any :: .any :: .any :: .any :: .any :: .any :: .any :: .any :: .any :: .any :: .any :: .any :: .any :: .any :: .any :: .any :: .any :: .any :: .any :: .any :: .any :: .any :: .any :: .any :: .any :: .any :: .any :: .any :: .any :: .any :: .any :: .any :: .any :: .any :: .any :: .any :: .any :: .any :: .any :: .any :: .any :: .any :: .any :: .any :: .any :: .any :: .any :: .any :: .any :: .any :: .any :: .any :: .any :: .any :: .any :: .any :: .any :: .any :: .any :: .any :: .any :: .any :: .any :: .any :: .any :: .any :: .any :: .any :: .any :: .any :: .any :: .any :: .any :: .any :: .any :: .any :: .any :: .any :: .any :: .any :: .any :: .any :: .any :: .any :: .any :: .any :: .any :: .any :: .any :: .any :: .any :: .any :: .any :: .any :: .any :: .any :: .any :: .any :: .any :: .any :: .any :: .any :: .any :: .any :: .any :: .any :: .any :: .any :: .any :: .any :: .any :: .any :: .any :: .any :: .any :: .any :: .any :: .any :: .any :: .any :: .any :: .any :: .any :: .any :: .any :: .any :: .any :: .any :: .any :: .any :: .any :: .any :: .any :: .any :: .any :: .any :: .any :: .any :: .any :: .any :: .any :: .any :: .any :: .any :: .any :: .any :: .any :: .any :: .any :: .any :: .any :: .any :: .any :: .any :: .any :: .any :: .any :: .any :: .any :: .any :: .any :: .any :: .any :: .any :: .any :: .any :: .any :: .any :: .any :: .any :: .any :: .any :: .any :: .any :: .any :: .any :: .any :: .any :: .any :: .any :: .any :: .any :: .any :: .any :: .any :: .any :: .any :: .any :: .any :: .any :: .any :: .any :: .any :: .any :: .any :: .any :: .any :: .any :: [])
abbrev stT (s t : So) (g : Int) (r : List Rw) : St := ⟨stL s g r.length, stH s t r, 0⟩
noncomputable def uk : Code := match (Go.Proofs.Try.f13).body with
  | some (.seq _ (.seq _ (.seq _ (.seq _ (.seq m _))))) => m
  | _ => .skip
theorem v9 {a0 a1 a2 a3 a4 a5 a6 a7 a8 x : Reg} {L : List Reg} {j : Nat} (h : L[j]? = some x) : (a0 :: a1 :: a2 :: a3 :: a4 :: a5 :: a6 :: a7 :: a8 :: L)[9 + j]? = some x := by
  rw [Nat.add_comm]; exact h
theorem wx {H : List Reg} {s : So} {h1 h2 h3 h4 h5 b : Nat} (e1 : H[h1]? = some (rwR s.input)) (e2 : H[h2]? = some (rwR s.heap)) (e3 : H[h3]? = some (rwR s.dfr)) (e4 : H[h4]? = some (rwR s.out)) (e5 : H[h5]? = some ⟨84, 1, nC b s.runs, 0⟩) (e6 : ∀ j x, s.runs[j]? = some x → H[b + j]? = some (rwR x)) :
    Pur true H (.agg [.sl h1 0 s.input.length, I s.pos, .sl h2 0 s.heap.length, .sl h3 0 s.dfr.length, .sl h4 0 s.out.length, .sl h5 0 s.runs.length, I s.lp, I s.rp, I s.ph, I s.wr]) (.agg (soE s)) :=
  .agg (.cons (zy e1) (.cons (.same rfl) (.cons (zy e2) (.cons (zy e3) (.cons (zy e4) (.cons (ka e5 e6) (.cons (.same rfl) (.cons (.same rfl) (.cons (.same rfl) (.cons (.same rfl) .nil))))))))))
theorem z1 {a0 a1 a2 a3 a4 a5 a6 a7 a8 x : Reg} {L : List Reg} {j : Nat} (h : L[j]? = some x) : (a0 :: a1 :: a2 :: a3 :: a4 :: a5 :: a6 :: a7 :: a8 :: L)[j + 9]? = some x := h
theorem qd {cs vs : List V} (h : vs.length = cs.length) : yT cs 0 vs = vs := by
  unfold yT
  rw [List.take_zero, List.nil_append, Nat.zero_add, h, List.drop_length, List.append_nil]
theorem xh {P : Program} {o : Oper} {ρ : Operand → V} {L : List Reg} {N : Reg} {h t n : Nat} {x y : Operand} {vs : List V} [ht : Ag P t n] (ho : o.op = .store t x y) (hx : ρ x = .ptr h 0) (hL : L.length = h) (hy : ρ y = .agg vs) (hn : vs.length = n) (h1 : ∀ c ∈ vs, vk c = true) (hm : N.mode = 0) (hc : N.cells.length = n) : z4 P o ρ (L ++ [N]) (.k undef) (L ++ [{ N with cells := vs }]) := by
  have := yF (P := P) (o := o) (ρ := ρ) (H := L ++ [N]) ho hx hy hn h1 (zb hL) hm (by omega)
  rw [wo hL, qd (by omega)] at this
  exact this
theorem yL {P : Program} {o : Oper} {ρ : Operand → V} {H : List Reg} {N : Reg} {h t n : Nat} {x : Operand} [ht : Ag P t n] (ho : o.op = .load t x) (hx : ρ x = .ptr h 0) (hH : H[h]? = some N) (hm : Nat.ble N.mode 1 = true) (hc : N.cells.length = n) : z4 P o ρ H (.agg N.cells) H := by
  have := wN (P := P) (o := o) (n := n) (ρ := ρ) (H := H) ho hx hH (Nat.le_of_ble_eq_true hm) (by omega : 0 + n ≤ N.cells.length)
  rw [List.drop_zero, List.take_of_length_le (by omega)] at this
  exact this
theorem wh (r : Rw) : ∀ c ∈ rwE r, vk c = true := fun c hc => by
  simp only [rwE, List.mem_cons, List.not_mem_nil, or_false] at hc
  rcases hc with rfl | rfl | rfl <;> rfl
theorem wV {s t : So} {r : List Rw} {l lT : List V} {H : List Reg} (hs ix : List Nat) (hl9 : hs.length = 9) (hl : ix.length = t.runs.length) (hn : (hs ++ ix).Nodup)
    (h1 : HLes (hs ++ ix) H hs [bxS (soE s), bxS zS, bxS (soO 4 t), rwR r, rwR t.input, rwR t.heap, rwR t.dfr, rwR t.out, ⟨84, 1, nC 9 t.runs, 0⟩]) (h2 : ∀ (j i : Nat) (x : Rn), ix[j]? = some i → t.runs[j]? = some x → H[i]? = some (rwR x))
    (ht : Les (hs ++ ix) lT l) : Sub ⟨lT, stH s t r, 0⟩ ⟨l, H, 0⟩ := by
  have := qE hl hn h1 h2
  exact vz (T := ⟨lT, stH s t r, 0⟩) (S := ⟨l, H, 0⟩) (hs ++ ix) rfl (fun i hi => absurd hi (Nat.not_lt_zero _)) this ht
theorem xH {rs : List Rn} {e : TypeId} : (nR rwT e rs).length = rs.length := by simp [zh]
theorem y7 {rs : List Rn} {e : TypeId} {N : Reg} : (nR rwT e rs ++ [N]).length = rs.length + 1 := by simp [zh]
theorem y6 {rs : List Rn} {e : TypeId} {N M : Reg} : (nR rwT e rs ++ [N] ++ [M]).length = rs.length + 2 := by simp [zh]
theorem xG {rs : List Rn} {e : TypeId} {N M O : Reg} : (nR rwT e rs ++ [N] ++ [M] ++ [O]).length = rs.length + 3 := by simp [zh]
theorem ix9 {n j i : Nat} (h : (List.range' 9 n)[j]? = some i) : i = 9 + j := by
  rw [List.getElem?_range'] at h
  · have := Option.some.inj h; omega
  · exact Nat.lt_of_not_le fun hn => by rw [List.getElem?_eq_none (by simpa using hn)] at h; cases h
def stQ (s x : So) (g : Int) (r : List Rw) : Exit → St → Prop := fun e S' => e = .normal ∧ Sub (stT s x g r) S'
end Go.Proofs.Ytojcojanokhnaaa.Ab
