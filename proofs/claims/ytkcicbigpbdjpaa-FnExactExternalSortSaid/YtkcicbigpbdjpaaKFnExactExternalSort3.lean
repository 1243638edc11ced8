-- merged by pack.py out of Px13 (words: printed by the kit's print.sh; what this claim does not use is left out)

import Derived.Test.YtkcicbigpbdjpaaKFnExactExternalSort1
import Derived.Test.YtkcicbigpbdjpaaKFnExactExternalSort2
namespace Go.Proofs.Ytkcicbigpbdjpaa
abbrev zq3_0 : Array Bool := #[false, false, false, false, false, false, false, false, false, false, false, false, false, false, false, false, false]
abbrev zq3_1 : Array Bool := #[true, false, false, false, false, false, false, false, false, false, false, false, false, false, false, false, false]
abbrev zq3_2 : Array Bool := #[true, true, false, false, false, false, false, false, false, false, false, false, false, false, false, false, false]
abbrev zq3_3 : Array Bool := #[true, true, true, false, false, false, false, false, false, false, false, false, false, false, false, false, false]
abbrev zq3_4 : Array Bool := #[true, true, true, true, false, false, false, false, false, false, false, false, false, false, false, false, false]
abbrev zq3_5 : Array Bool := #[true, true, true, true, true, false, false, false, false, false, false, false, false, false, false, false, false]
abbrev zq3_6 : Array Bool := #[true, true, true, true, true, true, false, false, false, false, false, false, false, false, false, false, false]
abbrev zq3_7 : Array Bool := #[true, true, true, true, true, true, true, false, false, false, false, false, false, false, false, false, false]
abbrev zq3_8 : Array Bool := #[true, true, true, true, true, true, true, true, true, true, true, true, true, false, false, false, false]
abbrev zq3_9 : Array Bool := #[true, true, true, true, true, true, true, true, true, true, true, true, true, true, false, false, false]
abbrev zq3_10 : Array Bool := #[true, true, true, true, true, true, true, true, true, true, true, true, true, true, true, false, false]
abbrev zq3_11 : Array Bool := #[true, true, true, true, true, true, true, true, true, true, true, true, true, true, true, true, false]
abbrev zq3_12 : Array Bool := #[true, true, true, true, true, true, true, true, true, true, true, true, true, true, true, true, true]
abbrev zt3 : Bool := true
abbrev zf3 : Bool := false
section
open Go.RowKit Go.Proofs.YtkcicbigpbdjpaaW.PrintWords Go.Proofs.YtkcicbigpbdjpaaW.PrintLast Go.Proofs.YtkcicbigpbdjpaaW.PrintMore
abbrev z3a := @Aside0.mk
abbrev z3b := @pw_below_drewN
abbrev z3c := @below_drew1
abbrev z3d := @below_alloc
abbrev z3e := @World.block_lt_of_cell?
abbrev z3f := @Option.bind_eq_some_iff
abbrev z3g := @of_decide_eq_true
abbrev z3h := @decide_eq_true
abbrev z3i := @Kd.R_alloc
abbrev z3j := @Kd.R_drewN
abbrev z3k := @Kd.R_drew
abbrev z3l := @Kd.S_alloc
abbrev z3m := @Kd.S_drewN
abbrev z3n := @Kd.S_drew
end
theorem zm3a {α β : Type} (f : α → β) (l : List α) : l.toArray.map f = (l.map f).toArray := by simp
theorem zm3b {α β : Type} (f : α → β) (a : α) (l : List α) : (a :: l).map f = f a :: l.map f := rfl
theorem zm3c {α β : Type} (f : α → β) : ([] : List α).map f = [] := rfl
theorem zm3d {α : Type} (n : Nat) (l : List α) : (l.drop n).length = l.length - n := List.length_drop
theorem zm3e {α : Type} (n : Nat) (l : List α) : (l.take n).length = min n l.length := List.length_take
theorem zp3a {α : Type} (l : List α) (i : Nat) (a : α) : l.toArray.setIfInBounds i a = (l.set i a).toArray := List.setIfInBounds_toArray l i a
theorem zp3b {α : Type} (x : α) (l : List α) (a : α) : (x :: l).set 0 a = a :: l := List.set_cons_zero
theorem zp3c {α : Type} (x : α) (l : List α) (n : Nat) (a : α) : (x :: l).set (n + 1) a = x :: l.set n a := List.set_cons_succ
end Go.Proofs.Ytkcicbigpbdjpaa
section
namespace Go.Proofs.Ytkcicbigpbdjpaa.P
open Go.RowKit Go.Proofs.YtkcicbigpbdjpaaW.PrintWords Go.Proofs.YtkcicbigpbdjpaaW.PrintLast Go.Proofs.YtkcicbigpbdjpaaW.PrintMore
attribute [local go_sem] max2_int min2_int max_two min_two max_three min_three max_four min_four
set_option linter.unusedVariables false
set_option linter.unusedSimpArgs false
mutual
def y_b.j0 : Nat → List (S71) → Int → Bool → Option ((List (S39)) × Bool)
 | 0, _, _, _ => none
 | k + 1, x0, x1, x19 => if x19 = true then (some ((([] : List (S39))), false)) else (y_b.l0 k x0 x1 (([] : List (S39))) (([] : List (S71))) (([] : List (S71))) (([] : List (S71))) 0)
def y_b.l0 : Nat → List (S71) → Int → List (S39) → List (S71) → List (S71) → List (S71) → Int → Option ((List (S39)) × Bool)
 | 0, _, _, _, _, _, _, _ => none
 | k + 1, x0, x1, x6, x7, x8, x9, x10 => if x10 < (x0.length : Int) then (y_b.j2 k x0 x1 x6 x7 x8 x9 x10 true) else (y_b.j2 k x0 x1 x6 x7 x8 x9 x10 (decide ((wrap64 ((x8.length : Int) + (x9.length : Int))) > 0)))
def y_b.j2 : Nat → List (S71) → Int → List (S39) → List (S71) → List (S71) → List (S71) → Int → Bool → Option ((List (S39)) × Bool)
 | 0, _, _, _, _, _, _, _, _ => none
 | k + 1, x0, x1, x6, x7, x8, x9, x10, x36 => if x36 = true then (if x10 < (x0.length : Int) then ((y_v.f k x8).bind fun t392 => ((y_v.f k x9).bind fun t393 => (if 0 ≤ x10 then ((y_lb.f ((rd_T71 x0 x10).f0) ((rd_T71 x0 x10).f1) ((rd_T71 x0 x10).f2)).bind fun t395 => (y_b.j3 k x0 x1 x6 x7 x8 x9 x10 (decide ((wrap64 ((wrap64 (t392 + t393)) + t395)) ≤ x1)))) else (none)))) else (y_b.j3 k x0 x1 x6 x7 x8 x9 x10 false)) else (if (x7.length : Int) > 0 then (if x6.length < 5864062014805 then (some ((x6 ++ [(⟨x7⟩ : S39)]), true)) else (none)) else (some (x6, true)))
def y_b.j3 : Nat → List (S71) → Int → List (S39) → List (S71) → List (S71) → List (S71) → Int → Bool → Option ((List (S39)) × Bool)
 | 0, _, _, _, _, _, _, _, _ => none
 | k + 1, x0, x1, x6, x7, x8, x9, x10, x55 => if x55 = true then (if (x7.length : Int) > 0 then (if 0 ≤ x10 then (if x10 < (x0.length : Int) then (if 0 ≤ (wrap64 ((x7.length : Int) - 1)) then (if (wrap64 ((x7.length : Int) - 1)) < (x7.length : Int) then ((y_l.f k ((rd_T71 x0 x10).f0) ((rd_T71 x0 x10).f1) ((rd_T71 x0 x10).f2) ((rd_T71 x7 (wrap64 ((x7.length : Int) - 1))).f0) ((rd_T71 x7 (wrap64 ((x7.length : Int) - 1))).f1) ((rd_T71 x7 (wrap64 ((x7.length : Int) - 1))).f2)).bind fun t398 => (if t398 < 0 then (if x9.length < 5864062014805 then (y_b.l0 k x0 x1 x6 x7 x8 (x9 ++ [(⟨(rd_T71 x0 x10).f0, (rd_T71 x0 x10).f1, (rd_T71 x0 x10).f2⟩ : S71)]) (wrap64 (x10 + 1))) else (none)) else (if x8.length < 5864062014805 then (y_b.l0 k x0 x1 x6 x7 (x8 ++ [(⟨(rd_T71 x0 x10).f0, (rd_T71 x0 x10).f1, (rd_T71 x0 x10).f2⟩ : S71)]) x9 (wrap64 (x10 + 1))) else (none)))) else (none)) else (none)) else (none)) else (none)) else (if 0 ≤ x10 then (if x10 < (x0.length : Int) then (if x8.length < 5864062014805 then (y_b.l0 k x0 x1 x6 x7 (x8 ++ [(⟨(rd_T71 x0 x10).f0, (rd_T71 x0 x10).f1, (rd_T71 x0 x10).f2⟩ : S71)]) x9 (wrap64 (x10 + 1))) else (none)) else (none)) else (none))) else (if (x8.length : Int) = 0 then (if x6.length < 5864062014805 then (y_b.l0 k x0 x1 (x6 ++ [(⟨x7⟩ : S39)]) (([] : List (S71))) x9 (([] : List (S71))) x10) else (none)) else ((y_m.f k x8).bind fun t420 => (if 0 ≤ t420 then (if t420 < (x8.length : Int) then (if x7.length < 5864062014805 then ((y_hb.f x8 t420).bind fun t425 => (y_b.l0 k x0 x1 x6 (x7 ++ [(⟨(rd_T71 x8 t420).f0, (rd_T71 x8 t420).f1, (rd_T71 x8 t420).f2⟩ : S71)]) t425 x9 x10)) else (none)) else (none)) else (none))))
end
def y_b.f (k : Nat) (l0 : List (S71)) (a1 : Int) : Option ((List (S39)) × Bool) := (y_z.f k l0).bind fun t372 => (if t372 = true then ((y_w.f a1 8 60).bind fun t373 => (y_b.j0 k l0 a1 (!t373))) else (y_b.j0 k l0 a1 true))
def y_b.T9 : Bool × List (List Nat × List Nat) := (true, [([], []), ([], []), ([1], [1]), ([0, 2], [0, 2]), ([3], [3]), ([4], [4]), ([5, 4, 4], [4, 5]), ([4], [4]), ([7, 6, 4], [4, 7]), ([6, 8, 4], [4, 6, 8]), ([4], [4]), ([4], [4]), ([10, 11, 4], [4, 10, 11]), ([12, 4], [4, 12]), ([13, 8, 4], [4, 13]), ([9, 14, 4], [4, 9, 14]), ([4], [4]), ([15, 16, 4], [4, 15, 16]), ([4, 17], [4, 17])])
def y_b.B9 : List Nat := [0, 0, 2, 7, 15, 31, 63, 31, 255, 511, 31, 31, 3103, 7199, 15871, 32767, 31, 131071, 262143]
theorem y_b.tab9 : rtab .any (opsOf Try.f18 9) = y_b.T9 := by kernel_rfl
theorem y_b.bits9 : waitsOk y_b.T9.2 y_b.B9 = true := by kernel_rfl
def y_b.T10 : Bool × List (List Nat × List Nat) := (true, [([], []), ([0], [0]), ([1], [1]), ([2], [2]), ([3], [3]), ([3], [3]), ([4, 5, 3], [3, 4, 5]), ([6, 3], [3, 6]), ([3], [3]), ([3], [3]), ([9, 3], [3, 9]), ([10, 3], [3, 10]), ([8, 11, 3], [3, 8, 11]), ([12, 3], [3, 12]), ([7, 13, 3, 3], [3, 7, 13]), ([14, 3], [3, 14]), ([3, 15], [3, 15])])
def y_b.B10 : List Nat := [0, 1, 3, 7, 15, 15, 63, 127, 15, 15, 527, 1551, 3855, 7951, 16383, 32767, 65535]
theorem y_b.tab10 : rtab .any (opsOf Try.f18 10) = y_b.T10 := by kernel_rfl
theorem y_b.bits10 : waitsOk y_b.T10.2 y_b.B10 = true := by kernel_rfl
set_option maxHeartbeats 8000000 in
set_option maxRecDepth 100000 in
theorem y_b.calls (k : Nat) (A0 : Option Addr) (c0 : Nat) (l0 : List (S71)) (a1 : Int) (r1 : List (S39)) (r2 : Bool) (w : World) (hr0 : Kd.C k71 w A0 l0.length l0) (hc0 : l0.length ≤ c0) (h : y_b.f k l0 a1 = some (r1, r2)) :
  Calls Try.prog 18 #[.slice A0 l0.length c0, .int .i64 a1] w fun e w' => ∃ v0_ : Value, e = .returned (.tuple #[v0_, .bool r2]) ∧ Kd.S k39 39 w' w.heap.size (fun _ => True) v0_ r1 ∧ Below w.heap.size w w' := by
 have hu71 := Try.underlying71
 have hu39 := Try.underlying39
 have HR0 := z3a hr0
 have HC0 := z3a hc0
 clear hr0 hc0
 have HB := z3a (Below.refl w.heap.size w)
 have H := h
 unfold y_b.f at H
 clear h
 have HC3 := z3a H
 clear H
 go_enter Try.func18, Try.ntmps18
 go_upto_region 1 with (fail)
 go_cut [19] (fun v19 wc => ∃ (kq : Nat) (x19_2 : Bool), v19 = .bool x19_2 ∧ Aside0 (y_b.j0 kq l0 a1 x19_2 = some (r1, r2)) ∧ Aside0 (kq ≤ k) ∧ Aside0 (Below w.heap.size w wc))
 case first =>
  have H := HC3.out
  clear HC3
  replace H := z3f.mp H
  obtain ⟨t372, A40, H⟩ := H
  have A4 := z3a A40
  clear A40
  by_cases c5 : t372 = true
  ·subst c5
   rw [if_pos rfl] at H
   replace H := z3f.mp H
   obtain ⟨t373, A60, H⟩ := H
   have A6 := z3a A60
   clear A60
   have H' := z3a H
   clear H
   go_wp2_with (first | ((with_reducible refine gate_callee (f := 93) rfl ?_); refine goesL_ (some 13) rfl rfl Try.func93 (by kernel_rfl) rfl #[.slice A0 l0.length c0] rfl (by (try simp only [zm3a, zm3b, zm3c]); first | done | rfl | (simp only [zm3d, zm3e]; rfl)) ?_; (with_reducible refine (y_z.calls k _ _ l0 true _ ?side1 ?side2 A4.out).mono ?_); (case side1 => repeat (first | exact (Kd.C_below HR0.out HB.out) | (with_reducible refine Kd.C_alloc ?_ _) | (with_reducible refine Kd.C_drewN ?_ _) | (with_reducible refine Kd.C_drew ?_))); (case side2 => exact HC0.out); rintro e w7 ⟨rfl, hb⟩; refine ⟨_, rfl, ?_⟩; have n0_ := z3a (below_step (by repeat (first | (with_reducible first | exact HB.out | apply z3d | apply z3b | apply z3c) | exact HB.out)) hb); clear HB; have HB := n0_; clear n0_; (try clear hb); (try clear hb2); (try clear hk); (try clear hi)) | (go_at_call 114; (with_reducible refine (y_w.calls a1 8 60 t373 _ A6.out).mono ?_); rintro e w' ⟨rfl, ⟨nd, rfl⟩⟩))
   go_meet
   case rel => exact ⟨_, (!t373), (by first | rfl | (simp; done) | (simp [*]; done)), H', ⟨by first | omega | exact Nat.le_refl _⟩, ⟨by repeat (first | (with_reducible first | exact HB.out | apply z3d | apply z3b | apply z3c) | exact HB.out)⟩⟩
  ·replace c5 := Bool.eq_false_iff.mpr c5
   subst c5
   have H1 : (y_b.j0 k l0 a1 true) = some (r1, r2) := by rw [if_neg (show ¬ (false = true) by decide)] at H; exact H
   clear H
   have H := H1
   clear H1
   have H' := z3a H
   clear H
   go_wp2_with (first | ((with_reducible refine gate_callee (f := 93) rfl ?_); refine goesL_ (some 13) rfl rfl Try.func93 (by kernel_rfl) rfl #[.slice A0 l0.length c0] rfl (by (try simp only [zm3a, zm3b, zm3c]); first | done | rfl | (simp only [zm3d, zm3e]; rfl)) ?_; (with_reducible refine (y_z.calls k _ _ l0 false _ ?side1 ?side2 A4.out).mono ?_); (case side1 => repeat (first | exact (Kd.C_below HR0.out HB.out) | (with_reducible refine Kd.C_alloc ?_ _) | (with_reducible refine Kd.C_drewN ?_ _) | (with_reducible refine Kd.C_drew ?_))); (case side2 => exact HC0.out); rintro e w8 ⟨rfl, hb⟩; refine ⟨_, rfl, ?_⟩; have n0_ := z3a (below_step (by repeat (first | (with_reducible first | exact HB.out | apply z3d | apply z3b | apply z3c) | exact HB.out)) hb); clear HB; have HB := n0_; clear n0_; (try clear hb); (try clear hb2); (try clear hk); (try clear hi)))
   go_meet
   case rel => exact ⟨_, (true), (by first | rfl | (simp; done) | (simp [*]; done)), H', ⟨by first | omega | exact Nat.le_refl _⟩, ⟨by repeat (first | (with_reducible first | exact HB.out | apply z3d | apply z3b | apply z3c) | exact HB.out)⟩⟩
 case rest =>
  clear HC3
  try clear c1
  try clear p2
  try clear c5
  obtain ⟨kq, x19_2, rfl, HA, HJ2, HB⟩ := hcut
  cases kq with
  | zero => exact absurd HA.out (by simp [y_b.j0])
  | succ kj2 =>
   have H := HA.out
   clear HA
   simp only [y_b.j0] at H
   by_cases c9 : x19_2 = true
   ·subst c9
    rw [if_pos rfl] at H
    obtain ⟨y374, hy374⟩ : ∃ y_ : List (S39), y_ = (([] : List (S39))) := ⟨_, rfl⟩
    replace H : (some (y374, false)) = some (r1, r2) := by first | (rw [hy374]; with_reducible exact H) | (have H2_ := (Option.bind_some _ _).symm.trans H; rw [hy374]; with_reducible exact H2_) | (have H2_ := (Option.bind_some _ _).symm.trans H; with_reducible exact H2_) | with_reducible exact H | (rw [hy374]; exact H) | exact H
    have Ny374 := z3a hy374
    clear hy374
    simp only [Option.some.injEq, Prod.mk.injEq] at H
    obtain ⟨rfl, rfl⟩ := H
    go_wp2_with (first | ((with_reducible refine gate_dst (N := 20) rfl ?_); (try (refine gate_guard (by rfl) ?_; dsimp only)); refine Kd.S_lit k39 _ 39 ?hg (N := 20) ?hd (xs := ([] : List (S39))) (inner := []) (ok := fun _ => True) (okp := fun _ => True) ?hr ?hp (fun _ hk => hk) trivial (Below.refl _ _) (Nat.le_refl _) (by simp) ?_; (case hd => rfl); (case hg => rfl); (case hr => first | (go_simp; done) | (go_simp; rfl)); (case hp => exact (Reps.none _ _)); intro v375 w10 ho11 hb hg_ hnew_; clear hg_ hnew_; (first | rw [← Ny374.out] at ho11 | (simp only [Int.reduceToNat] at ho11; rw [← Ny374.out] at ho11)); have n0_ := z3a (Kd.S_lower ho11 (below_size (by repeat (first | (with_reducible first | exact HB.out | apply z3d | apply z3b | apply z3c) | exact HB.out)))); have n1_ := z3a (below_step (by repeat (first | (with_reducible first | exact HB.out | apply z3d | apply z3b | apply z3c) | exact HB.out)) hb); clear HB; have HO376 := n0_; have HB := n1_; clear n0_ n1_; clear hb ho11))
    go_ret2
    exact ⟨_, by first | rfl | (simp [errW_none, errW_some] <;> rfl) | (simp [*, errW_none, errW_some] <;> rfl), by (with_reducible repeat (first | apply z3l | apply z3m | apply z3n)); exact HO376.out, by repeat (first | (with_reducible first | exact HB.out | apply z3d | apply z3b | apply z3c) | exact HB.out)⟩
   ·replace c9 := Bool.eq_false_iff.mpr c9
    subst c9
    have H1 : (y_b.l0 kj2 l0 a1 (([] : List (S39))) (([] : List (S71))) (([] : List (S71))) (([] : List (S71))) 0) = some (r1, r2) := by rw [if_neg (show ¬ (false = true) by decide)] at H; exact H
    clear H
    have H := H1
    clear H1
    obtain ⟨y377, hy377⟩ : ∃ y_ : List (S39), y_ = (([] : List (S39))) := ⟨_, rfl⟩
    replace H : (y_b.l0 kj2 l0 a1 y377 (([] : List (S71))) (([] : List (S71))) (([] : List (S71))) 0) = some (r1, r2) := by first | (rw [hy377]; with_reducible exact H) | (have H2_ := (Option.bind_some _ _).symm.trans H; rw [hy377]; with_reducible exact H2_) | (have H2_ := (Option.bind_some _ _).symm.trans H; with_reducible exact H2_) | with_reducible exact H | (rw [hy377]; exact H) | exact H
    have Ny377 := z3a hy377
    clear hy377
    obtain ⟨y380, hy380⟩ : ∃ y_ : List (S71), y_ = (([] : List (S71))) := ⟨_, rfl⟩
    replace H : (y_b.l0 kj2 l0 a1 y377 y380 (([] : List (S71))) (([] : List (S71))) 0) = some (r1, r2) := by first | (rw [hy380]; with_reducible exact H) | (have H2_ := (Option.bind_some _ _).symm.trans H; rw [hy380]; with_reducible exact H2_) | (have H2_ := (Option.bind_some _ _).symm.trans H; with_reducible exact H2_) | with_reducible exact H | (rw [hy380]; exact H) | exact H
    have Ny380 := z3a hy380
    clear hy380
    obtain ⟨y383, hy383⟩ : ∃ y_ : List (S71), y_ = (([] : List (S71))) := ⟨_, rfl⟩
    replace H : (y_b.l0 kj2 l0 a1 y377 y380 y383 (([] : List (S71))) 0) = some (r1, r2) := by first | (rw [hy383]; with_reducible exact H) | (have H2_ := (Option.bind_some _ _).symm.trans H; rw [hy383]; with_reducible exact H2_) | (have H2_ := (Option.bind_some _ _).symm.trans H; with_reducible exact H2_) | with_reducible exact H | (rw [hy383]; exact H) | exact H
    have Ny383 := z3a hy383
    clear hy383
    obtain ⟨y386, hy386⟩ : ∃ y_ : List (S71), y_ = (([] : List (S71))) := ⟨_, rfl⟩
    replace H : (y_b.l0 kj2 l0 a1 y377 y380 y383 y386 0) = some (r1, r2) := by first | (rw [hy386]; with_reducible exact H) | (have H2_ := (Option.bind_some _ _).symm.trans H; rw [hy386]; with_reducible exact H2_) | (have H2_ := (Option.bind_some _ _).symm.trans H; with_reducible exact H2_) | with_reducible exact H | (rw [hy386]; exact H) | exact H
    have Ny386 := z3a hy386
    clear hy386
    have H' := z3a H
    clear H
    go_wp2_with (first | ((with_reducible refine gate_dst (N := 21) rfl ?_); (try (refine gate_guard (by rfl) ?_; dsimp only)); refine Kd.S_lit k39 _ 39 ?hg (N := 21) ?hd (xs := ([] : List (S39))) (inner := []) (ok := fun _ => True) (okp := fun _ => True) ?hr ?hp (fun _ hk => hk) trivial (Below.refl _ _) (Nat.le_refl _) (by simp) ?_; (case hd => rfl); (case hg => rfl); (case hr => first | (go_simp; done) | (go_simp; rfl)); (case hp => exact (Reps.none _ _)); intro v378 w12 ho13 hb hg_ hnew_; clear hg_ hnew_; (first | rw [← Ny377.out] at ho13 | (simp only [Int.reduceToNat] at ho13; rw [← Ny377.out] at ho13)); have n0_ := z3a (Kd.S_lower ho13 (below_size (by repeat (first | (with_reducible first | exact HB.out | apply z3d | apply z3b | apply z3c) | exact HB.out)))); have n1_ := z3a (below_step (by repeat (first | (with_reducible first | exact HB.out | apply z3d | apply z3b | apply z3c) | exact HB.out)) hb); clear HB; have HO379 := n0_; have HB := n1_; clear n0_ n1_; clear hb ho13) | ((with_reducible refine gate_dst (N := 22) rfl ?_); (try (refine gate_guard (by rfl) ?_; dsimp only)); refine Kd.R_lit k71 _ 71 ?hg (N := 22) ?hd (xs := ([] : List (S71))) (inner := []) (ok := fun _ => True) (okp := fun _ => True) ?hr ?hp (fun _ hk => hk) trivial (Below.refl _ _) (Nat.le_refl _) (by simp) ?_; (case hd => rfl); (case hg => rfl); (case hr => first | (go_simp; done) | (go_simp; rfl)); (case hp => exact (Reps.none _ _)); intro v381 w14 ho15 hb hg_ hnew_; clear hg_ hnew_; (first | rw [← Ny380.out] at ho15 | (simp only [Int.reduceToNat] at ho15; rw [← Ny380.out] at ho15)); have n0_ := z3a (Kd.S_elder' (by (with_reducible repeat (first | apply z3l | apply z3m | apply z3n)); exact HO379.out) (Kd.R_base ho15) hb); have n1_ := z3a (Kd.R_lower ho15 (below_size (by repeat (first | (with_reducible first | exact HB.out | apply z3d | apply z3b | apply z3c) | exact HB.out)))); have n2_ := z3a (below_step (by repeat (first | (with_reducible first | exact HB.out | apply z3d | apply z3b | apply z3c) | exact HB.out)) hb); clear HO379; clear HB; have HO379 := n0_; have HO382 := n1_; have HB := n2_; clear n0_ n1_ n2_; clear hb ho15) | ((with_reducible refine gate_dst (N := 23) rfl ?_); (try (refine gate_guard (by rfl) ?_; dsimp only)); refine Kd.R_lit k71 _ 71 ?hg (N := 23) ?hd (xs := ([] : List (S71))) (inner := []) (ok := fun _ => True) (okp := fun _ => True) ?hr ?hp (fun _ hk => hk) trivial (Below.refl _ _) (Nat.le_refl _) (by simp) ?_; (case hd => rfl); (case hg => rfl); (case hr => first | (go_simp; done) | (go_simp; rfl)); (case hp => exact (Reps.none _ _)); intro v384 w16 ho17 hb hg_ hnew_; clear hg_ hnew_; (first | rw [← Ny383.out] at ho17 | (simp only [Int.reduceToNat] at ho17; rw [← Ny383.out] at ho17)); have n0_ := z3a (Kd.S_elder' (by (with_reducible repeat (first | apply z3l | apply z3m | apply z3n)); exact HO379.out) (Kd.R_base ho17) hb); have n1_ := z3a (Kd.R_elder' (by (with_reducible repeat (first | apply z3i | apply z3j | apply z3k)); exact HO382.out) (Kd.R_base ho17) hb); have n2_ := z3a (Kd.R_lower (Kd.R_new' ho17 (Kd.R_lt (by (with_reducible repeat (first | apply z3i | apply z3j | apply z3k)); exact HO382.out))) (below_size (by repeat (first | (with_reducible first | exact HB.out | apply z3d | apply z3b | apply z3c) | exact HB.out)))); have n3_ := z3a (below_step (by repeat (first | (with_reducible first | exact HB.out | apply z3d | apply z3b | apply z3c) | exact HB.out)) hb); clear HO379; clear HO382; clear HB; have HO379 := n0_; have HO382 := n1_; have HO385 := n2_; have HB := n3_; clear n0_ n1_ n2_ n3_; clear hb ho17) | ((with_reducible refine gate_dst (N := 24) rfl ?_); (try (refine gate_guard (by rfl) ?_; dsimp only)); refine Kd.R_lit k71 _ 71 ?hg (N := 24) ?hd (xs := ([] : List (S71))) (inner := []) (ok := fun _ => True) (okp := fun _ => True) ?hr ?hp (fun _ hk => hk) trivial (Below.refl _ _) (Nat.le_refl _) (by simp) ?_; (case hd => rfl); (case hg => rfl); (case hr => first | (go_simp; done) | (go_simp; rfl)); (case hp => exact (Reps.none _ _)); intro v387 w18 ho19 hb hg_ hnew_; clear hg_ hnew_; (first | rw [← Ny386.out] at ho19 | (simp only [Int.reduceToNat] at ho19; rw [← Ny386.out] at ho19)); have n0_ := z3a (Kd.S_elder' (by (with_reducible repeat (first | apply z3l | apply z3m | apply z3n)); exact HO379.out) (Kd.R_base ho19) hb); have n1_ := z3a (Kd.R_elder' (by (with_reducible repeat (first | apply z3i | apply z3j | apply z3k)); exact HO382.out) (Kd.R_base ho19) hb); have n2_ := z3a (Kd.R_elder' (by (with_reducible repeat (first | apply z3i | apply z3j | apply z3k)); exact HO385.out) (Kd.R_base ho19) hb); have n3_ := z3a (Kd.R_lower (Kd.R_new' (Kd.R_new' ho19 (Kd.R_lt (by (with_reducible repeat (first | apply z3i | apply z3j | apply z3k)); exact HO382.out))) (Kd.R_lt (by (with_reducible repeat (first | apply z3i | apply z3j | apply z3k)); exact HO385.out))) (below_size (by repeat (first | (with_reducible first | exact HB.out | apply z3d | apply z3b | apply z3c) | exact HB.out)))); have n4_ := z3a (below_step (by repeat (first | (with_reducible first | exact HB.out | apply z3d | apply z3b | apply z3c) | exact HB.out)) hb); clear HO379; clear HO382; clear HO385; clear HB; have HO379 := n0_; have HO382 := n1_; have HO385 := n2_; have HO388 := n3_; have HB := n4_; clear n0_ n1_ n2_ n3_ n4_; clear hb ho19))
    go_loopg [6, 7, 8, 9, 10] kj2 (fun kq v6 v7 v8 v9 v10 w' => ∃ (x6_2 : List (S39)) (x7_2 : List (S71)) (x8_2 : List (S71)) (x9_2 : List (S71)) (x10_2 : Int), v10 = .int .i64 x10_2 ∧ Aside0 (y_b.l0 kq l0 a1 x6_2 x7_2 x8_2 x9_2 x10_2 = some (r1, r2)) ∧ Aside0 (kq ≤ kj2) ∧ Aside0 (Kd.S k39 39 w' w.heap.size (fun k_ => some k_ ≠ (v7 : Value).ownBlock ∧ some k_ ≠ (v8 : Value).ownBlock ∧ some k_ ≠ (v9 : Value).ownBlock) v6 x6_2) ∧ Aside0 (Kd.R k71 71 w' w.heap.size (fun k_ => some k_ ≠ (v8 : Value).ownBlock ∧ some k_ ≠ (v9 : Value).ownBlock) v7 x7_2) ∧ Aside0 (Kd.R k71 71 w' w.heap.size (fun k_ => some k_ ≠ (v7 : Value).ownBlock ∧ some k_ ≠ (v9 : Value).ownBlock) v8 x8_2) ∧ Aside0 (Kd.R k71 71 w' w.heap.size (fun k_ => some k_ ≠ (v7 : Value).ownBlock ∧ some k_ ≠ (v8 : Value).ownBlock) v9 x9_2) ∧ Aside0 (Below w.heap.size w w'))
    case atStart => exact ⟨(y377), (y380), (y383), (y386), (0), (by first | rfl | (simp; done) | (simp [*]; done)), H', ⟨Nat.le_refl _⟩, ⟨by (with_reducible repeat (first | apply z3l | apply z3m | apply z3n)); exact Kd.S_mono HO379.out (fun _ hk => ⟨hk.1.1.2, ⟨hk.1.2, hk.2⟩⟩)⟩, ⟨by (with_reducible repeat (first | apply z3i | apply z3j | apply z3k)); exact Kd.R_mono HO382.out (fun _ hk => ⟨hk.1.2, hk.2⟩)⟩, ⟨by (with_reducible repeat (first | apply z3i | apply z3j | apply z3k)); exact Kd.R_mono HO385.out (fun _ hk => ⟨hk.1.2, hk.2⟩)⟩, ⟨by (with_reducible repeat (first | apply z3i | apply z3j | apply z3k)); exact Kd.R_mono HO388.out (fun _ hk => ⟨hk.1.2, hk.2⟩)⟩, ⟨by repeat (first | (with_reducible first | exact HB.out | apply z3d | apply z3b | apply z3c) | exact HB.out)⟩⟩
    case round =>
     clear H'
     try clear c1
     try clear p2
     try clear c5
     try clear c9
     try clear c18
     try clear p2
     obtain ⟨x6_2, x7_2, x8_2, x9_2, x10_2, rfl, HA, HK2, HO_6, HO_7, HO_8, HO_9, HB⟩ := hrel
     cases gk with
     | zero => exact absurd HA.out (by simp [y_b.l0])
     | succ k2 =>
      have H := HA.out
      clear HA
      simp only [y_b.l0] at H
      have HC20 := z3a H
      clear H
      go_upto_region 8 with (fail)
      go_cut [36] (fun v36 wc => ∃ (kq : Nat) (x36_19 : Bool), v36 = .bool x36_19 ∧ Aside0 (y_b.j2 kq l0 a1 x6_2 x7_2 x8_2 x9_2 x10_2 x36_19 = some (r1, r2)) ∧ Aside0 (kq ≤ k2) ∧ Aside0 (Kd.S k39 39 wc w.heap.size (fun k_ => some k_ ≠ (u7 : Value).ownBlock ∧ some k_ ≠ (u8 : Value).ownBlock ∧ some k_ ≠ (u9 : Value).ownBlock) u6 x6_2) ∧ Aside0 (Kd.R k71 71 wc w.heap.size (fun k_ => some k_ ≠ (u8 : Value).ownBlock ∧ some k_ ≠ (u9 : Value).ownBlock) u7 x7_2) ∧ Aside0 (Kd.R k71 71 wc w.heap.size (fun k_ => some k_ ≠ (u7 : Value).ownBlock ∧ some k_ ≠ (u9 : Value).ownBlock) u8 x8_2) ∧ Aside0 (Kd.R k71 71 wc w.heap.size (fun k_ => some k_ ≠ (u7 : Value).ownBlock ∧ some k_ ≠ (u8 : Value).ownBlock) u9 x9_2) ∧ Aside0 (Below w.heap.size w wc))
      case first =>
       have H := HC20.out
       clear HC20
       by_cases c21 : x10_2 < (l0.length : Int)
       ·rw [if_pos c21] at H
        have c21b0 : decide (x10_2 < (l0.length : Int)) = true := z3h c21
        clear c21
        (first | rw [c21b0] | (simp only [i64_w, i32_w]; rw [c21b0]) | skip)
        have H' := z3a H
        clear H
        go_wp2
        go_meet
        case rel => exact ⟨_, (true), (by first | rfl | (simp; done) | (simp [*]; done)), H', ⟨by have := HJ2.out; have := HK2.out; first | omega | exact Nat.le_refl _⟩, ⟨by (with_reducible repeat (first | apply z3l | apply z3m | apply z3n)); exact HO_6.out⟩, ⟨by (with_reducible repeat (first | apply z3i | apply z3j | apply z3k)); exact HO_7.out⟩, ⟨by (with_reducible repeat (first | apply z3i | apply z3j | apply z3k)); exact HO_8.out⟩, ⟨by (with_reducible repeat (first | apply z3i | apply z3j | apply z3k)); exact HO_9.out⟩, ⟨by repeat (first | (with_reducible first | exact HB.out | apply z3d | apply z3b | apply z3c) | exact HB.out)⟩⟩
       ·rw [if_neg c21] at H
        have c21b0 : decide (x10_2 < (l0.length : Int)) = false := decide_eq_false c21
        clear c21
        (first | rw [c21b0] | (simp only [i64_w, i32_w]; rw [c21b0]) | skip)
        have H' := z3a H
        clear H
        obtain ⟨Ao22, co22, eo22⟩ := Kd.R_slice HO_8.out
        subst eo22
        obtain ⟨Ao23, co23, eo23⟩ := Kd.R_slice HO_9.out
        subst eo23
        go_wp2
        go_meet
        case rel => exact ⟨_, (decide ((wrap64 ((x8_2.length : Int) + (x9_2.length : Int))) > 0)), (by first | rfl | (simp; done) | (simp [*]; done)), H', ⟨by have := HJ2.out; have := HK2.out; first | omega | exact Nat.le_refl _⟩, ⟨by (with_reducible repeat (first | apply z3l | apply z3m | apply z3n)); exact HO_6.out⟩, ⟨by (with_reducible repeat (first | apply z3i | apply z3j | apply z3k)); exact HO_7.out⟩, ⟨by (with_reducible repeat (first | apply z3i | apply z3j | apply z3k)); exact HO_8.out⟩, ⟨by (with_reducible repeat (first | apply z3i | apply z3j | apply z3k)); exact HO_9.out⟩, ⟨by repeat (first | (with_reducible first | exact HB.out | apply z3d | apply z3b | apply z3c) | exact HB.out)⟩⟩
      case rest =>
       clear HC20
       try clear c1
       try clear c2
       try clear p2
       try clear c5
       try clear p6
       try clear c9
       try clear c18
       try clear c21
       try clear c21b0
       try clear p2
       obtain ⟨kq, x36_19, rfl, HA, HJ19, HO_6, HO_7, HO_8, HO_9, HB⟩ := hcut
       cases kq with
       | zero => exact absurd HA.out (by simp [y_b.j2])
       | succ kj19 =>
        have H := HA.out
        clear HA
        simp only [y_b.j2] at H
        by_cases c24 : x36_19 = true
        ·subst c24
         rw [if_pos rfl] at H
         have HC25 := z3a H
         clear H
         go_upto_region 9 with (fail)
         go_cut [55] (fun v55 wc => ∃ (kq : Nat) (x55_24 : Bool), v55 = .bool x55_24 ∧ Aside0 (y_b.j3 kq l0 a1 x6_2 x7_2 x8_2 x9_2 x10_2 x55_24 = some (r1, r2)) ∧ Aside0 (kq ≤ kj19) ∧ Aside0 (Kd.S k39 39 wc w.heap.size (fun k_ => some k_ ≠ (u7 : Value).ownBlock ∧ some k_ ≠ (u8 : Value).ownBlock ∧ some k_ ≠ (u9 : Value).ownBlock) u6 x6_2) ∧ Aside0 (Kd.R k71 71 wc w.heap.size (fun k_ => some k_ ≠ (u8 : Value).ownBlock ∧ some k_ ≠ (u9 : Value).ownBlock) u7 x7_2) ∧ Aside0 (Kd.R k71 71 wc w.heap.size (fun k_ => some k_ ≠ (u7 : Value).ownBlock ∧ some k_ ≠ (u9 : Value).ownBlock) u8 x8_2) ∧ Aside0 (Kd.R k71 71 wc w.heap.size (fun k_ => some k_ ≠ (u7 : Value).ownBlock ∧ some k_ ≠ (u8 : Value).ownBlock) u9 x9_2) ∧ Aside0 (Below w.heap.size w wc))
         case first =>
          have H := HC25.out
          clear HC25
          by_cases c26 : x10_2 < (l0.length : Int)
          ·rw [if_pos c26] at H
           have c26b0 : decide (x10_2 < (l0.length : Int)) = true := z3h c26
           clear c26
           (first | rw [c26b0] | (simp only [i64_w, i32_w]; rw [c26b0]) | skip)
           replace H := z3f.mp H
           obtain ⟨t392, A270, H⟩ := H
           have A27 := z3a A270
           clear A270
           replace H := z3f.mp H
           obtain ⟨t393, A280, H⟩ := H
           have A28 := z3a A280
           clear A280
           by_cases c29 : 0 ≤ x10_2
           ·rw [if_pos c29] at H
            have c29b0 : decide (0 ≤ x10_2) = true := z3h c29
            clear c29
            replace H := z3f.mp H
            obtain ⟨t395, A300, H⟩ := H
            have A30 := z3a A300
            clear A300
            have H' := z3a H
            clear H
            try go_wp2
            have n0_ := z3a (z3n HO_6.out)
            have n1_ := z3a (z3k HO_7.out)
            have n2_ := z3a (z3k HO_8.out)
            have n3_ := z3a (z3k HO_9.out)
            have n4_ := z3a (z3c HB.out)
            clear HO_6
            clear HO_7
            clear HO_8
            clear HO_9
            clear HB
            have HO_6 := n0_
            have HO_7 := n1_
            have HO_8 := n2_
            have HO_9 := n3_
            have HB := n4_
            clear n0_ n1_ n2_ n3_ n4_
            have p394 : 0 ≤ (x10_2 : Int) := z3g (by first | (with_reducible assumption) | assumption)
            have q394 : x10_2 < (l0.length : Int) := z3g (by first | (with_reducible assumption) | assumption)
            obtain ⟨ad394, e394, hx394_0, hx394_1, hx394_2⟩ := at_T71 HR0.out x10_2 p394 q394
            have hw394_2 := hx394_2
            have hw394_1 := hx394_1
            have hw394_0 := hx394_0
            cases e394
            replace hx394_0 := (HB.out.cell (z3e w _ hx394_0)).trans hx394_0
            replace hx394_1 := (HB.out.cell (z3e w _ hx394_1)).trans hx394_1
            replace hx394_2 := (HB.out.cell (z3e w _ hx394_2)).trans hx394_2
            replace p394 := eq_true p394
            replace q394 := eq_true q394
            obtain ⟨Ao32, co32, eo32⟩ := Kd.R_slice HO_8.out
            (first | subst eo32 | (injection eo32 with f1_ f2_ f3_; have f4_ := f1_.symm; have f5_ := f3_.symm; clear f1_ f2_ f3_; subst f4_; subst f5_))
            refine start_ (n := 19) (S := fun w' => w'.cell? (ad394.add ((x10_2).toNat * 3)) = some (.int .i64 ((rd_T71 l0 x10_2).f0)) ∧ w'.cell? ⟨(ad394.add ((x10_2).toNat * 3)).block, (ad394.add ((x10_2).toNat * 3)).off + 1, none⟩ = some (.int .i64 ((rd_T71 l0 x10_2).f1)) ∧ w'.cell? ⟨(ad394.add ((x10_2).toNat * 3)).block, (ad394.add ((x10_2).toNat * 3)).off + 2, none⟩ = some (.int .i64 ((rd_T71 l0 x10_2).f2))) (ds := []) #[zf3,zf3,zf3,zf3,zf3,zf3,zf3,zf3,zf3,zf3,zf3,zf3,zf3,zf3,zf3,zf3,zf3,zf3,zf3] (by kernel_rfl) rfl rfl ⟨((HB.out.cell (z3e w _ hw394_0)).trans hw394_0), ((HB.out.cell (z3e w _ hw394_1)).trans hw394_1), ((HB.out.cell (z3e w _ hw394_2)).trans hw394_2)⟩ (fun hHeld => ?_); refine with_tabW y_b.tab9 y_b.bits9 (fun HT_ HW_ => ?_)
            generalize wc.drew = w31 at HO_6 HO_7 HO_8 HO_9 HB hx394_0 hx394_1 hx394_2 hHeld ⊢
            refine pure_ (i := 0) (N := some 37) (v := ?_) (a' := ?_) #[zt3,zf3,zf3,zf3,zf3,zf3,zf3,zf3,zf3,zf3,zf3,zf3,zf3,zf3,zf3,zf3,zf3,zf3,zf3] rfl rfl (any_of HT_.out (by kernel_rfl)) (fun _ _ _ h => h) (Or.inl ⟨by rfl, ?_⟩) ?_ ?_
            rotate_left
            ·intro w'
             go_simp
             with_reducible rfl
            rotate_left
            ·simp only [Act.put, zp3a, zp3b, zp3c, i64_w, i32_w]
             rfl
            refine pure_ (i := 1) (N := some 38) (v := ?_) (a' := ?_) #[zt3,zt3,zf3,zf3,zf3,zf3,zf3,zf3,zf3,zf3,zf3,zf3,zf3,zf3,zf3,zf3,zf3,zf3,zf3] rfl rfl (any_of HT_.out (by kernel_rfl)) (fun _ _ _ h => h) (Or.inl ⟨by rfl, ?_⟩) ?_ ?_
            rotate_left
            ·intro w'
             go_simp
             with_reducible rfl
            rotate_left
            ·simp only [Act.put, zp3a, zp3b, zp3c, i64_w, i32_w]
             rfl
            refine pure_ (i := 2) (N := some 39) (v := ?_) (a' := ?_) #[zt3,zt3,zt3,zf3,zf3,zf3,zf3,zf3,zf3,zf3,zf3,zf3,zf3,zf3,zf3,zf3,zf3,zf3,zf3] rfl rfl (any_of HT_.out (by kernel_rfl)) (fun _ _ _ h => h) (Or.inl ⟨by rfl, ?_⟩) ?_ ?_
            rotate_left
            ·intro w'
             go_simp
             with_reducible rfl
            rotate_left
            ·simp only [Act.put, zp3a, zp3b, zp3c, i64_w, i32_w]
             rfl
            refine pure_ (i := 3) (N := some 40) (v := ?_) (a' := ?_) #[zt3,zt3,zt3,zt3,zf3,zf3,zf3,zf3,zf3,zf3,zf3,zf3,zf3,zf3,zf3,zf3,zf3,zf3,zf3] rfl rfl (any_of HT_.out (by kernel_rfl)) (fun _ _ _ h => h) (Or.inl ⟨by rfl, ?_⟩) ?_ ?_
            rotate_left
            ·intro w'
             go_simp
             with_reducible rfl
            rotate_left
            ·simp only [Act.put, zp3a, zp3b, zp3c, i64_w, i32_w]
             rfl
            refine pure_ (i := 4) (N := some 41) (v := ?_) (a' := ?_) #[zt3,zt3,zt3,zt3,zt3,zf3,zf3,zf3,zf3,zf3,zf3,zf3,zf3,zf3,zf3,zf3,zf3,zf3,zf3] rfl rfl (any_of HT_.out (by kernel_rfl)) (fun _ _ _ h => h) (Or.inl ⟨by rfl, ?_⟩) ?_ ?_
            rotate_left
            ·intro w'
             go_simp
             with_reducible rfl
            rotate_left
            ·simp only [Act.put, zp3a, zp3b, zp3c, i64_w, i32_w]
             rfl
            refine pure_ (i := 5) (N := some 42) (v := ?_) (a' := ?_) #[zt3,zt3,zt3,zt3,zt3,zt3,zf3,zf3,zf3,zf3,zf3,zf3,zf3,zf3,zf3,zf3,zf3,zf3,zf3] rfl rfl (any_of HT_.out (by kernel_rfl)) (fun _ _ _ h => h) (Or.inl ⟨by rfl, ?_⟩) ?_ ?_
            rotate_left
            ·intro w'
             go_simp
             with_reducible rfl
            rotate_left
            ·simp only [Act.put, zp3a, zp3b, zp3c, i64_w, i32_w]
             rfl
            refine pure_ (i := 7) (N := some 44) (v := ?_) (a' := ?_) #[zt3,zt3,zt3,zt3,zt3,zt3,zf3,zt3,zf3,zf3,zf3,zf3,zf3,zf3,zf3,zf3,zf3,zf3,zf3] rfl rfl (any_of HT_.out (by kernel_rfl)) (fun _ _ _ h => h) (Or.inl ⟨by rfl, ?_⟩) ?_ ?_
            rotate_left
            ·intro w'
             go_simp
             with_reducible rfl
            rotate_left
            ·simp only [Act.put, zp3a, zp3b, zp3c, i64_w, i32_w]
             rfl
            refine pure_ (i := 10) (N := some 47) (v := ?_) (a' := ?_) #[zt3,zt3,zt3,zt3,zt3,zt3,zf3,zt3,zf3,zf3,zt3,zf3,zf3,zf3,zf3,zf3,zf3,zf3,zf3] rfl rfl (any_of HT_.out (by kernel_rfl)) (fun _ _ _ h => h) (Or.inl ⟨by rfl, ?_⟩) ?_ ?_
            rotate_left
            ·intro w'
             go_simp
             with_reducible rfl
            rotate_left
            ·simp only [Act.put, zp3a, zp3b, zp3c, i64_w, i32_w]
             rfl
            refine pure_ (i := 11) (N := some 48) (v := ?_) (a' := ?_) #[zt3,zt3,zt3,zt3,zt3,zt3,zf3,zt3,zf3,zf3,zt3,zt3,zf3,zf3,zf3,zf3,zf3,zf3,zf3] rfl rfl (any_of HT_.out (by kernel_rfl)) (fun _ _ _ h => h) (Or.inl ⟨by rfl, ?_⟩) ?_ ?_
            rotate_left
            ·intro w'
             go_simp
             with_reducible rfl
            rotate_left
            ·simp only [Act.put, zp3a, zp3b, zp3c, i64_w, i32_w]
             rfl
            refine pure_ (i := 12) (N := some 49) (v := ?_) (a' := ?_) #[zt3,zt3,zt3,zt3,zt3,zt3,zf3,zt3,zf3,zf3,zt3,zt3,zt3,zf3,zf3,zf3,zf3,zf3,zf3] rfl rfl (any_of HT_.out (by kernel_rfl)) (fun _ _ _ h => h) (Or.inl ⟨by rfl, ?_⟩) ?_ ?_
            rotate_left
            ·intro w'
             go_simp
             with_reducible rfl
            rotate_left
            ·simp only [Act.put, zp3a, zp3b, zp3c, i64_w, i32_w]
             rfl
            refine pure_ (i := 16) (N := some 53) (v := ?_) (a' := ?_) #[zt3,zt3,zt3,zt3,zt3,zt3,zf3,zt3,zf3,zf3,zt3,zt3,zt3,zf3,zf3,zf3,zt3,zf3,zf3] rfl rfl (any_of HT_.out (by kernel_rfl)) (fun _ _ _ h => h) (Or.inl ⟨by rfl, ?_⟩) ?_ ?_
            rotate_left
            ·intro w'
             go_simp
             with_reducible rfl
            rotate_left
            ·simp only [Act.put, zp3a, zp3b, zp3c, i64_w, i32_w]
             rfl
            refine take_ (i := 13) (N := some 50) (v := ?_) (a' := ?_) #[zt3,zt3,zt3,zt3,zt3,zt3,zf3,zt3,zf3,zf3,zt3,zt3,zt3,zt3,zf3,zf3,zt3,zf3,zf3] rfl rfl (take_ofW HT_.out HW_.out (by kernel_rfl)) (fun _ _ _ h => h) (Or.inl ⟨by rfl, ?_⟩) hHeld ?_ ?_
            rotate_left
            ·rintro w' ⟨s0, s1, s2⟩
             go_simp
             with_reducible rfl
            rotate_left
            ·simp only [Act.put, zp3a, zp3b, zp3c, i64_w, i32_w]
             rfl
            refine one_ (i := 6) (N := some 43) #[zt3,zt3,zt3,zt3,zt3,zt3,zt3,zt3,zf3,zf3,zt3,zt3,zt3,zt3,zf3,zf3,zt3,zf3,zf3] rfl rfl (one_of HT_.out (by kernel_rfl)) (by decide) (fun K hK => ?_)
            refine goes_ Try.func31 (by kernel_rfl) rfl #[.slice Ao32 x8_2.length co32] (by rfl) rfl rfl (by (try simp only [zm3a, zm3b, zm3c]); first | done | rfl | (simp only [zm3d, zm3e]; rfl)) ?_
            with_reducible refine (y_v.calls kj19 _ _ x8_2 t392 _ ?side1 ?side2 A27.out).mono ?_
            (case side1 => repeat (first | exact (Kd.R_reads' HO_8.out).2.2 | (with_reducible refine Kd.C_alloc ?_ _) | (with_reducible refine Kd.C_drewN ?_ _) | (with_reducible refine Kd.C_drew ?_)))
            (case side2 => exact (Kd.R_reads' HO_8.out).2.1)
            rintro e w33 ⟨rfl, hb⟩
            refine ⟨_, rfl, ?_⟩
            have n0_ := z3a (Kd.S_below (by (with_reducible repeat (first | apply z3l | apply z3m | apply z3n)); exact HO_6.out) hb)
            have n1_ := z3a (Kd.R_below (by (with_reducible repeat (first | apply z3i | apply z3j | apply z3k)); exact HO_7.out) hb)
            have n2_ := z3a (Kd.R_below (by (with_reducible repeat (first | apply z3i | apply z3j | apply z3k)); exact HO_8.out) hb)
            have n3_ := z3a (Kd.R_below (by (with_reducible repeat (first | apply z3i | apply z3j | apply z3k)); exact HO_9.out) hb)
            have n4_ := z3a (below_step (by repeat (first | (with_reducible first | exact HB.out | apply z3d | apply z3b | apply z3c) | exact HB.out)) hb)
            clear HO_6
            clear HO_7
            clear HO_8
            clear HO_9
            clear HB
            have HO_6 := n0_
            have HO_7 := n1_
            have HO_8 := n2_
            have HO_9 := n3_
            have HB := n4_
            clear n0_ n1_ n2_ n3_ n4_
            (try clear hb)
            (try clear hb2)
            (try clear hk)
            (try clear hi)
            obtain ⟨Ao34, co34, eo34⟩ := Kd.R_slice HO_9.out
            (first | subst eo34 | (injection eo34 with f1_ f2_ f3_; have f4_ := f1_.symm; have f5_ := f3_.symm; clear f1_ f2_ f3_; subst f4_; subst f5_))
            refine hK.out _ _ ⟨((HB.out.cell (z3e w _ hw394_0)).trans hw394_0), ((HB.out.cell (z3e w _ hw394_1)).trans hw394_1), ((HB.out.cell (z3e w _ hw394_2)).trans hw394_2)⟩ (fun hHeld => ?_)
            clear hK K
            refine norm_ (a' := ?_) ?_ ?_
            rotate_left
            ·show Act.put _ (some 43) _ = _
             simp only [Act.put, zp3a, zp3b, zp3c, i64_w, i32_w]
             rfl
            refine one_ (i := 8) (N := some 45) #[zt3,zt3,zt3,zt3,zt3,zt3,zt3,zt3,zt3,zf3,zt3,zt3,zt3,zt3,zf3,zf3,zt3,zf3,zf3] rfl rfl (one_of HT_.out (by kernel_rfl)) (by decide) (fun K hK => ?_)
            refine goes_ Try.func31 (by kernel_rfl) rfl #[.slice Ao34 x9_2.length co34] (by rfl) rfl rfl (by (try simp only [zm3a, zm3b, zm3c]); first | done | rfl | (simp only [zm3d, zm3e]; rfl)) ?_
            with_reducible refine (y_v.calls kj19 _ _ x9_2 t393 _ ?side1 ?side2 A28.out).mono ?_
            (case side1 => repeat (first | exact (Kd.R_reads' HO_9.out).2.2 | (with_reducible refine Kd.C_alloc ?_ _) | (with_reducible refine Kd.C_drewN ?_ _) | (with_reducible refine Kd.C_drew ?_)))
            (case side2 => exact (Kd.R_reads' HO_9.out).2.1)
            rintro e w35 ⟨rfl, hb⟩
            refine ⟨_, rfl, ?_⟩
            have n0_ := z3a (Kd.S_below (by (with_reducible repeat (first | apply z3l | apply z3m | apply z3n)); exact HO_6.out) hb)
            have n1_ := z3a (Kd.R_below (by (with_reducible repeat (first | apply z3i | apply z3j | apply z3k)); exact HO_7.out) hb)
            have n2_ := z3a (Kd.R_below (by (with_reducible repeat (first | apply z3i | apply z3j | apply z3k)); exact HO_8.out) hb)
            have n3_ := z3a (Kd.R_below (by (with_reducible repeat (first | apply z3i | apply z3j | apply z3k)); exact HO_9.out) hb)
            have n4_ := z3a (below_step (by repeat (first | (with_reducible first | exact HB.out | apply z3d | apply z3b | apply z3c) | exact HB.out)) hb)
            clear HO_6
            clear HO_7
            clear HO_8
            clear HO_9
            clear HB
            have HO_6 := n0_
            have HO_7 := n1_
            have HO_8 := n2_
            have HO_9 := n3_
            have HB := n4_
            clear n0_ n1_ n2_ n3_ n4_
            (try clear hb)
            (try clear hb2)
            (try clear hk)
            (try clear hi)
            refine hK.out _ _ ⟨((HB.out.cell (z3e w _ hw394_0)).trans hw394_0), ((HB.out.cell (z3e w _ hw394_1)).trans hw394_1), ((HB.out.cell (z3e w _ hw394_2)).trans hw394_2)⟩ (fun hHeld => ?_)
            clear hK K
            refine norm_ (a' := ?_) ?_ ?_
            rotate_left
            ·show Act.put _ (some 45) _ = _
             simp only [Act.put, zp3a, zp3b, zp3c, i64_w, i32_w]
             rfl
            refine pure_ (i := 9) (N := some 46) (v := ?_) (a' := ?_) #[zt3,zt3,zt3,zt3,zt3,zt3,zt3,zt3,zt3,zt3,zt3,zt3,zt3,zt3,zf3,zf3,zt3,zf3,zf3] rfl rfl (any_of HT_.out (by kernel_rfl)) (fun _ _ _ h => h) (Or.inl ⟨by rfl, ?_⟩) ?_ ?_
            rotate_left
            ·intro w'
             go_simp
             with_reducible rfl
            rotate_left
            ·simp only [Act.put, zp3a, zp3b, zp3c, i64_w, i32_w]
             rfl
            refine one_ (i := 14) (N := some 51) #[zt3,zt3,zt3,zt3,zt3,zt3,zt3,zt3,zt3,zt3,zt3,zt3,zt3,zt3,zt3,zf3,zt3,zf3,zf3] rfl rfl (one_of HT_.out (by kernel_rfl)) (by decide) (fun K hK => ?_)
            refine goes_ Try.func115 (by kernel_rfl) rfl #[.agg #[.int .i64 ((rd_T71 l0 x10_2).f0), .int .i64 ((rd_T71 l0 x10_2).f1), .int .i64 ((rd_T71 l0 x10_2).f2)]] (by rfl) rfl rfl (by (try simp only [zm3a, zm3b, zm3c]); first | done | rfl | (simp only [zm3d, zm3e]; rfl)) ?_
            with_reducible refine (y_lb.calls ((rd_T71 l0 x10_2).f0) ((rd_T71 l0 x10_2).f1) ((rd_T71 l0 x10_2).f2) t395 _ A30.out).mono ?_
            rintro e w36 ⟨rfl, hb⟩
            refine ⟨_, rfl, ?_⟩
            have n0_ := z3a (Kd.S_below (by (with_reducible repeat (first | apply z3l | apply z3m | apply z3n)); exact HO_6.out) hb)
            have n1_ := z3a (Kd.R_below (by (with_reducible repeat (first | apply z3i | apply z3j | apply z3k)); exact HO_7.out) hb)
            have n2_ := z3a (Kd.R_below (by (with_reducible repeat (first | apply z3i | apply z3j | apply z3k)); exact HO_8.out) hb)
            have n3_ := z3a (Kd.R_below (by (with_reducible repeat (first | apply z3i | apply z3j | apply z3k)); exact HO_9.out) hb)
            have n4_ := z3a (below_step (by repeat (first | (with_reducible first | exact HB.out | apply z3d | apply z3b | apply z3c) | exact HB.out)) hb)
            clear HO_6
            clear HO_7
            clear HO_8
            clear HO_9
            clear HB
            have HO_6 := n0_
            have HO_7 := n1_
            have HO_8 := n2_
            have HO_9 := n3_
            have HB := n4_
            clear n0_ n1_ n2_ n3_ n4_
            (try clear hb)
            (try clear hb2)
            (try clear hk)
            (try clear hi)
            refine hK.out _ _ ⟨((HB.out.cell (z3e w _ hw394_0)).trans hw394_0), ((HB.out.cell (z3e w _ hw394_1)).trans hw394_1), ((HB.out.cell (z3e w _ hw394_2)).trans hw394_2)⟩ (fun hHeld => ?_)
            clear hK K
            refine norm_ (a' := ?_) ?_ ?_
            rotate_left
            ·show Act.put _ (some 51) _ = _
             simp only [Act.put, zp3a, zp3b, zp3c, i64_w, i32_w]
             rfl
            refine pure_ (i := 15) (N := some 52) (v := ?_) (a' := ?_) #[zt3,zt3,zt3,zt3,zt3,zt3,zt3,zt3,zt3,zt3,zt3,zt3,zt3,zt3,zt3,zt3,zt3,zf3,zf3] rfl rfl (any_of HT_.out (by kernel_rfl)) (fun _ _ _ h => h) (Or.inl ⟨by rfl, ?_⟩) ?_ ?_
            rotate_left
            ·intro w'
             go_simp
             with_reducible rfl
            rotate_left
            ·simp only [Act.put, zp3a, zp3b, zp3c, i64_w, i32_w]
             rfl
            refine pure_ (i := 17) (N := some 54) (v := ?_) (a' := ?_) #[zt3,zt3,zt3,zt3,zt3,zt3,zt3,zt3,zt3,zt3,zt3,zt3,zt3,zt3,zt3,zt3,zt3,zt3,zf3] rfl rfl (any_of HT_.out (by kernel_rfl)) (fun _ _ _ h => h) (Or.inl ⟨by rfl, ?_⟩) ?_ ?_
            rotate_left
            ·intro w'
             go_simp
             with_reducible rfl
            rotate_left
            ·simp only [Act.put, zp3a, zp3b, zp3c, i64_w, i32_w]
             rfl
            refine pure_ (i := 18) (N := some 55) (v := ?_) (a' := ?_) #[zt3,zt3,zt3,zt3,zt3,zt3,zt3,zt3,zt3,zt3,zt3,zt3,zt3,zt3,zt3,zt3,zt3,zt3,zt3] rfl rfl (any_of HT_.out (by kernel_rfl)) (fun _ _ _ h => h) (Or.inl ⟨by rfl, ?_⟩) ?_ ?_
            rotate_left
            ·intro w'
             go_simp
             with_reducible rfl
            rotate_left
            ·simp only [Act.put, zp3a, zp3b, zp3c, i64_w, i32_w]
             rfl
            refine done_ (done_of HT_.out (by kernel_rfl)) ?_
            try go_wp2
            go_meet
            case rel => exact ⟨_, (decide ((wrap64 ((wrap64 (t392 + t393)) + t395)) ≤ a1)), (by first | rfl | (simp; done) | (simp [*]; done)), H', ⟨by have := HJ2.out; have := HK2.out; have := HJ19.out; first | omega | exact Nat.le_refl _⟩, ⟨by (with_reducible repeat (first | apply z3l | apply z3m | apply z3n)); exact HO_6.out⟩, ⟨by (with_reducible repeat (first | apply z3i | apply z3j | apply z3k)); exact HO_7.out⟩, ⟨by (with_reducible repeat (first | apply z3i | apply z3j | apply z3k)); exact HO_8.out⟩, ⟨by (with_reducible repeat (first | apply z3i | apply z3j | apply z3k)); exact HO_9.out⟩, ⟨by repeat (first | (with_reducible first | exact HB.out | apply z3d | apply z3b | apply z3c) | exact HB.out)⟩⟩
           ·rw [if_neg c29] at H
            exact absurd H (by simp)
          ·rw [if_neg c26] at H
           have c26b0 : decide (x10_2 < (l0.length : Int)) = false := decide_eq_false c26
           clear c26
           (first | rw [c26b0] | (simp only [i64_w, i32_w]; rw [c26b0]) | skip)
           have H' := z3a H
           clear H
           try go_wp2
           have n0_ := z3a (z3n HO_6.out)
           have n1_ := z3a (z3k HO_7.out)
           have n2_ := z3a (z3k HO_8.out)
           have n3_ := z3a (z3k HO_9.out)
           have n4_ := z3a (z3c HB.out)
           clear HO_6
           clear HO_7
           clear HO_8
           clear HO_9
           clear HB
           have HO_6 := n0_
           have HO_7 := n1_
           have HO_8 := n2_
           have HO_9 := n3_
           have HB := n4_
           clear n0_ n1_ n2_ n3_ n4_
           refine start_ (n := 19) (S := fun w' => True) (ds := []) #[zf3,zf3,zf3,zf3,zf3,zf3,zf3,zf3,zf3,zf3,zf3,zf3,zf3,zf3,zf3,zf3,zf3,zf3,zf3] (by kernel_rfl) rfl rfl trivial (fun hHeld => ?_); refine with_tabW y_b.tab9 y_b.bits9 (fun HT_ HW_ => ?_)
           generalize wc.drew = w37 at HO_6 HO_7 HO_8 HO_9 HB hHeld ⊢
           refine pure_ (i := 0) (N := some 37) (v := ?_) (a' := ?_) #[zt3,zf3,zf3,zf3,zf3,zf3,zf3,zf3,zf3,zf3,zf3,zf3,zf3,zf3,zf3,zf3,zf3,zf3,zf3] rfl rfl (any_of HT_.out (by kernel_rfl)) (fun _ _ _ h => h) (Or.inl ⟨by rfl, ?_⟩) ?_ ?_
           rotate_left
           ·intro w'
            go_simp
            with_reducible rfl
           rotate_left
           ·simp only [Act.put, zp3a, zp3b, zp3c, i64_w, i32_w]
            rfl
           refine pure_ (i := 1) (N := some 38) (v := ?_) (a' := ?_) #[zt3,zt3,zf3,zf3,zf3,zf3,zf3,zf3,zf3,zf3,zf3,zf3,zf3,zf3,zf3,zf3,zf3,zf3,zf3] rfl rfl (any_of HT_.out (by kernel_rfl)) (fun _ _ _ h => h) (Or.inl ⟨by rfl, ?_⟩) ?_ ?_
           rotate_left
           ·intro w'
            go_simp
            with_reducible rfl
           rotate_left
           ·simp only [Act.put, zp3a, zp3b, zp3c, i64_w, i32_w]
            rfl
           refine pure_ (i := 2) (N := some 39) (v := ?_) (a' := ?_) #[zt3,zt3,zt3,zf3,zf3,zf3,zf3,zf3,zf3,zf3,zf3,zf3,zf3,zf3,zf3,zf3,zf3,zf3,zf3] rfl rfl (any_of HT_.out (by kernel_rfl)) (fun _ _ _ h => h) (Or.inl ⟨by rfl, ?_⟩) ?_ ?_
           rotate_left
           ·intro w'
            go_simp
            with_reducible rfl
           rotate_left
           ·simp only [Act.put, zp3a, zp3b, zp3c, i64_w, i32_w]
            rfl
           refine pure_ (i := 3) (N := some 40) (v := ?_) (a' := ?_) #[zt3,zt3,zt3,zt3,zf3,zf3,zf3,zf3,zf3,zf3,zf3,zf3,zf3,zf3,zf3,zf3,zf3,zf3,zf3] rfl rfl (any_of HT_.out (by kernel_rfl)) (fun _ _ _ h => h) (Or.inl ⟨by rfl, ?_⟩) ?_ ?_
           rotate_left
           ·intro w'
            go_simp
            with_reducible rfl
           rotate_left
           ·simp only [Act.put, zp3a, zp3b, zp3c, i64_w, i32_w]
            rfl
           refine pure_ (i := 4) (N := some 41) (v := ?_) (a' := ?_) #[zt3,zt3,zt3,zt3,zt3,zf3,zf3,zf3,zf3,zf3,zf3,zf3,zf3,zf3,zf3,zf3,zf3,zf3,zf3] rfl rfl (any_of HT_.out (by kernel_rfl)) (fun _ _ _ h => h) (Or.inl ⟨by rfl, ?_⟩) ?_ ?_
           rotate_left
           ·intro w'
            go_simp
            with_reducible rfl
           rotate_left
           ·simp only [Act.put, zp3a, zp3b, zp3c, i64_w, i32_w]
            rfl
           refine pure_ (i := 5) (N := some 42) (v := undef) (a' := ?_) #[zt3,zt3,zt3,zt3,zt3,zt3,zf3,zf3,zf3,zf3,zf3,zf3,zf3,zf3,zf3,zf3,zf3,zf3,zf3] rfl rfl (any_of HT_.out (by kernel_rfl)) (fun _ _ _ h => h) (Or.inr ⟨by rfl, rfl⟩) ?_ ?_
           rotate_left
           ·simp only [Act.put, zp3a, zp3b, zp3c, i64_w, i32_w]
            rfl
           refine pure_ (i := 6) (N := some 43) (v := undef) (a' := ?_) #[zt3,zt3,zt3,zt3,zt3,zt3,zt3,zf3,zf3,zf3,zf3,zf3,zf3,zf3,zf3,zf3,zf3,zf3,zf3] rfl rfl (any_of HT_.out (by kernel_rfl)) (fun _ _ _ h => h) (Or.inr ⟨by rfl, rfl⟩) ?_ ?_
           rotate_left
           ·simp only [Act.put, zp3a, zp3b, zp3c, i64_w, i32_w]
            rfl
           refine pure_ (i := 7) (N := some 44) (v := undef) (a' := ?_) #[zt3,zt3,zt3,zt3,zt3,zt3,zt3,zt3,zf3,zf3,zf3,zf3,zf3,zf3,zf3,zf3,zf3,zf3,zf3] rfl rfl (any_of HT_.out (by kernel_rfl)) (fun _ _ _ h => h) (Or.inr ⟨by rfl, rfl⟩) ?_ ?_
           rotate_left
           ·simp only [Act.put, zp3a, zp3b, zp3c, i64_w, i32_w]
            rfl
           refine pure_ (i := 8) (N := some 45) (v := undef) (a' := ?_) #[zt3,zt3,zt3,zt3,zt3,zt3,zt3,zt3,zt3,zf3,zf3,zf3,zf3,zf3,zf3,zf3,zf3,zf3,zf3] rfl rfl (any_of HT_.out (by kernel_rfl)) (fun _ _ _ h => h) (Or.inr ⟨by rfl, rfl⟩) ?_ ?_
           rotate_left
           ·simp only [Act.put, zp3a, zp3b, zp3c, i64_w, i32_w]
            rfl
           refine pure_ (i := 9) (N := some 46) (v := undef) (a' := ?_) #[zt3,zt3,zt3,zt3,zt3,zt3,zt3,zt3,zt3,zt3,zf3,zf3,zf3,zf3,zf3,zf3,zf3,zf3,zf3] rfl rfl (any_of HT_.out (by kernel_rfl)) (fun _ _ _ h => h) (Or.inr ⟨by rfl, rfl⟩) ?_ ?_
           rotate_left
           ·simp only [Act.put, zp3a, zp3b, zp3c, i64_w, i32_w]
            rfl
           refine pure_ (i := 10) (N := some 47) (v := undef) (a' := ?_) #[zt3,zt3,zt3,zt3,zt3,zt3,zt3,zt3,zt3,zt3,zt3,zf3,zf3,zf3,zf3,zf3,zf3,zf3,zf3] rfl rfl (any_of HT_.out (by kernel_rfl)) (fun _ _ _ h => h) (Or.inr ⟨by rfl, rfl⟩) ?_ ?_
           rotate_left
           ·simp only [Act.put, zp3a, zp3b, zp3c, i64_w, i32_w]
            rfl
           refine pure_ (i := 11) (N := some 48) (v := undef) (a' := ?_) #[zt3,zt3,zt3,zt3,zt3,zt3,zt3,zt3,zt3,zt3,zt3,zt3,zf3,zf3,zf3,zf3,zf3,zf3,zf3] rfl rfl (any_of HT_.out (by kernel_rfl)) (fun _ _ _ h => h) (Or.inr ⟨by rfl, rfl⟩) ?_ ?_
           rotate_left
           ·simp only [Act.put, zp3a, zp3b, zp3c, i64_w, i32_w]
            rfl
           refine pure_ (i := 12) (N := some 49) (v := undef) (a' := ?_) #[zt3,zt3,zt3,zt3,zt3,zt3,zt3,zt3,zt3,zt3,zt3,zt3,zt3,zf3,zf3,zf3,zf3,zf3,zf3] rfl rfl (any_of HT_.out (by kernel_rfl)) (fun _ _ _ h => h) (Or.inr ⟨by rfl, rfl⟩) ?_ ?_
           rotate_left
           ·simp only [Act.put, zp3a, zp3b, zp3c, i64_w, i32_w]
            rfl
           refine pure_ (i := 13) (N := some 50) (v := undef) (a' := ?_) #[zt3,zt3,zt3,zt3,zt3,zt3,zt3,zt3,zt3,zt3,zt3,zt3,zt3,zt3,zf3,zf3,zf3,zf3,zf3] rfl rfl (any_of HT_.out (by kernel_rfl)) (fun _ _ _ h => h) (Or.inr ⟨by rfl, rfl⟩) ?_ ?_
           rotate_left
           ·simp only [Act.put, zp3a, zp3b, zp3c, i64_w, i32_w]
            rfl
           refine pure_ (i := 14) (N := some 51) (v := undef) (a' := ?_) #[zt3,zt3,zt3,zt3,zt3,zt3,zt3,zt3,zt3,zt3,zt3,zt3,zt3,zt3,zt3,zf3,zf3,zf3,zf3] rfl rfl (any_of HT_.out (by kernel_rfl)) (fun _ _ _ h => h) (Or.inr ⟨by rfl, rfl⟩) ?_ ?_
           rotate_left
           ·simp only [Act.put, zp3a, zp3b, zp3c, i64_w, i32_w]
            rfl
           refine pure_ (i := 15) (N := some 52) (v := undef) (a' := ?_) #[zt3,zt3,zt3,zt3,zt3,zt3,zt3,zt3,zt3,zt3,zt3,zt3,zt3,zt3,zt3,zt3,zf3,zf3,zf3] rfl rfl (any_of HT_.out (by kernel_rfl)) (fun _ _ _ h => h) (Or.inr ⟨by rfl, rfl⟩) ?_ ?_
           rotate_left
           ·simp only [Act.put, zp3a, zp3b, zp3c, i64_w, i32_w]
            rfl
           refine pure_ (i := 16) (N := some 53) (v := undef) (a' := ?_) #[zt3,zt3,zt3,zt3,zt3,zt3,zt3,zt3,zt3,zt3,zt3,zt3,zt3,zt3,zt3,zt3,zt3,zf3,zf3] rfl rfl (any_of HT_.out (by kernel_rfl)) (fun _ _ _ h => h) (Or.inr ⟨by rfl, rfl⟩) ?_ ?_
           rotate_left
           ·simp only [Act.put, zp3a, zp3b, zp3c, i64_w, i32_w]
            rfl
           refine pure_ (i := 17) (N := some 54) (v := undef) (a' := ?_) #[zt3,zt3,zt3,zt3,zt3,zt3,zt3,zt3,zt3,zt3,zt3,zt3,zt3,zt3,zt3,zt3,zt3,zt3,zf3] rfl rfl (any_of HT_.out (by kernel_rfl)) (fun _ _ _ h => h) (Or.inr ⟨by rfl, rfl⟩) ?_ ?_
           rotate_left
           ·simp only [Act.put, zp3a, zp3b, zp3c, i64_w, i32_w]
            rfl
           refine pure_ (i := 18) (N := some 55) (v := ?_) (a' := ?_) #[zt3,zt3,zt3,zt3,zt3,zt3,zt3,zt3,zt3,zt3,zt3,zt3,zt3,zt3,zt3,zt3,zt3,zt3,zt3] rfl rfl (any_of HT_.out (by kernel_rfl)) (fun _ _ _ h => h) (Or.inl ⟨by rfl, ?_⟩) ?_ ?_
           rotate_left
           ·intro w'
            go_simp
            with_reducible rfl
           rotate_left
           ·simp only [Act.put, zp3a, zp3b, zp3c, i64_w, i32_w]
            rfl
           refine done_ (done_of HT_.out (by kernel_rfl)) ?_
           try go_wp2
           go_meet
           case rel => exact ⟨_, (false), (by first | rfl | (simp; done) | (simp [*]; done)), H', ⟨by have := HJ2.out; have := HK2.out; have := HJ19.out; first | omega | exact Nat.le_refl _⟩, ⟨by (with_reducible repeat (first | apply z3l | apply z3m | apply z3n)); exact HO_6.out⟩, ⟨by (with_reducible repeat (first | apply z3i | apply z3j | apply z3k)); exact HO_7.out⟩, ⟨by (with_reducible repeat (first | apply z3i | apply z3j | apply z3k)); exact HO_8.out⟩, ⟨by (with_reducible repeat (first | apply z3i | apply z3j | apply z3k)); exact HO_9.out⟩, ⟨by repeat (first | (with_reducible first | exact HB.out | apply z3d | apply z3b | apply z3c) | exact HB.out)⟩⟩
         case rest =>
          clear HC25
          try clear c1
          try clear c2
          try clear p2
          try clear c3
          try clear p3
          try clear q3
          try clear hx3
          try clear c5
          try clear p6
          try clear c9
          try clear c11
          try clear c18
          try clear c21
          try clear c21b0
          try clear c24
          try clear c26
          try clear c26b0
          try clear c29
          try clear c29b0
          try clear c31
          try clear hx394_0
          try clear hx394_1
          try clear hx394_2
          try clear p2
          try clear p394
          try clear p6
          try clear q394
          obtain ⟨kq, x55_24, rfl, HA, HJ24, HO_6, HO_7, HO_8, HO_9, HB⟩ := hcut
          cases kq with
          | zero => exact absurd HA.out (by simp [y_b.j3])
          | succ kj24 =>
           have H := HA.out
           clear HA
           simp only [y_b.j3] at H
           by_cases c38 : x55_24 = true
           ·subst c38
            rw [if_pos rfl] at H
            by_cases c39 : (x7_2.length : Int) > 0
            ·rw [if_pos c39] at H
             have c39b0 : decide (0 < (x7_2.length : Int)) = true := z3h c39
             have c39b1 : decide (0 < x7_2.length) = true := z3h (by omega)
             clear c39
             by_cases c40 : 0 ≤ x10_2
             ·rw [if_pos c40] at H
              have c40b0 : decide (0 ≤ x10_2) = true := z3h c40
              clear c40
              by_cases c41 : x10_2 < (l0.length : Int)
              ·rw [if_pos c41] at H
               have c41b0 : decide (x10_2 < (l0.length : Int)) = true := z3h c41
               clear c41
               obtain ⟨ji42, hji42⟩ : ∃ j_ : Int, (wrap64 ((x7_2.length : Int) - 1)) = j_ := ⟨_, rfl⟩
               replace H : (if 0 ≤ (ji42) then (if (ji42) < (x7_2.length : Int) then ((y_l.f kj24 ((rd_T71 l0 x10_2).f0) ((rd_T71 l0 x10_2).f1) ((rd_T71 l0 x10_2).f2) ((rd_T71 x7_2 (ji42)).f0) ((rd_T71 x7_2 (ji42)).f1) ((rd_T71 x7_2 (ji42)).f2)).bind fun t398 => (if t398 < 0 then (if x9_2.length < 5864062014805 then (y_b.l0 kj24 l0 a1 x6_2 x7_2 x8_2 (x9_2 ++ [(⟨(rd_T71 l0 x10_2).f0, (rd_T71 l0 x10_2).f1, (rd_T71 l0 x10_2).f2⟩ : S71)]) (wrap64 (x10_2 + 1))) else (none)) else (if x8_2.length < 5864062014805 then (y_b.l0 kj24 l0 a1 x6_2 x7_2 (x8_2 ++ [(⟨(rd_T71 l0 x10_2).f0, (rd_T71 l0 x10_2).f1, (rd_T71 l0 x10_2).f2⟩ : S71)]) x9_2 (wrap64 (x10_2 + 1))) else (none)))) else (none)) else (none)) = some (r1, r2) := by first | (rw [hji42] at H; exact H) | (simp only [hji42] at H ⊢; exact H)
               have hji42w : (IntKind.i64.wrap ((x7_2.length : Int) - 1)) = ji42 := (i64_w _).trans hji42
               by_cases c43 : 0 ≤ (ji42)
               ·rw [if_pos c43] at H
                have c43b0 : decide (0 ≤ (ji42)) = true := z3h c43
                clear c43
                by_cases c44 : (ji42) < (x7_2.length : Int)
                ·rw [if_pos c44] at H
                 have c44b0 : decide ((ji42) < (x7_2.length : Int)) = true := z3h c44
                 clear c44
                 replace H := z3f.mp H
                 obtain ⟨t398, A450, H⟩ := H
                 have A45 := z3a A450
                 clear A450
                 by_cases c46 : t398 < 0
                 ·rw [if_pos c46] at H
                  have c46b0 : decide (t398 < 0) = true := z3h c46
                  clear c46
                  by_cases c47 : x9_2.length < 5864062014805
                  ·rw [if_pos c47] at H
                   have LMc47 := z3a c47
                   clear c47
                   obtain ⟨y400, hy400⟩ : ∃ y_ : List (S71), y_ = (x9_2 ++ [(⟨(rd_T71 l0 x10_2).f0, (rd_T71 l0 x10_2).f1, (rd_T71 l0 x10_2).f2⟩ : S71)]) := ⟨_, rfl⟩
                   replace H : (y_b.l0 kj24 l0 a1 x6_2 x7_2 x8_2 y400 (wrap64 (x10_2 + 1))) = some (r1, r2) := by first | (rw [hy400]; with_reducible exact H) | (have H2_ := (Option.bind_some _ _).symm.trans H; rw [hy400]; with_reducible exact H2_) | (have H2_ := (Option.bind_some _ _).symm.trans H; with_reducible exact H2_) | with_reducible exact H | (rw [hy400]; exact H) | exact H
                   have Ny400 := z3a hy400
                   clear hy400
                   have H' := z3a H
                   clear H
                   try go_wp2
                   have n0_ := z3a (z3n HO_6.out)
                   have n1_ := z3a (z3k HO_7.out)
                   have n2_ := z3a (z3k HO_8.out)
                   have n3_ := z3a (z3k HO_9.out)
                   have n4_ := z3a (z3c HB.out)
                   clear HO_6
                   clear HO_7
                   clear HO_8
                   clear HO_9
                   clear HB
                   have HO_6 := n0_
                   have HO_7 := n1_
                   have HO_8 := n2_
                   have HO_9 := n3_
                   have HB := n4_
                   clear n0_ n1_ n2_ n3_ n4_
                   obtain ⟨Ao49, co49, eo49⟩ := Kd.R_slice HO_7.out
                   (first | subst eo49 | (injection eo49 with f1_ f2_ f3_; have f4_ := f1_.symm; have f5_ := f3_.symm; clear f1_ f2_ f3_; subst f4_; subst f5_))
                   have p396 : 0 ≤ (x10_2 : Int) := z3g (by first | (with_reducible assumption) | assumption)
                   have q396 : x10_2 < (l0.length : Int) := z3g (by first | (with_reducible assumption) | assumption)
                   obtain ⟨ad396, e396, hx396_0, hx396_1, hx396_2⟩ := at_T71 HR0.out x10_2 p396 q396
                   have hw396_2 := hx396_2
                   have hw396_1 := hx396_1
                   have hw396_0 := hx396_0
                   cases e396
                   replace hx396_0 := (HB.out.cell (z3e w _ hx396_0)).trans hx396_0
                   replace hx396_1 := (HB.out.cell (z3e w _ hx396_1)).trans hx396_1
                   replace hx396_2 := (HB.out.cell (z3e w _ hx396_2)).trans hx396_2
                   replace p396 := eq_true p396
                   replace q396 := eq_true q396
                   have p397 : 0 ≤ ((ji42) : Int) := z3g (by first | (with_reducible assumption) | assumption)
                   have q397 : (ji42) < (x7_2.length : Int) := z3g (by first | (with_reducible assumption) | assumption)
                   obtain ⟨ad397, e397, hx397_0, hx397_1, hx397_2⟩ := at_T71 (Kd.R_reads' HO_7.out).2.2 (ji42) p397 q397
                   cases e397
                   replace p397 := eq_true p397
                   replace q397 := eq_true q397
                   refine start_ (n := 17) (S := fun w' => w'.cell? (ad396.add ((x10_2).toNat * 3)) = some (.int .i64 ((rd_T71 l0 x10_2).f0)) ∧ w'.cell? ⟨(ad396.add ((x10_2).toNat * 3)).block, (ad396.add ((x10_2).toNat * 3)).off + 1, none⟩ = some (.int .i64 ((rd_T71 l0 x10_2).f1)) ∧ w'.cell? ⟨(ad396.add ((x10_2).toNat * 3)).block, (ad396.add ((x10_2).toNat * 3)).off + 2, none⟩ = some (.int .i64 ((rd_T71 l0 x10_2).f2)) ∧ w'.cell? (ad397.add (((ji42)).toNat * 3)) = some (.int .i64 ((rd_T71 x7_2 (ji42)).f0)) ∧ w'.cell? ⟨(ad397.add (((ji42)).toNat * 3)).block, (ad397.add (((ji42)).toNat * 3)).off + 1, none⟩ = some (.int .i64 ((rd_T71 x7_2 (ji42)).f1)) ∧ w'.cell? ⟨(ad397.add (((ji42)).toNat * 3)).block, (ad397.add (((ji42)).toNat * 3)).off + 2, none⟩ = some (.int .i64 ((rd_T71 x7_2 (ji42)).f2))) (ds := []) zq3_0 (by kernel_rfl) rfl rfl ⟨((HB.out.cell (z3e w _ hw396_0)).trans hw396_0), ((HB.out.cell (z3e w _ hw396_1)).trans hw396_1), ((HB.out.cell (z3e w _ hw396_2)).trans hw396_2), hx397_0, hx397_1, hx397_2⟩ (fun hHeld => ?_); refine with_tabW y_b.tab10 y_b.bits10 (fun HT_ HW_ => ?_)
                   generalize wc.drew = w48 at HO_6 HO_7 HO_8 HO_9 HB hx396_0 hx396_1 hx396_2 hx397_0 hx397_1 hx397_2 hHeld ⊢
                   refine pure_ (i := 0) (N := some 56) (v := ?_) (a' := ?_) zq3_1 rfl rfl (any_of HT_.out (by kernel_rfl)) (fun _ _ _ h => h) (Or.inl ⟨by rfl, ?_⟩) ?_ ?_
                   rotate_left
                   ·intro w'
                    go_simp
                    with_reducible rfl
                   rotate_left
                   ·simp only [Act.put, zp3a, zp3b, zp3c, i64_w, i32_w]
                    rfl
                   refine pure_ (i := 1) (N := some 57) (v := ?_) (a' := ?_) zq3_2 rfl rfl (any_of HT_.out (by kernel_rfl)) (fun _ _ _ h => h) (Or.inl ⟨by rfl, ?_⟩) ?_ ?_
                   rotate_left
                   ·intro w'
                    go_simp
                    with_reducible rfl
                   rotate_left
                   ·simp only [Act.put, zp3a, zp3b, zp3c, i64_w, i32_w]
                    rfl
                   refine pure_ (i := 2) (N := some 58) (v := ?_) (a' := ?_) zq3_3 rfl rfl (any_of HT_.out (by kernel_rfl)) (fun _ _ _ h => h) (Or.inl ⟨by rfl, ?_⟩) ?_ ?_
                   rotate_left
                   ·intro w'
                    go_simp
                    with_reducible rfl
                   rotate_left
                   ·simp only [Act.put, zp3a, zp3b, zp3c, i64_w, i32_w]
                    rfl
                   refine pure_ (i := 3) (N := some 59) (v := ?_) (a' := ?_) zq3_4 rfl rfl (any_of HT_.out (by kernel_rfl)) (fun _ _ _ h => h) (Or.inl ⟨by rfl, ?_⟩) ?_ ?_
                   rotate_left
                   ·intro w'
                    go_simp
                    with_reducible rfl
                   rotate_left
                   ·simp only [Act.put, zp3a, zp3b, zp3c, i64_w, i32_w]
                    rfl
                   refine pure_ (i := 4) (N := some 60) (v := ?_) (a' := ?_) zq3_5 rfl rfl (any_of HT_.out (by kernel_rfl)) (fun _ _ _ h => h) (Or.inl ⟨by rfl, ?_⟩) ?_ ?_
                   rotate_left
                   ·intro w'
                    go_simp
                    with_reducible rfl
                   rotate_left
                   ·simp only [Act.put, zp3a, zp3b, zp3c, i64_w, i32_w]
                    rfl
                   refine pure_ (i := 5) (N := some 61) (v := ?_) (a' := ?_) zq3_6 rfl rfl (any_of HT_.out (by kernel_rfl)) (fun _ _ _ h => h) (Or.inl ⟨by rfl, ?_⟩) ?_ ?_
                   rotate_left
                   ·intro w'
                    go_simp
                    with_reducible rfl
                   rotate_left
                   ·simp only [Act.put, zp3a, zp3b, zp3c, i64_w, i32_w]
                    rfl
                   refine pure_ (i := 6) (N := some 62) (v := ?_) (a' := ?_) zq3_7 rfl rfl (any_of HT_.out (by kernel_rfl)) (fun _ _ _ h => h) (Or.inl ⟨by rfl, ?_⟩) ?_ ?_
                   rotate_left
                   ·intro w'
                    go_simp
                    with_reducible rfl
                   rotate_left
                   ·simp only [Act.put, zp3a, zp3b, zp3c, i64_w, i32_w]
                    rfl
                   refine pure_ (i := 8) (N := some 64) (v := ?_) (a' := ?_) #[zt3,zt3,zt3,zt3,zt3,zt3,zt3,zf3,zt3,zf3,zf3,zf3,zf3,zf3,zf3,zf3,zf3] rfl rfl (any_of HT_.out (by kernel_rfl)) (fun _ _ _ h => h) (Or.inl ⟨by rfl, ?_⟩) ?_ ?_
                   rotate_left
                   ·intro w'
                    go_simp
                    with_reducible rfl
                   rotate_left
                   ·simp only [Act.put, zp3a, zp3b, zp3c, i64_w, i32_w]
                    rfl
                   refine pure_ (i := 9) (N := some 65) (v := ?_) (a' := ?_) #[zt3,zt3,zt3,zt3,zt3,zt3,zt3,zf3,zt3,zt3,zf3,zf3,zf3,zf3,zf3,zf3,zf3] rfl rfl (any_of HT_.out (by kernel_rfl)) (fun _ _ _ h => h) (Or.inl ⟨by rfl, ?_⟩) ?_ ?_
                   rotate_left
                   ·intro w'
                    go_simp
                    with_reducible rfl
                   rotate_left
                   ·simp only [Act.put, zp3a, zp3b, zp3c, i64_w, i32_w]
                    rfl
                   refine pure_ (i := 10) (N := some 66) (v := ?_) (a' := ?_) #[zt3,zt3,zt3,zt3,zt3,zt3,zt3,zf3,zt3,zt3,zt3,zf3,zf3,zf3,zf3,zf3,zf3] rfl rfl (any_of HT_.out (by kernel_rfl)) (fun _ _ _ h => h) (Or.inl ⟨by rfl, ?_⟩) ?_ ?_
                   rotate_left
                   ·intro w'
                    go_simp
                    with_reducible rfl
                   rotate_left
                   ·simp only [Act.put, zp3a, zp3b, zp3c, i64_w, i32_w]
                    rfl
                   refine pure_ (i := 11) (N := some 67) (v := ?_) (a' := ?_) #[zt3,zt3,zt3,zt3,zt3,zt3,zt3,zf3,zt3,zt3,zt3,zt3,zf3,zf3,zf3,zf3,zf3] rfl rfl (any_of HT_.out (by kernel_rfl)) (fun _ _ _ h => h) (Or.inl ⟨by rfl, ?_⟩) ?_ ?_
                   rotate_left
                   ·intro w'
                    go_simp
                    with_reducible rfl
                   rotate_left
                   ·simp only [Act.put, zp3a, zp3b, zp3c, i64_w, i32_w]
                    rfl
                   refine pure_ (i := 12) (N := some 68) (v := ?_) (a' := ?_) #[zt3,zt3,zt3,zt3,zt3,zt3,zt3,zf3,zt3,zt3,zt3,zt3,zt3,zf3,zf3,zf3,zf3] rfl rfl (any_of HT_.out (by kernel_rfl)) (fun _ _ _ h => h) (Or.inl ⟨by rfl, ?_⟩) ?_ ?_
                   rotate_left
                   ·intro w'
                    go_simp
                    with_reducible rfl
                   rotate_left
                   ·simp only [Act.put, zp3a, zp3b, zp3c, i64_w, i32_w]
                    rfl
                   refine take_ (i := 7) (N := some 63) (v := ?_) (a' := ?_) zq3_8 rfl rfl (take_ofW HT_.out HW_.out (by kernel_rfl)) (fun _ _ _ h => h) (Or.inl ⟨by rfl, ?_⟩) hHeld ?_ ?_
                   rotate_left
                   ·rintro w' ⟨s0, s1, s2, s3, s4, s5⟩
                    go_simp
                    with_reducible rfl
                   rotate_left
                   ·simp only [Act.put, zp3a, zp3b, zp3c, i64_w, i32_w]
                    rfl
                   refine take_ (i := 13) (N := some 69) (v := ?_) (a' := ?_) zq3_9 rfl rfl (take_ofW HT_.out HW_.out (by kernel_rfl)) (fun _ _ _ h => h) (Or.inl ⟨by rfl, ?_⟩) hHeld ?_ ?_
                   rotate_left
                   ·rintro w' ⟨s0, s1, s2, s3, s4, s5⟩
                    go_simp
                    with_reducible rfl
                   rotate_left
                   ·simp only [Act.put, zp3a, zp3b, zp3c, i64_w, i32_w]
                    rfl
                   refine one_ (i := 14) (N := some 70) zq3_10 rfl rfl (one_of HT_.out (by kernel_rfl)) (by decide) (fun K hK => ?_)
                   refine goes_ Try.func116 (by kernel_rfl) rfl #[.agg #[.int .i64 ((rd_T71 l0 x10_2).f0), .int .i64 ((rd_T71 l0 x10_2).f1), .int .i64 ((rd_T71 l0 x10_2).f2)], .agg #[.int .i64 ((rd_T71 x7_2 (ji42)).f0), .int .i64 ((rd_T71 x7_2 (ji42)).f1), .int .i64 ((rd_T71 x7_2 (ji42)).f2)]] (by rfl) rfl rfl (by (try simp only [zm3a, zm3b, zm3c]); first | done | (simp only [hji42]; rfl) | rfl | (simp only [zm3d, zm3e]; rfl)) ?_
                   with_reducible refine (y_l.calls kj24 ((rd_T71 l0 x10_2).f0) ((rd_T71 l0 x10_2).f1) ((rd_T71 l0 x10_2).f2) ((rd_T71 x7_2 (ji42)).f0) ((rd_T71 x7_2 (ji42)).f1) ((rd_T71 x7_2 (ji42)).f2) t398 _ A45.out).mono ?_
                   rintro e w50 ⟨rfl, hb⟩
                   have HS3_ := (hb.cell (z3e _ _ (hHeld.2.2.2.1))).trans (hHeld.2.2.2.1)
                   have HS4_ := (hb.cell (z3e _ _ (hHeld.2.2.2.2.1))).trans (hHeld.2.2.2.2.1)
                   have HS5_ := (hb.cell (z3e _ _ (hHeld.2.2.2.2.2))).trans (hHeld.2.2.2.2.2)
                   refine ⟨_, rfl, ?_⟩
                   have n0_ := z3a (Kd.S_below (by (with_reducible repeat (first | apply z3l | apply z3m | apply z3n)); exact HO_6.out) hb)
                   have n1_ := z3a (Kd.R_below (by (with_reducible repeat (first | apply z3i | apply z3j | apply z3k)); exact HO_7.out) hb)
                   have n2_ := z3a (Kd.R_below (by (with_reducible repeat (first | apply z3i | apply z3j | apply z3k)); exact HO_8.out) hb)
                   have n3_ := z3a (Kd.R_below (by (with_reducible repeat (first | apply z3i | apply z3j | apply z3k)); exact HO_9.out) hb)
                   have n4_ := z3a (below_step (by repeat (first | (with_reducible first | exact HB.out | apply z3d | apply z3b | apply z3c) | exact HB.out)) hb)
                   clear HO_6
                   clear HO_7
                   clear HO_8
                   clear HO_9
                   clear HB
                   have HO_6 := n0_
                   have HO_7 := n1_
                   have HO_8 := n2_
                   have HO_9 := n3_
                   have HB := n4_
                   clear n0_ n1_ n2_ n3_ n4_
                   (try clear hb)
                   (try clear hb2)
                   (try clear hk)
                   (try clear hi)
                   refine hK.out _ _ ⟨((HB.out.cell (z3e w _ hw396_0)).trans hw396_0), ((HB.out.cell (z3e w _ hw396_1)).trans hw396_1), ((HB.out.cell (z3e w _ hw396_2)).trans hw396_2), HS3_, HS4_, HS5_⟩ (fun hHeld => ?_)
                   clear hK K
                   refine norm_ (a' := ?_) ?_ ?_
                   rotate_left
                   ·show Act.put _ (some 70) _ = _
                    simp only [Act.put, zp3a, zp3b, zp3c, i64_w, i32_w]
                    rfl
                   refine pure_ (i := 15) (N := some 71) (v := ?_) (a' := ?_) zq3_11 rfl rfl (any_of HT_.out (by kernel_rfl)) (fun _ _ _ h => h) (Or.inl ⟨by rfl, ?_⟩) ?_ ?_
                   rotate_left
                   ·intro w'
                    go_simp
                    with_reducible rfl
                   rotate_left
                   ·simp only [Act.put, zp3a, zp3b, zp3c, i64_w, i32_w]
                    rfl
                   refine pure_ (i := 16) (N := some 72) (v := ?_) (a' := ?_) zq3_12 rfl rfl (any_of HT_.out (by kernel_rfl)) (fun _ _ _ h => h) (Or.inl ⟨by rfl, ?_⟩) ?_ ?_
                   rotate_left
                   ·intro w'
                    go_simp
                    with_reducible rfl
                   rotate_left
                   ·simp only [Act.put, zp3a, zp3b, zp3c, i64_w, i32_w]
                    rfl
                   refine done_ (done_of HT_.out (by kernel_rfl)) ?_
                   have p399 : 0 ≤ (x10_2 : Int) := z3g (by first | (with_reducible assumption) | assumption)
                   have q399 : x10_2 < (l0.length : Int) := z3g (by first | (with_reducible assumption) | assumption)
                   obtain ⟨ad399, e399, hx399_0, hx399_1, hx399_2⟩ := at_T71 HR0.out x10_2 p399 q399
                   obtain rfl : ad396 = ad399 := (by injection e399)
                   replace hx399_0 := (HB.out.cell (z3e w _ hx399_0)).trans hx399_0
                   replace hx399_1 := (HB.out.cell (z3e w _ hx399_1)).trans hx399_1
                   replace hx399_2 := (HB.out.cell (z3e w _ hx399_2)).trans hx399_2
                   replace p399 := eq_true p399
                   replace q399 := eq_true q399
                   try go_wp2_with (first | ((with_reducible refine gate_builtin (b := .append) (xs := #[.tmp 73, .tmp 78]) rfl ?_); (try (refine gate_guard (by rfl) ?_; dsimp only)); at_builtin; refine Kd.R_append k71 (w0 := w) w.heap.size rfl (.tmp 73) (.tmp 78) 24 71 (.agg #[(.int .i64 0), (.int .i64 0), (.int .i64 0)]) 24 rfl Try.underlying24 info71 rfl (by decide) (by omega) u9 x9_2 (⟨(rd_T71 l0 x10_2).f0, (rd_T71 l0 x10_2).f1, (rd_T71 l0 x10_2).f2⟩ : S71) [.int .i64 ((rd_T71 l0 x10_2).f0), .int .i64 ((rd_T71 l0 x10_2).f1), .int .i64 ((rd_T71 l0 x10_2).f2)] (fun k_ => some k_ ≠ (.slice (some ad397) x7_2.length co49 : Value).ownBlock ∧ some k_ ≠ (u8 : Value).ownBlock) (fun _ => False) rfl rfl ?aP (fun _ hk => hk.elim) ?aF ?aO ?aB ?aS ?aL ?_; (case aP => exact k71_mkM _ _ _ (⟨(rd_T71 l0 x10_2).f0, (rd_T71 l0 x10_2).f1, (rd_T71 l0 x10_2).f2⟩ : S71)); (case aB => exact (by repeat (first | (with_reducible first | exact HB.out | apply z3d | apply z3b | apply z3c) | exact HB.out))); (case aF => exact (fun k_ hk => ⟨Kd.fresh' (Kd.R_lt (by (with_reducible repeat (first | apply z3i | apply z3j | apply z3k)); exact HO_7.out)) k_ hk, Kd.fresh' (Kd.R_lt (by (with_reducible repeat (first | apply z3i | apply z3j | apply z3k)); exact HO_8.out)) k_ hk⟩)); (case aO => exact (by (with_reducible repeat (first | apply z3i | apply z3j | apply z3k)); exact HO_9.out)); (case aS => exact (below_size (by repeat (first | (with_reducible first | exact HB.out | apply z3d | apply z3b | apply z3c) | exact HB.out)))); (case aL => have := LMc47.out; omega); intro v401 w51 ho hb hg hat; rw [← Ny400.out] at ho; have n0_ := z3a (Kd.S_after (ok := (fun k_ => some k_ ≠ (.slice (some ad397) x7_2.length co49 : Value).ownBlock ∧ some k_ ≠ (u8 : Value).ownBlock)) (by (with_reducible repeat (first | apply z3l | apply z3m | apply z3n)); exact Kd.S_mono HO_6.out (fun _ hk => ⟨⟨hk.1, hk.2.1⟩, hk.2.2⟩)) hg hat); have n1_ := z3a (Kd.R_after (ok := (fun k_ => some k_ ≠ (u8 : Value).ownBlock)) (by (with_reducible repeat (first | apply z3i | apply z3j | apply z3k)); exact HO_7.out) hg hat); have n2_ := z3a (Kd.R_after (ok := (fun k_ => some k_ ≠ (.slice (some ad397) x7_2.length co49 : Value).ownBlock)) (by (with_reducible repeat (first | apply z3i | apply z3j | apply z3k)); exact HO_8.out) hg hat); have n3_ := z3a (hb); have n4_ := z3a (ho); clear HO_6; clear HO_7; clear HO_8; clear HB; clear HO_9; have HO_6 := n0_; have HO_7 := n1_; have HO_8 := n2_; have HB := n3_; have HO402 := n4_; clear n0_ n1_ n2_ n3_ n4_; clear ho hb hg hat))
                   go_roundg kj24
                   case measure => have := HJ2.out; have := HK2.out; have := HJ19.out; have := HJ24.out; omega
                   case rel => exact ⟨(x6_2), (x7_2), (x8_2), (y400), (wrap64 (x10_2 + 1)), (by first | rfl | (simp; done) | (simp [*]; done)), H', ⟨by have := HJ2.out; have := HK2.out; have := HJ19.out; have := HJ24.out; omega⟩, ⟨by (with_reducible repeat (first | apply z3l | apply z3m | apply z3n)); exact Kd.S_mono HO_6.out (fun _ hk => ⟨hk.1.1, ⟨hk.1.2, hk.2⟩⟩)⟩, ⟨by (with_reducible repeat (first | apply z3i | apply z3j | apply z3k)); exact HO_7.out⟩, ⟨by (with_reducible repeat (first | apply z3i | apply z3j | apply z3k)); exact HO_8.out⟩, ⟨by (with_reducible repeat (first | apply z3i | apply z3j | apply z3k)); exact HO402.out⟩, ⟨by repeat (first | (with_reducible first | exact HB.out | apply z3d | apply z3b | apply z3c) | exact HB.out)⟩⟩
                  ·rw [if_neg c47] at H
                   exact absurd H (by simp)
                 ·rw [if_neg c46] at H
                  have c46b0 : decide (t398 < 0) = false := decide_eq_false c46
                  clear c46
                  by_cases c52 : x8_2.length < 5864062014805
                  ·rw [if_pos c52] at H
                   have LMc52 := z3a c52
                   clear c52
                   obtain ⟨y404, hy404⟩ : ∃ y_ : List (S71), y_ = (x8_2 ++ [(⟨(rd_T71 l0 x10_2).f0, (rd_T71 l0 x10_2).f1, (rd_T71 l0 x10_2).f2⟩ : S71)]) := ⟨_, rfl⟩
                   replace H : (y_b.l0 kj24 l0 a1 x6_2 x7_2 y404 x9_2 (wrap64 (x10_2 + 1))) = some (r1, r2) := by first | (rw [hy404]; with_reducible exact H) | (have H2_ := (Option.bind_some _ _).symm.trans H; rw [hy404]; with_reducible exact H2_) | (have H2_ := (Option.bind_some _ _).symm.trans H; with_reducible exact H2_) | with_reducible exact H | (rw [hy404]; exact H) | exact H
                   have Ny404 := z3a hy404
                   clear hy404
                   have H' := z3a H
                   clear H
                   try go_wp2
                   have n0_ := z3a (z3n HO_6.out)
                   have n1_ := z3a (z3k HO_7.out)
                   have n2_ := z3a (z3k HO_8.out)
                   have n3_ := z3a (z3k HO_9.out)
                   have n4_ := z3a (z3c HB.out)
                   clear HO_6
                   clear HO_7
                   clear HO_8
                   clear HO_9
                   clear HB
                   have HO_6 := n0_
                   have HO_7 := n1_
                   have HO_8 := n2_
                   have HO_9 := n3_
                   have HB := n4_
                   clear n0_ n1_ n2_ n3_ n4_
                   obtain ⟨Ao54, co54, eo54⟩ := Kd.R_slice HO_7.out
                   (first | subst eo54 | (injection eo54 with f1_ f2_ f3_; have f4_ := f1_.symm; have f5_ := f3_.symm; clear f1_ f2_ f3_; subst f4_; subst f5_))
                   have p396 : 0 ≤ (x10_2 : Int) := z3g (by first | (with_reducible assumption) | assumption)
                   have q396 : x10_2 < (l0.length : Int) := z3g (by first | (with_reducible assumption) | assumption)
                   obtain ⟨ad396, e396, hx396_0, hx396_1, hx396_2⟩ := at_T71 HR0.out x10_2 p396 q396
                   have hw396_2 := hx396_2
                   have hw396_1 := hx396_1
                   have hw396_0 := hx396_0
                   cases e396
                   replace hx396_0 := (HB.out.cell (z3e w _ hx396_0)).trans hx396_0
                   replace hx396_1 := (HB.out.cell (z3e w _ hx396_1)).trans hx396_1
                   replace hx396_2 := (HB.out.cell (z3e w _ hx396_2)).trans hx396_2
                   replace p396 := eq_true p396
                   replace q396 := eq_true q396
                   have p397 : 0 ≤ ((ji42) : Int) := z3g (by first | (with_reducible assumption) | assumption)
                   have q397 : (ji42) < (x7_2.length : Int) := z3g (by first | (with_reducible assumption) | assumption)
                   obtain ⟨ad397, e397, hx397_0, hx397_1, hx397_2⟩ := at_T71 (Kd.R_reads' HO_7.out).2.2 (ji42) p397 q397
                   cases e397
                   replace p397 := eq_true p397
                   replace q397 := eq_true q397
                   refine start_ (n := 17) (S := fun w' => w'.cell? (ad396.add ((x10_2).toNat * 3)) = some (.int .i64 ((rd_T71 l0 x10_2).f0)) ∧ w'.cell? ⟨(ad396.add ((x10_2).toNat * 3)).block, (ad396.add ((x10_2).toNat * 3)).off + 1, none⟩ = some (.int .i64 ((rd_T71 l0 x10_2).f1)) ∧ w'.cell? ⟨(ad396.add ((x10_2).toNat * 3)).block, (ad396.add ((x10_2).toNat * 3)).off + 2, none⟩ = some (.int .i64 ((rd_T71 l0 x10_2).f2)) ∧ w'.cell? (ad397.add (((ji42)).toNat * 3)) = some (.int .i64 ((rd_T71 x7_2 (ji42)).f0)) ∧ w'.cell? ⟨(ad397.add (((ji42)).toNat * 3)).block, (ad397.add (((ji42)).toNat * 3)).off + 1, none⟩ = some (.int .i64 ((rd_T71 x7_2 (ji42)).f1)) ∧ w'.cell? ⟨(ad397.add (((ji42)).toNat * 3)).block, (ad397.add (((ji42)).toNat * 3)).off + 2, none⟩ = some (.int .i64 ((rd_T71 x7_2 (ji42)).f2))) (ds := []) zq3_0 (by kernel_rfl) rfl rfl ⟨((HB.out.cell (z3e w _ hw396_0)).trans hw396_0), ((HB.out.cell (z3e w _ hw396_1)).trans hw396_1), ((HB.out.cell (z3e w _ hw396_2)).trans hw396_2), hx397_0, hx397_1, hx397_2⟩ (fun hHeld => ?_); refine with_tabW y_b.tab10 y_b.bits10 (fun HT_ HW_ => ?_)
                   generalize wc.drew = w53 at HO_6 HO_7 HO_8 HO_9 HB hx396_0 hx396_1 hx396_2 hx397_0 hx397_1 hx397_2 hHeld ⊢
                   refine pure_ (i := 0) (N := some 56) (v := ?_) (a' := ?_) zq3_1 rfl rfl (any_of HT_.out (by kernel_rfl)) (fun _ _ _ h => h) (Or.inl ⟨by rfl, ?_⟩) ?_ ?_
                   rotate_left
                   ·intro w'
                    go_simp
                    with_reducible rfl
                   rotate_left
                   ·simp only [Act.put, zp3a, zp3b, zp3c, i64_w, i32_w]
                    rfl
                   refine pure_ (i := 1) (N := some 57) (v := ?_) (a' := ?_) zq3_2 rfl rfl (any_of HT_.out (by kernel_rfl)) (fun _ _ _ h => h) (Or.inl ⟨by rfl, ?_⟩) ?_ ?_
                   rotate_left
                   ·intro w'
                    go_simp
                    with_reducible rfl
                   rotate_left
                   ·simp only [Act.put, zp3a, zp3b, zp3c, i64_w, i32_w]
                    rfl
                   refine pure_ (i := 2) (N := some 58) (v := ?_) (a' := ?_) zq3_3 rfl rfl (any_of HT_.out (by kernel_rfl)) (fun _ _ _ h => h) (Or.inl ⟨by rfl, ?_⟩) ?_ ?_
                   rotate_left
                   ·intro w'
                    go_simp
                    with_reducible rfl
                   rotate_left
                   ·simp only [Act.put, zp3a, zp3b, zp3c, i64_w, i32_w]
                    rfl
                   refine pure_ (i := 3) (N := some 59) (v := ?_) (a' := ?_) zq3_4 rfl rfl (any_of HT_.out (by kernel_rfl)) (fun _ _ _ h => h) (Or.inl ⟨by rfl, ?_⟩) ?_ ?_
                   rotate_left
                   ·intro w'
                    go_simp
                    with_reducible rfl
                   rotate_left
                   ·simp only [Act.put, zp3a, zp3b, zp3c, i64_w, i32_w]
                    rfl
                   refine pure_ (i := 4) (N := some 60) (v := ?_) (a' := ?_) zq3_5 rfl rfl (any_of HT_.out (by kernel_rfl)) (fun _ _ _ h => h) (Or.inl ⟨by rfl, ?_⟩) ?_ ?_
                   rotate_left
                   ·intro w'
                    go_simp
                    with_reducible rfl
                   rotate_left
                   ·simp only [Act.put, zp3a, zp3b, zp3c, i64_w, i32_w]
                    rfl
                   refine pure_ (i := 5) (N := some 61) (v := ?_) (a' := ?_) zq3_6 rfl rfl (any_of HT_.out (by kernel_rfl)) (fun _ _ _ h => h) (Or.inl ⟨by rfl, ?_⟩) ?_ ?_
                   rotate_left
                   ·intro w'
                    go_simp
                    with_reducible rfl
                   rotate_left
                   ·simp only [Act.put, zp3a, zp3b, zp3c, i64_w, i32_w]
                    rfl
                   refine pure_ (i := 6) (N := some 62) (v := ?_) (a' := ?_) zq3_7 rfl rfl (any_of HT_.out (by kernel_rfl)) (fun _ _ _ h => h) (Or.inl ⟨by rfl, ?_⟩) ?_ ?_
                   rotate_left
                   ·intro w'
                    go_simp
                    with_reducible rfl
                   rotate_left
                   ·simp only [Act.put, zp3a, zp3b, zp3c, i64_w, i32_w]
                    rfl
                   refine pure_ (i := 8) (N := some 64) (v := ?_) (a' := ?_) #[zt3,zt3,zt3,zt3,zt3,zt3,zt3,zf3,zt3,zf3,zf3,zf3,zf3,zf3,zf3,zf3,zf3] rfl rfl (any_of HT_.out (by kernel_rfl)) (fun _ _ _ h => h) (Or.inl ⟨by rfl, ?_⟩) ?_ ?_
                   rotate_left
                   ·intro w'
                    go_simp
                    with_reducible rfl
                   rotate_left
                   ·simp only [Act.put, zp3a, zp3b, zp3c, i64_w, i32_w]
                    rfl
                   refine pure_ (i := 9) (N := some 65) (v := ?_) (a' := ?_) #[zt3,zt3,zt3,zt3,zt3,zt3,zt3,zf3,zt3,zt3,zf3,zf3,zf3,zf3,zf3,zf3,zf3] rfl rfl (any_of HT_.out (by kernel_rfl)) (fun _ _ _ h => h) (Or.inl ⟨by rfl, ?_⟩) ?_ ?_
                   rotate_left
                   ·intro w'
                    go_simp
                    with_reducible rfl
                   rotate_left
                   ·simp only [Act.put, zp3a, zp3b, zp3c, i64_w, i32_w]
                    rfl
                   refine pure_ (i := 10) (N := some 66) (v := ?_) (a' := ?_) #[zt3,zt3,zt3,zt3,zt3,zt3,zt3,zf3,zt3,zt3,zt3,zf3,zf3,zf3,zf3,zf3,zf3] rfl rfl (any_of HT_.out (by kernel_rfl)) (fun _ _ _ h => h) (Or.inl ⟨by rfl, ?_⟩) ?_ ?_
                   rotate_left
                   ·intro w'
                    go_simp
                    with_reducible rfl
                   rotate_left
                   ·simp only [Act.put, zp3a, zp3b, zp3c, i64_w, i32_w]
                    rfl
                   refine pure_ (i := 11) (N := some 67) (v := ?_) (a' := ?_) #[zt3,zt3,zt3,zt3,zt3,zt3,zt3,zf3,zt3,zt3,zt3,zt3,zf3,zf3,zf3,zf3,zf3] rfl rfl (any_of HT_.out (by kernel_rfl)) (fun _ _ _ h => h) (Or.inl ⟨by rfl, ?_⟩) ?_ ?_
                   rotate_left
                   ·intro w'
                    go_simp
                    with_reducible rfl
                   rotate_left
                   ·simp only [Act.put, zp3a, zp3b, zp3c, i64_w, i32_w]
                    rfl
                   refine pure_ (i := 12) (N := some 68) (v := ?_) (a' := ?_) #[zt3,zt3,zt3,zt3,zt3,zt3,zt3,zf3,zt3,zt3,zt3,zt3,zt3,zf3,zf3,zf3,zf3] rfl rfl (any_of HT_.out (by kernel_rfl)) (fun _ _ _ h => h) (Or.inl ⟨by rfl, ?_⟩) ?_ ?_
                   rotate_left
                   ·intro w'
                    go_simp
                    with_reducible rfl
                   rotate_left
                   ·simp only [Act.put, zp3a, zp3b, zp3c, i64_w, i32_w]
                    rfl
                   refine take_ (i := 7) (N := some 63) (v := ?_) (a' := ?_) zq3_8 rfl rfl (take_ofW HT_.out HW_.out (by kernel_rfl)) (fun _ _ _ h => h) (Or.inl ⟨by rfl, ?_⟩) hHeld ?_ ?_
                   rotate_left
                   ·rintro w' ⟨s0, s1, s2, s3, s4, s5⟩
                    go_simp
                    with_reducible rfl
                   rotate_left
                   ·simp only [Act.put, zp3a, zp3b, zp3c, i64_w, i32_w]
                    rfl
                   refine take_ (i := 13) (N := some 69) (v := ?_) (a' := ?_) zq3_9 rfl rfl (take_ofW HT_.out HW_.out (by kernel_rfl)) (fun _ _ _ h => h) (Or.inl ⟨by rfl, ?_⟩) hHeld ?_ ?_
                   rotate_left
                   ·rintro w' ⟨s0, s1, s2, s3, s4, s5⟩
                    go_simp
                    with_reducible rfl
                   rotate_left
                   ·simp only [Act.put, zp3a, zp3b, zp3c, i64_w, i32_w]
                    rfl
                   refine one_ (i := 14) (N := some 70) zq3_10 rfl rfl (one_of HT_.out (by kernel_rfl)) (by decide) (fun K hK => ?_)
                   refine goes_ Try.func116 (by kernel_rfl) rfl #[.agg #[.int .i64 ((rd_T71 l0 x10_2).f0), .int .i64 ((rd_T71 l0 x10_2).f1), .int .i64 ((rd_T71 l0 x10_2).f2)], .agg #[.int .i64 ((rd_T71 x7_2 (ji42)).f0), .int .i64 ((rd_T71 x7_2 (ji42)).f1), .int .i64 ((rd_T71 x7_2 (ji42)).f2)]] (by rfl) rfl rfl (by (try simp only [zm3a, zm3b, zm3c]); first | done | (simp only [hji42]; rfl) | rfl | (simp only [zm3d, zm3e]; rfl)) ?_
                   with_reducible refine (y_l.calls kj24 ((rd_T71 l0 x10_2).f0) ((rd_T71 l0 x10_2).f1) ((rd_T71 l0 x10_2).f2) ((rd_T71 x7_2 (ji42)).f0) ((rd_T71 x7_2 (ji42)).f1) ((rd_T71 x7_2 (ji42)).f2) t398 _ A45.out).mono ?_
                   rintro e w55 ⟨rfl, hb⟩
                   have HS3_ := (hb.cell (z3e _ _ (hHeld.2.2.2.1))).trans (hHeld.2.2.2.1)
                   have HS4_ := (hb.cell (z3e _ _ (hHeld.2.2.2.2.1))).trans (hHeld.2.2.2.2.1)
                   have HS5_ := (hb.cell (z3e _ _ (hHeld.2.2.2.2.2))).trans (hHeld.2.2.2.2.2)
                   refine ⟨_, rfl, ?_⟩
                   have n0_ := z3a (Kd.S_below (by (with_reducible repeat (first | apply z3l | apply z3m | apply z3n)); exact HO_6.out) hb)
                   have n1_ := z3a (Kd.R_below (by (with_reducible repeat (first | apply z3i | apply z3j | apply z3k)); exact HO_7.out) hb)
                   have n2_ := z3a (Kd.R_below (by (with_reducible repeat (first | apply z3i | apply z3j | apply z3k)); exact HO_8.out) hb)
                   have n3_ := z3a (Kd.R_below (by (with_reducible repeat (first | apply z3i | apply z3j | apply z3k)); exact HO_9.out) hb)
                   have n4_ := z3a (below_step (by repeat (first | (with_reducible first | exact HB.out | apply z3d | apply z3b | apply z3c) | exact HB.out)) hb)
                   clear HO_6
                   clear HO_7
                   clear HO_8
                   clear HO_9
                   clear HB
                   have HO_6 := n0_
                   have HO_7 := n1_
                   have HO_8 := n2_
                   have HO_9 := n3_
                   have HB := n4_
                   clear n0_ n1_ n2_ n3_ n4_
                   (try clear hb)
                   (try clear hb2)
                   (try clear hk)
                   (try clear hi)
                   refine hK.out _ _ ⟨((HB.out.cell (z3e w _ hw396_0)).trans hw396_0), ((HB.out.cell (z3e w _ hw396_1)).trans hw396_1), ((HB.out.cell (z3e w _ hw396_2)).trans hw396_2), HS3_, HS4_, HS5_⟩ (fun hHeld => ?_)
                   clear hK K
                   refine norm_ (a' := ?_) ?_ ?_
                   rotate_left
                   ·show Act.put _ (some 70) _ = _
                    simp only [Act.put, zp3a, zp3b, zp3c, i64_w, i32_w]
                    rfl
                   refine pure_ (i := 15) (N := some 71) (v := ?_) (a' := ?_) zq3_11 rfl rfl (any_of HT_.out (by kernel_rfl)) (fun _ _ _ h => h) (Or.inl ⟨by rfl, ?_⟩) ?_ ?_
                   rotate_left
                   ·intro w'
                    go_simp
                    with_reducible rfl
                   rotate_left
                   ·simp only [Act.put, zp3a, zp3b, zp3c, i64_w, i32_w]
                    rfl
                   refine pure_ (i := 16) (N := some 72) (v := ?_) (a' := ?_) zq3_12 rfl rfl (any_of HT_.out (by kernel_rfl)) (fun _ _ _ h => h) (Or.inl ⟨by rfl, ?_⟩) ?_ ?_
                   rotate_left
                   ·intro w'
                    go_simp
                    with_reducible rfl
                   rotate_left
                   ·simp only [Act.put, zp3a, zp3b, zp3c, i64_w, i32_w]
                    rfl
                   refine done_ (done_of HT_.out (by kernel_rfl)) ?_
                   have p403 : 0 ≤ (x10_2 : Int) := z3g (by first | (with_reducible assumption) | assumption)
                   have q403 : x10_2 < (l0.length : Int) := z3g (by first | (with_reducible assumption) | assumption)
                   obtain ⟨ad403, e403, hx403_0, hx403_1, hx403_2⟩ := at_T71 HR0.out x10_2 p403 q403
                   obtain rfl : ad396 = ad403 := (by injection e403)
                   replace hx403_0 := (HB.out.cell (z3e w _ hx403_0)).trans hx403_0
                   replace hx403_1 := (HB.out.cell (z3e w _ hx403_1)).trans hx403_1
                   replace hx403_2 := (HB.out.cell (z3e w _ hx403_2)).trans hx403_2
                   replace p403 := eq_true p403
                   replace q403 := eq_true q403
                   try go_wp2_with (first | ((with_reducible refine gate_builtin (b := .append) (xs := #[.tmp 80, .tmp 85]) rfl ?_); (try (refine gate_guard (by rfl) ?_; dsimp only)); at_builtin; refine Kd.R_append k71 (w0 := w) w.heap.size rfl (.tmp 80) (.tmp 85) 24 71 (.agg #[(.int .i64 0), (.int .i64 0), (.int .i64 0)]) 24 rfl Try.underlying24 info71 rfl (by decide) (by omega) u8 x8_2 (⟨(rd_T71 l0 x10_2).f0, (rd_T71 l0 x10_2).f1, (rd_T71 l0 x10_2).f2⟩ : S71) [.int .i64 ((rd_T71 l0 x10_2).f0), .int .i64 ((rd_T71 l0 x10_2).f1), .int .i64 ((rd_T71 l0 x10_2).f2)] (fun k_ => some k_ ≠ (.slice (some ad397) x7_2.length co54 : Value).ownBlock ∧ some k_ ≠ (u9 : Value).ownBlock) (fun _ => False) rfl rfl ?aP (fun _ hk => hk.elim) ?aF ?aO ?aB ?aS ?aL ?_; (case aP => exact k71_mkM _ _ _ (⟨(rd_T71 l0 x10_2).f0, (rd_T71 l0 x10_2).f1, (rd_T71 l0 x10_2).f2⟩ : S71)); (case aB => exact (by repeat (first | (with_reducible first | exact HB.out | apply z3d | apply z3b | apply z3c) | exact HB.out))); (case aF => exact (fun k_ hk => ⟨Kd.fresh' (Kd.R_lt (by (with_reducible repeat (first | apply z3i | apply z3j | apply z3k)); exact HO_7.out)) k_ hk, Kd.fresh' (Kd.R_lt (by (with_reducible repeat (first | apply z3i | apply z3j | apply z3k)); exact HO_9.out)) k_ hk⟩)); (case aO => exact (by (with_reducible repeat (first | apply z3i | apply z3j | apply z3k)); exact HO_8.out)); (case aS => exact (below_size (by repeat (first | (with_reducible first | exact HB.out | apply z3d | apply z3b | apply z3c) | exact HB.out)))); (case aL => have := LMc52.out; omega); intro v405 w56 ho hb hg hat; rw [← Ny404.out] at ho; have n0_ := z3a (Kd.S_after (ok := (fun k_ => some k_ ≠ (.slice (some ad397) x7_2.length co54 : Value).ownBlock ∧ some k_ ≠ (u9 : Value).ownBlock)) (by (with_reducible repeat (first | apply z3l | apply z3m | apply z3n)); exact Kd.S_mono HO_6.out (fun _ hk => ⟨⟨hk.1, hk.2.2⟩, hk.2.1⟩)) hg hat); have n1_ := z3a (Kd.R_after (ok := (fun k_ => some k_ ≠ (u9 : Value).ownBlock)) (by (with_reducible repeat (first | apply z3i | apply z3j | apply z3k)); exact Kd.R_mono HO_7.out (fun _ hk => ⟨hk.2, hk.1⟩)) hg hat); have n2_ := z3a (Kd.R_after (ok := (fun k_ => some k_ ≠ (.slice (some ad397) x7_2.length co54 : Value).ownBlock)) (by (with_reducible repeat (first | apply z3i | apply z3j | apply z3k)); exact HO_9.out) hg hat); have n3_ := z3a (hb); have n4_ := z3a (ho); clear HO_6; clear HO_7; clear HO_9; clear HB; clear HO_8; have HO_6 := n0_; have HO_7 := n1_; have HO_9 := n2_; have HB := n3_; have HO406 := n4_; clear n0_ n1_ n2_ n3_ n4_; clear ho hb hg hat))
                   go_roundg kj24
                   case measure => have := HJ2.out; have := HK2.out; have := HJ19.out; have := HJ24.out; omega
                   case rel => exact ⟨(x6_2), (x7_2), (y404), (x9_2), (wrap64 (x10_2 + 1)), (by first | rfl | (simp; done) | (simp [*]; done)), H', ⟨by have := HJ2.out; have := HK2.out; have := HJ19.out; have := HJ24.out; omega⟩, ⟨by (with_reducible repeat (first | apply z3l | apply z3m | apply z3n)); exact Kd.S_mono HO_6.out (fun _ hk => ⟨hk.1.1, ⟨hk.2, hk.1.2⟩⟩)⟩, ⟨by (with_reducible repeat (first | apply z3i | apply z3j | apply z3k)); exact Kd.R_mono HO_7.out (fun _ hk => ⟨hk.2, hk.1⟩)⟩, ⟨by (with_reducible repeat (first | apply z3i | apply z3j | apply z3k)); exact HO406.out⟩, ⟨by (with_reducible repeat (first | apply z3i | apply z3j | apply z3k)); exact HO_9.out⟩, ⟨by repeat (first | (with_reducible first | exact HB.out | apply z3d | apply z3b | apply z3c) | exact HB.out)⟩⟩
                  ·rw [if_neg c52] at H
                   exact absurd H (by simp)
                ·rw [if_neg c44] at H
                 exact absurd H (by simp)
               ·rw [if_neg c43] at H
                exact absurd H (by simp)
              ·rw [if_neg c41] at H
               exact absurd H (by simp)
             ·rw [if_neg c40] at H
              exact absurd H (by simp)
            ·rw [if_neg c39] at H
             have c39b0 : decide (0 < (x7_2.length : Int)) = false := decide_eq_false c39
             have c39b1 : decide (0 < x7_2.length) = false := decide_eq_false (by omega)
             clear c39
             by_cases c57 : 0 ≤ x10_2
             ·rw [if_pos c57] at H
              have c57b0 : decide (0 ≤ x10_2) = true := z3h c57
              clear c57
              by_cases c58 : x10_2 < (l0.length : Int)
              ·rw [if_pos c58] at H
               have c58b0 : decide (x10_2 < (l0.length : Int)) = true := z3h c58
               clear c58
               by_cases c59 : x8_2.length < 5864062014805
               ·rw [if_pos c59] at H
                have LMc59 := z3a c59
                clear c59
                obtain ⟨y408, hy408⟩ : ∃ y_ : List (S71), y_ = (x8_2 ++ [(⟨(rd_T71 l0 x10_2).f0, (rd_T71 l0 x10_2).f1, (rd_T71 l0 x10_2).f2⟩ : S71)]) := ⟨_, rfl⟩
                replace H : (y_b.l0 kj24 l0 a1 x6_2 x7_2 y408 x9_2 (wrap64 (x10_2 + 1))) = some (r1, r2) := by first | (rw [hy408]; with_reducible exact H) | (have H2_ := (Option.bind_some _ _).symm.trans H; rw [hy408]; with_reducible exact H2_) | (have H2_ := (Option.bind_some _ _).symm.trans H; with_reducible exact H2_) | with_reducible exact H | (rw [hy408]; exact H) | exact H
                have Ny408 := z3a hy408
                clear hy408
                have H' := z3a H
                clear H
                try go_wp2
                have n0_ := z3a (z3n HO_6.out)
                have n1_ := z3a (z3k HO_7.out)
                have n2_ := z3a (z3k HO_8.out)
                have n3_ := z3a (z3k HO_9.out)
                have n4_ := z3a (z3c HB.out)
                clear HO_6
                clear HO_7
                clear HO_8
                clear HO_9
                clear HB
                have HO_6 := n0_
                have HO_7 := n1_
                have HO_8 := n2_
                have HO_9 := n3_
                have HB := n4_
                clear n0_ n1_ n2_ n3_ n4_
                obtain ⟨Ao61, co61, eo61⟩ := Kd.R_slice HO_7.out
                (first | subst eo61 | (injection eo61 with f1_ f2_ f3_; have f4_ := f1_.symm; have f5_ := f3_.symm; clear f1_ f2_ f3_; subst f4_; subst f5_))
                refine start_ (n := 17) (S := fun w' => True) (ds := []) zq3_0 (by kernel_rfl) rfl rfl trivial (fun hHeld => ?_); refine with_tabW y_b.tab10 y_b.bits10 (fun HT_ HW_ => ?_)
                generalize wc.drew = w60 at HO_6 HO_7 HO_8 HO_9 HB hHeld ⊢
                refine pure_ (i := 0) (N := some 56) (v := ?_) (a' := ?_) zq3_1 rfl rfl (any_of HT_.out (by kernel_rfl)) (fun _ _ _ h => h) (Or.inl ⟨by rfl, ?_⟩) ?_ ?_
                rotate_left
                ·intro w'
                 go_simp
                 with_reducible rfl
                rotate_left
                ·simp only [Act.put, zp3a, zp3b, zp3c, i64_w, i32_w]
                 rfl
                refine pure_ (i := 1) (N := some 57) (v := ?_) (a' := ?_) zq3_2 rfl rfl (any_of HT_.out (by kernel_rfl)) (fun _ _ _ h => h) (Or.inl ⟨by rfl, ?_⟩) ?_ ?_
                rotate_left
                ·intro w'
                 go_simp
                 with_reducible rfl
                rotate_left
                ·simp only [Act.put, zp3a, zp3b, zp3c, i64_w, i32_w]
                 rfl
                refine pure_ (i := 2) (N := some 58) (v := ?_) (a' := ?_) zq3_3 rfl rfl (any_of HT_.out (by kernel_rfl)) (fun _ _ _ h => h) (Or.inl ⟨by rfl, ?_⟩) ?_ ?_
                rotate_left
                ·intro w'
                 go_simp
                 with_reducible rfl
                rotate_left
                ·simp only [Act.put, zp3a, zp3b, zp3c, i64_w, i32_w]
                 rfl
                refine pure_ (i := 3) (N := some 59) (v := ?_) (a' := ?_) zq3_4 rfl rfl (any_of HT_.out (by kernel_rfl)) (fun _ _ _ h => h) (Or.inl ⟨by rfl, ?_⟩) ?_ ?_
                rotate_left
                ·intro w'
                 go_simp
                 with_reducible rfl
                rotate_left
                ·simp only [Act.put, zp3a, zp3b, zp3c, i64_w, i32_w]
                 rfl
                refine pure_ (i := 4) (N := some 60) (v := undef) (a' := ?_) zq3_5 rfl rfl (any_of HT_.out (by kernel_rfl)) (fun _ _ _ h => h) (Or.inr ⟨by rfl, rfl⟩) ?_ ?_
                rotate_left
                ·simp only [Act.put, zp3a, zp3b, zp3c, i64_w, i32_w]
                 rfl
                refine pure_ (i := 5) (N := some 61) (v := undef) (a' := ?_) zq3_6 rfl rfl (any_of HT_.out (by kernel_rfl)) (fun _ _ _ h => h) (Or.inr ⟨by rfl, rfl⟩) ?_ ?_
                rotate_left
                ·simp only [Act.put, zp3a, zp3b, zp3c, i64_w, i32_w]
                 rfl
                refine pure_ (i := 6) (N := some 62) (v := undef) (a' := ?_) zq3_7 rfl rfl (any_of HT_.out (by kernel_rfl)) (fun _ _ _ h => h) (Or.inr ⟨by rfl, rfl⟩) ?_ ?_
                rotate_left
                ·simp only [Act.put, zp3a, zp3b, zp3c, i64_w, i32_w]
                 rfl
                refine pure_ (i := 7) (N := some 63) (v := undef) (a' := ?_) #[zt3,zt3,zt3,zt3,zt3,zt3,zt3,zt3,zf3,zf3,zf3,zf3,zf3,zf3,zf3,zf3,zf3] rfl rfl (any_of HT_.out (by kernel_rfl)) (fun _ _ _ h => h) (Or.inr ⟨by rfl, rfl⟩) ?_ ?_
                rotate_left
                ·simp only [Act.put, zp3a, zp3b, zp3c, i64_w, i32_w]
                 rfl
                refine pure_ (i := 8) (N := some 64) (v := undef) (a' := ?_) #[zt3,zt3,zt3,zt3,zt3,zt3,zt3,zt3,zt3,zf3,zf3,zf3,zf3,zf3,zf3,zf3,zf3] rfl rfl (any_of HT_.out (by kernel_rfl)) (fun _ _ _ h => h) (Or.inr ⟨by rfl, rfl⟩) ?_ ?_
                rotate_left
                ·simp only [Act.put, zp3a, zp3b, zp3c, i64_w, i32_w]
                 rfl
                refine pure_ (i := 9) (N := some 65) (v := undef) (a' := ?_) #[zt3,zt3,zt3,zt3,zt3,zt3,zt3,zt3,zt3,zt3,zf3,zf3,zf3,zf3,zf3,zf3,zf3] rfl rfl (any_of HT_.out (by kernel_rfl)) (fun _ _ _ h => h) (Or.inr ⟨by rfl, rfl⟩) ?_ ?_
                rotate_left
                ·simp only [Act.put, zp3a, zp3b, zp3c, i64_w, i32_w]
                 rfl
                refine pure_ (i := 10) (N := some 66) (v := undef) (a' := ?_) #[zt3,zt3,zt3,zt3,zt3,zt3,zt3,zt3,zt3,zt3,zt3,zf3,zf3,zf3,zf3,zf3,zf3] rfl rfl (any_of HT_.out (by kernel_rfl)) (fun _ _ _ h => h) (Or.inr ⟨by rfl, rfl⟩) ?_ ?_
                rotate_left
                ·simp only [Act.put, zp3a, zp3b, zp3c, i64_w, i32_w]
                 rfl
                refine pure_ (i := 11) (N := some 67) (v := undef) (a' := ?_) #[zt3,zt3,zt3,zt3,zt3,zt3,zt3,zt3,zt3,zt3,zt3,zt3,zf3,zf3,zf3,zf3,zf3] rfl rfl (any_of HT_.out (by kernel_rfl)) (fun _ _ _ h => h) (Or.inr ⟨by rfl, rfl⟩) ?_ ?_
                rotate_left
                ·simp only [Act.put, zp3a, zp3b, zp3c, i64_w, i32_w]
                 rfl
                refine pure_ (i := 12) (N := some 68) (v := undef) (a' := ?_) zq3_8 rfl rfl (any_of HT_.out (by kernel_rfl)) (fun _ _ _ h => h) (Or.inr ⟨by rfl, rfl⟩) ?_ ?_
                rotate_left
                ·simp only [Act.put, zp3a, zp3b, zp3c, i64_w, i32_w]
                 rfl
                refine pure_ (i := 13) (N := some 69) (v := undef) (a' := ?_) zq3_9 rfl rfl (any_of HT_.out (by kernel_rfl)) (fun _ _ _ h => h) (Or.inr ⟨by rfl, rfl⟩) ?_ ?_
                rotate_left
                ·simp only [Act.put, zp3a, zp3b, zp3c, i64_w, i32_w]
                 rfl
                refine pure_ (i := 14) (N := some 70) (v := undef) (a' := ?_) zq3_10 rfl rfl (any_of HT_.out (by kernel_rfl)) (fun _ _ _ h => h) (Or.inr ⟨by rfl, rfl⟩) ?_ ?_
                rotate_left
                ·simp only [Act.put, zp3a, zp3b, zp3c, i64_w, i32_w]
                 rfl
                refine pure_ (i := 15) (N := some 71) (v := undef) (a' := ?_) zq3_11 rfl rfl (any_of HT_.out (by kernel_rfl)) (fun _ _ _ h => h) (Or.inr ⟨by rfl, rfl⟩) ?_ ?_
                rotate_left
                ·simp only [Act.put, zp3a, zp3b, zp3c, i64_w, i32_w]
                 rfl
                refine pure_ (i := 16) (N := some 72) (v := ?_) (a' := ?_) zq3_12 rfl rfl (any_of HT_.out (by kernel_rfl)) (fun _ _ _ h => h) (Or.inl ⟨by rfl, ?_⟩) ?_ ?_
                rotate_left
                ·intro w'
                 go_simp
                 with_reducible rfl
                rotate_left
                ·simp only [Act.put, zp3a, zp3b, zp3c, i64_w, i32_w]
                 rfl
                refine done_ (done_of HT_.out (by kernel_rfl)) ?_
                have p407 : 0 ≤ (x10_2 : Int) := z3g (by first | (with_reducible assumption) | assumption)
                have q407 : x10_2 < (l0.length : Int) := z3g (by first | (with_reducible assumption) | assumption)
                obtain ⟨ad407, e407, hx407_0, hx407_1, hx407_2⟩ := at_T71 HR0.out x10_2 p407 q407
                cases e407
                replace hx407_0 := (HB.out.cell (z3e w _ hx407_0)).trans hx407_0
                replace hx407_1 := (HB.out.cell (z3e w _ hx407_1)).trans hx407_1
                replace hx407_2 := (HB.out.cell (z3e w _ hx407_2)).trans hx407_2
                replace p407 := eq_true p407
                replace q407 := eq_true q407
                try go_wp2_with (first | ((with_reducible refine gate_builtin (b := .append) (xs := #[.tmp 80, .tmp 85]) rfl ?_); (try (refine gate_guard (by rfl) ?_; dsimp only)); at_builtin; refine Kd.R_append k71 (w0 := w) w.heap.size rfl (.tmp 80) (.tmp 85) 24 71 (.agg #[(.int .i64 0), (.int .i64 0), (.int .i64 0)]) 24 rfl Try.underlying24 info71 rfl (by decide) (by omega) u8 x8_2 (⟨(rd_T71 l0 x10_2).f0, (rd_T71 l0 x10_2).f1, (rd_T71 l0 x10_2).f2⟩ : S71) [.int .i64 ((rd_T71 l0 x10_2).f0), .int .i64 ((rd_T71 l0 x10_2).f1), .int .i64 ((rd_T71 l0 x10_2).f2)] (fun k_ => some k_ ≠ (.slice Ao61 x7_2.length co61 : Value).ownBlock ∧ some k_ ≠ (u9 : Value).ownBlock) (fun _ => False) rfl rfl ?aP (fun _ hk => hk.elim) ?aF ?aO ?aB ?aS ?aL ?_; (case aP => exact k71_mkM _ _ _ (⟨(rd_T71 l0 x10_2).f0, (rd_T71 l0 x10_2).f1, (rd_T71 l0 x10_2).f2⟩ : S71)); (case aB => exact (by repeat (first | (with_reducible first | exact HB.out | apply z3d | apply z3b | apply z3c) | exact HB.out))); (case aF => exact (fun k_ hk => ⟨Kd.fresh' (Kd.R_lt (by (with_reducible repeat (first | apply z3i | apply z3j | apply z3k)); exact HO_7.out)) k_ hk, Kd.fresh' (Kd.R_lt (by (with_reducible repeat (first | apply z3i | apply z3j | apply z3k)); exact HO_9.out)) k_ hk⟩)); (case aO => exact (by (with_reducible repeat (first | apply z3i | apply z3j | apply z3k)); exact HO_8.out)); (case aS => exact (below_size (by repeat (first | (with_reducible first | exact HB.out | apply z3d | apply z3b | apply z3c) | exact HB.out)))); (case aL => have := LMc59.out; omega); intro v409 w62 ho hb hg hat; rw [← Ny408.out] at ho; have n0_ := z3a (Kd.S_after (ok := (fun k_ => some k_ ≠ (.slice Ao61 x7_2.length co61 : Value).ownBlock ∧ some k_ ≠ (u9 : Value).ownBlock)) (by (with_reducible repeat (first | apply z3l | apply z3m | apply z3n)); exact Kd.S_mono HO_6.out (fun _ hk => ⟨⟨hk.1, hk.2.2⟩, hk.2.1⟩)) hg hat); have n1_ := z3a (Kd.R_after (ok := (fun k_ => some k_ ≠ (u9 : Value).ownBlock)) (by (with_reducible repeat (first | apply z3i | apply z3j | apply z3k)); exact Kd.R_mono HO_7.out (fun _ hk => ⟨hk.2, hk.1⟩)) hg hat); have n2_ := z3a (Kd.R_after (ok := (fun k_ => some k_ ≠ (.slice Ao61 x7_2.length co61 : Value).ownBlock)) (by (with_reducible repeat (first | apply z3i | apply z3j | apply z3k)); exact HO_9.out) hg hat); have n3_ := z3a (hb); have n4_ := z3a (ho); clear HO_6; clear HO_7; clear HO_9; clear HB; clear HO_8; have HO_6 := n0_; have HO_7 := n1_; have HO_9 := n2_; have HB := n3_; have HO410 := n4_; clear n0_ n1_ n2_ n3_ n4_; clear ho hb hg hat))
                go_roundg kj24
                case measure => have := HJ2.out; have := HK2.out; have := HJ19.out; have := HJ24.out; omega
                case rel => exact ⟨(x6_2), (x7_2), (y408), (x9_2), (wrap64 (x10_2 + 1)), (by first | rfl | (simp; done) | (simp [*]; done)), H', ⟨by have := HJ2.out; have := HK2.out; have := HJ19.out; have := HJ24.out; omega⟩, ⟨by (with_reducible repeat (first | apply z3l | apply z3m | apply z3n)); exact Kd.S_mono HO_6.out (fun _ hk => ⟨hk.1.1, ⟨hk.2, hk.1.2⟩⟩)⟩, ⟨by (with_reducible repeat (first | apply z3i | apply z3j | apply z3k)); exact Kd.R_mono HO_7.out (fun _ hk => ⟨hk.2, hk.1⟩)⟩, ⟨by (with_reducible repeat (first | apply z3i | apply z3j | apply z3k)); exact HO410.out⟩, ⟨by (with_reducible repeat (first | apply z3i | apply z3j | apply z3k)); exact HO_9.out⟩, ⟨by repeat (first | (with_reducible first | exact HB.out | apply z3d | apply z3b | apply z3c) | exact HB.out)⟩⟩
               ·rw [if_neg c59] at H
                exact absurd H (by simp)
              ·rw [if_neg c58] at H
               exact absurd H (by simp)
             ·rw [if_neg c57] at H
              exact absurd H (by simp)
           ·replace c38 := Bool.eq_false_iff.mpr c38
            subst c38
            have H1 : (if (x8_2.length : Int) = 0 then (if x6_2.length < 5864062014805 then (y_b.l0 kj24 l0 a1 (x6_2 ++ [(⟨x7_2⟩ : S39)]) (([] : List (S71))) x9_2 (([] : List (S71))) x10_2) else (none)) else ((y_m.f kj24 x8_2).bind fun t420 => (if 0 ≤ t420 then (if t420 < (x8_2.length : Int) then (if x7_2.length < 5864062014805 then ((y_hb.f x8_2 t420).bind fun t425 => (y_b.l0 kj24 l0 a1 x6_2 (x7_2 ++ [(⟨(rd_T71 x8_2 t420).f0, (rd_T71 x8_2 t420).f1, (rd_T71 x8_2 t420).f2⟩ : S71)]) t425 x9_2 x10_2)) else (none)) else (none)) else (none)))) = some (r1, r2) := by rw [if_neg (show ¬ (false = true) by decide)] at H; exact H
            clear H
            have H := H1
            clear H1
            by_cases c63 : (x8_2.length : Int) = 0
            ·rw [if_pos c63] at H
             have c63b0 : ((x8_2.length : Int) == 0) = true := beq_iff_eq.mpr c63
             have c63b1 : ((x8_2.length : Int) != 0) = false := bne_eq_false_iff_eq.mpr c63
             clear c63
             by_cases c64 : x6_2.length < 5864062014805
             ·rw [if_pos c64] at H
              have LMc64 := z3a c64
              clear c64
              obtain ⟨y411, hy411⟩ : ∃ y_ : List (S39), y_ = (x6_2 ++ [(⟨x7_2⟩ : S39)]) := ⟨_, rfl⟩
              replace H : (y_b.l0 kj24 l0 a1 y411 (([] : List (S71))) x9_2 (([] : List (S71))) x10_2) = some (r1, r2) := by first | (rw [hy411]; with_reducible exact H) | (have H2_ := (Option.bind_some _ _).symm.trans H; rw [hy411]; with_reducible exact H2_) | (have H2_ := (Option.bind_some _ _).symm.trans H; with_reducible exact H2_) | with_reducible exact H | (rw [hy411]; exact H) | exact H
              have Ny411 := z3a hy411
              clear hy411
              obtain ⟨y414, hy414⟩ : ∃ y_ : List (S71), y_ = (([] : List (S71))) := ⟨_, rfl⟩
              replace H : (y_b.l0 kj24 l0 a1 y411 y414 x9_2 (([] : List (S71))) x10_2) = some (r1, r2) := by first | (rw [hy414]; with_reducible exact H) | (have H2_ := (Option.bind_some _ _).symm.trans H; rw [hy414]; with_reducible exact H2_) | (have H2_ := (Option.bind_some _ _).symm.trans H; with_reducible exact H2_) | with_reducible exact H | (rw [hy414]; exact H) | exact H
              have Ny414 := z3a hy414
              clear hy414
              obtain ⟨y417, hy417⟩ : ∃ y_ : List (S71), y_ = (([] : List (S71))) := ⟨_, rfl⟩
              replace H : (y_b.l0 kj24 l0 a1 y411 y414 x9_2 y417 x10_2) = some (r1, r2) := by first | (rw [hy417]; with_reducible exact H) | (have H2_ := (Option.bind_some _ _).symm.trans H; rw [hy417]; with_reducible exact H2_) | (have H2_ := (Option.bind_some _ _).symm.trans H; with_reducible exact H2_) | with_reducible exact H | (rw [hy417]; exact H) | exact H
              have Ny417 := z3a hy417
              clear hy417
              have H' := z3a H
              clear H
              obtain ⟨Ao65, co65, eo65⟩ := Kd.R_slice HO_8.out
              subst eo65
              obtain ⟨Ao66, co66, eo66⟩ := Kd.R_slice HO_7.out
              subst eo66
              go_wp2_with (first | ((with_reducible refine gate_builtin (b := .append) (xs := #[.tmp 92, .tmp 95]) rfl ?_); (try (refine gate_guard (by rfl) ?_; dsimp only)); at_builtin; refine Kd.S_append k39 (w0 := w) w.heap.size rfl (.tmp 92) (.tmp 95) 27 39 (.agg #[(.slice none 0 0)]) 24 rfl Try.underlying27 info39 rfl (by decide) (by omega) u6 x6_2 (⟨x7_2⟩ : S39) [.slice Ao66 x7_2.length co66] (fun k_ => some k_ ≠ (.slice Ao65 x8_2.length co65 : Value).ownBlock ∧ some k_ ≠ (u9 : Value).ownBlock) (fun k_ => some k_ = (.slice Ao66 x7_2.length co66 : Value).ownBlock) rfl rfl ?aP (fun k_ hk_ => ((Kd.R_mono (ok' := fun k_ => ((fun k_ => some k_ ≠ (.slice Ao65 x8_2.length co65 : Value).ownBlock ∧ some k_ ≠ (u9 : Value).ownBlock)) k_ ∧ some k_ ≠ (u6 : Value).ownBlock) (Kd.R_apart' (HO_7.out) (Kd.S_typed HO_6.out) (by decide)) (fun k_ hk => ⟨⟨hk.1.1, hk.1.2⟩, hk.2⟩))).1 k_ hk_.symm) ?aF ?aO ?aB ?aS ?aL ?_; (case aP => exact k39_mkM _ _ _ (⟨x7_2⟩ : S39) (Kd.R_mono (Kd.R_tight rfl (Kd.R_mono (ok' := fun k_ => ((fun k_ => some k_ ≠ (.slice Ao65 x8_2.length co65 : Value).ownBlock ∧ some k_ ≠ (u9 : Value).ownBlock)) k_ ∧ some k_ ≠ (u6 : Value).ownBlock) (Kd.R_apart' (HO_7.out) (Kd.S_typed HO_6.out) (by decide)) (fun k_ hk => ⟨⟨hk.1.1, hk.1.2⟩, hk.2⟩))) (fun _ h_ => h_))); (case aB => exact (by repeat (first | (with_reducible first | exact HB.out | apply z3d | apply z3b | apply z3c) | exact HB.out))); (case aF => exact (fun k_ hk => ⟨Kd.fresh' (Kd.R_lt (by (with_reducible repeat (first | apply z3i | apply z3j | apply z3k)); exact HO_8.out)) k_ hk, Kd.fresh' (Kd.R_lt (by (with_reducible repeat (first | apply z3i | apply z3j | apply z3k)); exact HO_9.out)) k_ hk⟩)); (case aO => exact (by (with_reducible repeat (first | apply z3l | apply z3m | apply z3n)); exact Kd.S_mono HO_6.out (fun k_ hk => ⟨⟨hk.2.1, hk.2.2⟩, fun e_ => hk.1 e_⟩))); (case aS => exact (below_size (by repeat (first | (with_reducible first | exact HB.out | apply z3d | apply z3b | apply z3c) | exact HB.out)))); (case aL => have := LMc64.out; omega); intro v412 w67 ho hb hg hat; rw [← Ny411.out] at ho; have n0_ := z3a (Kd.R_over' (by (with_reducible repeat (first | apply z3i | apply z3j | apply z3k)); exact HO_8.out) (Kd.S_typed (by (with_reducible repeat (first | apply z3l | apply z3m | apply z3n)); exact HO_6.out)) (by decide) hg); have n1_ := z3a (Kd.R_over' (by (with_reducible repeat (first | apply z3i | apply z3j | apply z3k)); exact HO_9.out) (Kd.S_typed (by (with_reducible repeat (first | apply z3l | apply z3m | apply z3n)); exact HO_6.out)) (by decide) hg); have n2_ := z3a (hb); have n3_ := z3a (ho); clear HO_8; clear HO_9; clear HB; clear HO_6; clear HO_7; have HO_8 := n0_; have HO_9 := n1_; have HB := n2_; have HO413 := n3_; clear n0_ n1_ n2_ n3_; clear ho hb hg hat) | ((with_reducible refine gate_dst (N := 97) rfl ?_); (try (refine gate_guard (by rfl) ?_; dsimp only)); refine Kd.R_lit k71 _ 71 ?hg (N := 97) ?hd (xs := ([] : List (S71))) (inner := []) (ok := fun _ => True) (okp := fun _ => True) ?hr ?hp (fun _ hk => hk) trivial (Below.refl _ _) (Nat.le_refl _) (by simp) ?_; (case hd => rfl); (case hg => rfl); (case hr => first | (go_simp; done) | (go_simp; rfl)); (case hp => exact (Reps.none _ _)); intro v415 w68 ho69 hb hg_ hnew_; clear hg_ hnew_; (first | rw [← Ny414.out] at ho69 | (simp only [Int.reduceToNat] at ho69; rw [← Ny414.out] at ho69)); have n0_ := z3a (Kd.R_elder' (by (with_reducible repeat (first | apply z3i | apply z3j | apply z3k)); exact HO_8.out) (Kd.R_base ho69) hb); have n1_ := z3a (Kd.R_elder' (by (with_reducible repeat (first | apply z3i | apply z3j | apply z3k)); exact HO_9.out) (Kd.R_base ho69) hb); have n2_ := z3a (Kd.S_elder' (by (with_reducible repeat (first | apply z3l | apply z3m | apply z3n)); exact HO413.out) (Kd.R_base ho69) hb); have n3_ := z3a (Kd.R_lower (Kd.R_new' (Kd.R_new' ho69 (Kd.R_lt (by (with_reducible repeat (first | apply z3i | apply z3j | apply z3k)); exact HO_8.out))) (Kd.R_lt (by (with_reducible repeat (first | apply z3i | apply z3j | apply z3k)); exact HO_9.out))) (below_size (by repeat (first | (with_reducible first | exact HB.out | apply z3d | apply z3b | apply z3c) | exact HB.out)))); have n4_ := z3a (below_step (by repeat (first | (with_reducible first | exact HB.out | apply z3d | apply z3b | apply z3c) | exact HB.out)) hb); clear HO_8; clear HO_9; clear HO413; clear HB; have HO_8 := n0_; have HO_9 := n1_; have HO413 := n2_; have HO416 := n3_; have HB := n4_; clear n0_ n1_ n2_ n3_ n4_; clear hb ho69) | ((with_reducible refine gate_dst (N := 99) rfl ?_); (try (refine gate_guard (by rfl) ?_; dsimp only)); refine Kd.R_lit k71 _ 71 ?hg (N := 99) ?hd (xs := ([] : List (S71))) (inner := []) (ok := fun _ => True) (okp := fun _ => True) ?hr ?hp (fun _ hk => hk) trivial (Below.refl _ _) (Nat.le_refl _) (by simp) ?_; (case hd => rfl); (case hg => rfl); (case hr => first | (go_simp; done) | (go_simp; rfl)); (case hp => exact (Reps.none _ _)); intro v418 w70 ho71 hb hg_ hnew_; clear hg_ hnew_; (first | rw [← Ny417.out] at ho71 | (simp only [Int.reduceToNat] at ho71; rw [← Ny417.out] at ho71)); have n0_ := z3a (Kd.R_elder' (by (with_reducible repeat (first | apply z3i | apply z3j | apply z3k)); exact HO_8.out) (Kd.R_base ho71) hb); have n1_ := z3a (Kd.R_elder' (by (with_reducible repeat (first | apply z3i | apply z3j | apply z3k)); exact HO_9.out) (Kd.R_base ho71) hb); have n2_ := z3a (Kd.S_elder' (by (with_reducible repeat (first | apply z3l | apply z3m | apply z3n)); exact HO413.out) (Kd.R_base ho71) hb); have n3_ := z3a (Kd.R_elder' (by (with_reducible repeat (first | apply z3i | apply z3j | apply z3k)); exact HO416.out) (Kd.R_base ho71) hb); have n4_ := z3a (Kd.R_lower (Kd.R_new' (Kd.R_new' (Kd.R_new' ho71 (Kd.R_lt (by (with_reducible repeat (first | apply z3i | apply z3j | apply z3k)); exact HO_8.out))) (Kd.R_lt (by (with_reducible repeat (first | apply z3i | apply z3j | apply z3k)); exact HO_9.out))) (Kd.R_lt (by (with_reducible repeat (first | apply z3i | apply z3j | apply z3k)); exact HO416.out))) (below_size (by repeat (first | (with_reducible first | exact HB.out | apply z3d | apply z3b | apply z3c) | exact HB.out)))); have n5_ := z3a (below_step (by repeat (first | (with_reducible first | exact HB.out | apply z3d | apply z3b | apply z3c) | exact HB.out)) hb); clear HO_8; clear HO_9; clear HO413; clear HO416; clear HB; have HO_8 := n0_; have HO_9 := n1_; have HO413 := n2_; have HO416 := n3_; have HO419 := n4_; have HB := n5_; clear n0_ n1_ n2_ n3_ n4_ n5_; clear hb ho71))
              go_roundg kj24
              case measure => have := HJ2.out; have := HK2.out; have := HJ19.out; have := HJ24.out; omega
              case rel => exact ⟨(y411), (y414), (x9_2), (y417), (x10_2), (by first | rfl | (simp; done) | (simp [*]; done)), H', ⟨by have := HJ2.out; have := HK2.out; have := HJ19.out; have := HJ24.out; omega⟩, ⟨by (with_reducible repeat (first | apply z3l | apply z3m | apply z3n)); exact Kd.S_mono HO413.out (fun _ hk => ⟨hk.1.2, ⟨hk.1.1.2, hk.2⟩⟩)⟩, ⟨by (with_reducible repeat (first | apply z3i | apply z3j | apply z3k)); exact Kd.R_mono HO416.out (fun _ hk => ⟨hk.1.2, hk.2⟩)⟩, ⟨by (with_reducible repeat (first | apply z3i | apply z3j | apply z3k)); exact Kd.R_mono HO_9.out (fun _ hk => ⟨hk.1.2, hk.2⟩)⟩, ⟨by (with_reducible repeat (first | apply z3i | apply z3j | apply z3k)); exact Kd.R_mono HO419.out (fun _ hk => ⟨hk.2, hk.1.2⟩)⟩, ⟨by repeat (first | (with_reducible first | exact HB.out | apply z3d | apply z3b | apply z3c) | exact HB.out)⟩⟩
             ·rw [if_neg c64] at H
              exact absurd H (by simp)
            ·rw [if_neg c63] at H
             have c63b0 : ((x8_2.length : Int) == 0) = false := beq_eq_false_iff_ne.mpr c63
             have c63b1 : ((x8_2.length : Int) != 0) = true := bne_iff_ne.mpr c63
             have c63b2 : ¬ (x8_2 = []) := fun h_ => c63 (by rw [h_]; rfl)
             replace H := z3f.mp H
             obtain ⟨t420, A720, H⟩ := H
             have A72 := z3a A720
             clear A720
             by_cases c73 : 0 ≤ t420
             ·rw [if_pos c73] at H
              have c73b0 : decide (0 ≤ t420) = true := z3h c73
              clear c73
              by_cases c74 : t420 < (x8_2.length : Int)
              ·rw [if_pos c74] at H
               have c74b0 : decide (t420 < (x8_2.length : Int)) = true := z3h c74
               clear c74
               by_cases c75 : x7_2.length < 5864062014805
               ·rw [if_pos c75] at H
                have LMc75 := z3a c75
                clear c75
                obtain ⟨y422, hy422⟩ : ∃ y_ : List (S71), y_ = (x7_2 ++ [(⟨(rd_T71 x8_2 t420).f0, (rd_T71 x8_2 t420).f1, (rd_T71 x8_2 t420).f2⟩ : S71)]) := ⟨_, rfl⟩
                replace H : ((y_hb.f x8_2 t420).bind fun t425 => (y_b.l0 kj24 l0 a1 x6_2 y422 t425 x9_2 x10_2)) = some (r1, r2) := by first | (rw [hy422]; with_reducible exact H) | (have H2_ := (Option.bind_some _ _).symm.trans H; rw [hy422]; with_reducible exact H2_) | (have H2_ := (Option.bind_some _ _).symm.trans H; with_reducible exact H2_) | with_reducible exact H | (rw [hy422]; exact H) | exact H
                have Ny422 := z3a hy422
                clear hy422
                replace H := z3f.mp H
                obtain ⟨t425, A760, H⟩ := H
                have A76 := z3a A760
                clear A760
                have H' := z3a H
                clear H
                obtain ⟨Ao77, co77, eo77⟩ := Kd.R_slice HO_8.out
                subst eo77
                go_wp2_with (first | ((with_reducible refine gate_callee (f := 27) rfl ?_); refine goesL_ (some 101) rfl rfl Try.func27 (by kernel_rfl) rfl #[.slice Ao77 x8_2.length co77] rfl (by (try simp only [zm3a, zm3b, zm3c]); first | done | rfl | (simp only [zm3d, zm3e]; rfl)) ?_; (with_reducible refine (y_m.calls kj24 _ _ x8_2 t420 _ ?side1 ?side2 A72.out).mono ?_); (case side1 => repeat (first | exact (Kd.R_reads' HO_8.out).2.2 | (with_reducible refine Kd.C_alloc ?_ _) | (with_reducible refine Kd.C_drewN ?_ _) | (with_reducible refine Kd.C_drew ?_))); (case side2 => exact (Kd.R_reads' HO_8.out).2.1); rintro e w78 ⟨rfl, hb⟩; refine ⟨_, rfl, ?_⟩; have n0_ := z3a (Kd.S_below (by (with_reducible repeat (first | apply z3l | apply z3m | apply z3n)); exact HO_6.out) hb); have n1_ := z3a (Kd.R_below (by (with_reducible repeat (first | apply z3i | apply z3j | apply z3k)); exact HO_7.out) hb); have n2_ := z3a (Kd.R_below (by (with_reducible repeat (first | apply z3i | apply z3j | apply z3k)); exact HO_8.out) hb); have n3_ := z3a (Kd.R_below (by (with_reducible repeat (first | apply z3i | apply z3j | apply z3k)); exact HO_9.out) hb); have n4_ := z3a (below_step (by repeat (first | (with_reducible first | exact HB.out | apply z3d | apply z3b | apply z3c) | exact HB.out)) hb); clear HO_6; clear HO_7; clear HO_8; clear HO_9; clear HB; have HO_6 := n0_; have HO_7 := n1_; have HO_8 := n2_; have HO_9 := n3_; have HB := n4_; clear n0_ n1_ n2_ n3_ n4_; (try clear hb); (try clear hb2); (try clear hk); (try clear hi); have p421 : 0 ≤ (t420 : Int) := z3g (by first | (with_reducible assumption) | assumption); have q421 : t420 < (x8_2.length : Int) := z3g (by first | (with_reducible assumption) | assumption); obtain ⟨ad421, e421, hx421_0, hx421_1, hx421_2⟩ := at_T71 (Kd.R_reads' HO_8.out).2.2 t420 p421 q421; cases e421; replace p421 := eq_true p421; replace q421 := eq_true q421) | ((with_reducible refine gate_builtin (b := .append) (xs := #[.tmp 102, .tmp 107]) rfl ?_); (try (refine gate_guard (by rfl) ?_; dsimp only)); at_builtin; refine Kd.R_append k71 (w0 := w) w.heap.size rfl (.tmp 102) (.tmp 107) 24 71 (.agg #[(.int .i64 0), (.int .i64 0), (.int .i64 0)]) 24 rfl Try.underlying24 info71 rfl (by decide) (by omega) u7 x7_2 (⟨(rd_T71 x8_2 t420).f0, (rd_T71 x8_2 t420).f1, (rd_T71 x8_2 t420).f2⟩ : S71) [.int .i64 ((rd_T71 x8_2 t420).f0), .int .i64 ((rd_T71 x8_2 t420).f1), .int .i64 ((rd_T71 x8_2 t420).f2)] (fun k_ => some k_ ≠ (.slice (some ad421) x8_2.length co77 : Value).ownBlock ∧ some k_ ≠ (u9 : Value).ownBlock) (fun _ => False) rfl rfl ?aP (fun _ hk => hk.elim) ?aF ?aO ?aB ?aS ?aL ?_; (case aP => exact k71_mkM _ _ _ (⟨(rd_T71 x8_2 t420).f0, (rd_T71 x8_2 t420).f1, (rd_T71 x8_2 t420).f2⟩ : S71)); (case aB => exact (by repeat (first | (with_reducible first | exact HB.out | apply z3d | apply z3b | apply z3c) | exact HB.out))); (case aF => exact (fun k_ hk => ⟨Kd.fresh' (Kd.R_lt (by (with_reducible repeat (first | apply z3i | apply z3j | apply z3k)); exact HO_8.out)) k_ hk, Kd.fresh' (Kd.R_lt (by (with_reducible repeat (first | apply z3i | apply z3j | apply z3k)); exact HO_9.out)) k_ hk⟩)); (case aO => exact (by (with_reducible repeat (first | apply z3i | apply z3j | apply z3k)); exact HO_7.out)); (case aS => exact (below_size (by repeat (first | (with_reducible first | exact HB.out | apply z3d | apply z3b | apply z3c) | exact HB.out)))); (case aL => have := LMc75.out; omega); intro v423 w79 ho hb hg hat; rw [← Ny422.out] at ho; have n0_ := z3a (Kd.S_after (ok := (fun k_ => some k_ ≠ (.slice (some ad421) x8_2.length co77 : Value).ownBlock ∧ some k_ ≠ (u9 : Value).ownBlock)) (by (with_reducible repeat (first | apply z3l | apply z3m | apply z3n)); exact Kd.S_mono HO_6.out (fun _ hk => ⟨⟨hk.2.1, hk.2.2⟩, hk.1⟩)) hg hat); have n1_ := z3a (Kd.R_after (ok := (fun k_ => some k_ ≠ (u9 : Value).ownBlock)) (by (with_reducible repeat (first | apply z3i | apply z3j | apply z3k)); exact Kd.R_mono HO_8.out (fun _ hk => ⟨hk.2, hk.1⟩)) hg hat); have n2_ := z3a (Kd.R_after (ok := (fun k_ => some k_ ≠ (.slice (some ad421) x8_2.length co77 : Value).ownBlock)) (by (with_reducible repeat (first | apply z3i | apply z3j | apply z3k)); exact Kd.R_mono HO_9.out (fun _ hk => ⟨hk.2, hk.1⟩)) hg hat); have n3_ := z3a (hb); have n4_ := z3a (ho); clear HO_6; clear HO_8; clear HO_9; clear HB; clear HO_7; have HO_6 := n0_; have HO_8 := n1_; have HO_9 := n2_; have HB := n3_; have HO424 := n4_; clear n0_ n1_ n2_ n3_ n4_; clear ho hb hg hat) | ((with_reducible refine gate_callee (f := 117) rfl ?_); refine goesL_ (some 111) rfl rfl Try.func117 (by kernel_rfl) rfl #[.slice (some ad421) x8_2.length co77, .int .i64 t420] rfl (by (try simp only [zm3a, zm3b, zm3c]); first | done | rfl | (simp only [zm3d, zm3e]; rfl)) ?_; (with_reducible refine (y_hb.calls _ _ x8_2 t420 t425 _ ?side1 ?side2 A76.out).mono ?_); (case side1 => repeat (first | exact (Kd.R_reads' HO_8.out).2.2 | (with_reducible refine Kd.C_alloc ?_ _) | (with_reducible refine Kd.C_drewN ?_ _) | (with_reducible refine Kd.C_drew ?_))); (case side2 => exact (Kd.R_reads' HO_8.out).2.1); rintro e w80 ⟨v426, rfl, ho0, hb⟩; refine ⟨_, rfl, ?_⟩; have n0_ := z3a (Kd.S_elder' (by (with_reducible repeat (first | apply z3l | apply z3m | apply z3n)); exact HO_6.out) (Kd.R_base ho0) hb); have n1_ := z3a (Kd.R_elder' (by (with_reducible repeat (first | apply z3i | apply z3j | apply z3k)); exact HO_8.out) (Kd.R_base ho0) hb); have n2_ := z3a (Kd.R_elder' (by (with_reducible repeat (first | apply z3i | apply z3j | apply z3k)); exact HO_9.out) (Kd.R_base ho0) hb); have n3_ := z3a (Kd.R_elder' (by (with_reducible repeat (first | apply z3i | apply z3j | apply z3k)); exact HO424.out) (Kd.R_base ho0) hb); have n4_ := z3a (Kd.R_lower (Kd.R_new' (Kd.R_new' (Kd.R_new' ho0 (Kd.R_lt (by (with_reducible repeat (first | apply z3i | apply z3j | apply z3k)); exact HO_8.out))) (Kd.R_lt (by (with_reducible repeat (first | apply z3i | apply z3j | apply z3k)); exact HO_9.out))) (Kd.R_lt (by (with_reducible repeat (first | apply z3i | apply z3j | apply z3k)); exact HO424.out))) (below_size (by repeat (first | (with_reducible first | exact HB.out | apply z3d | apply z3b | apply z3c) | exact HB.out)))); have n5_ := z3a (below_step (by repeat (first | (with_reducible first | exact HB.out | apply z3d | apply z3b | apply z3c) | exact HB.out)) hb); clear HO_6; clear HO_8; clear HO_9; clear HO424; clear HB; have HO_6 := n0_; have HO_8 := n1_; have HO_9 := n2_; have HO424 := n3_; have HO427 := n4_; have HB := n5_; clear n0_ n1_ n2_ n3_ n4_ n5_; (try clear hb); (try clear hb2); (try clear hk); (try clear hi); (try clear ho0)))
                go_roundg kj24
                case measure => have := HJ2.out; have := HK2.out; have := HJ19.out; have := HJ24.out; omega
                case rel => exact ⟨(x6_2), (y422), (t425), (x9_2), (x10_2), (by first | rfl | (simp; done) | (simp [*]; done)), H', ⟨by have := HJ2.out; have := HK2.out; have := HJ19.out; have := HJ24.out; omega⟩, ⟨by (with_reducible repeat (first | apply z3l | apply z3m | apply z3n)); exact Kd.S_mono HO_6.out (fun _ hk => ⟨hk.1.2, ⟨hk.2, hk.1.1.2⟩⟩)⟩, ⟨by (with_reducible repeat (first | apply z3i | apply z3j | apply z3k)); exact Kd.R_mono HO424.out (fun _ hk => ⟨hk.2, hk.1.2⟩)⟩, ⟨by (with_reducible repeat (first | apply z3i | apply z3j | apply z3k)); exact Kd.R_mono HO427.out (fun _ hk => ⟨hk.2, hk.1.2⟩)⟩, ⟨by (with_reducible repeat (first | apply z3i | apply z3j | apply z3k)); exact Kd.R_mono HO_9.out (fun _ hk => ⟨hk.1.2, hk.2⟩)⟩, ⟨by repeat (first | (with_reducible first | exact HB.out | apply z3d | apply z3b | apply z3c) | exact HB.out)⟩⟩
               ·rw [if_neg c75] at H
                exact absurd H (by simp)
              ·rw [if_neg c74] at H
               exact absurd H (by simp)
             ·rw [if_neg c73] at H
              exact absurd H (by simp)
        ·replace c24 := Bool.eq_false_iff.mpr c24
         subst c24
         have H1 : (if (x7_2.length : Int) > 0 then (if x6_2.length < 5864062014805 then (some ((x6_2 ++ [(⟨x7_2⟩ : S39)]), true)) else (none)) else (some (x6_2, true))) = some (r1, r2) := by rw [if_neg (show ¬ (false = true) by decide)] at H; exact H
         clear H
         have H := H1
         clear H1
         by_cases c81 : (x7_2.length : Int) > 0
         ·rw [if_pos c81] at H
          have c81b0 : decide (0 < (x7_2.length : Int)) = true := z3h c81
          have c81b1 : decide (0 < x7_2.length) = true := z3h (by omega)
          clear c81
          by_cases c82 : x6_2.length < 5864062014805
          ·rw [if_pos c82] at H
           have LMc82 := z3a c82
           clear c82
           obtain ⟨y389, hy389⟩ : ∃ y_ : List (S39), y_ = (x6_2 ++ [(⟨x7_2⟩ : S39)]) := ⟨_, rfl⟩
           replace H : (some (y389, true)) = some (r1, r2) := by first | (rw [hy389]; with_reducible exact H) | (have H2_ := (Option.bind_some _ _).symm.trans H; rw [hy389]; with_reducible exact H2_) | (have H2_ := (Option.bind_some _ _).symm.trans H; with_reducible exact H2_) | with_reducible exact H | (rw [hy389]; exact H) | exact H
           have Ny389 := z3a hy389
           clear hy389
           simp only [Option.some.injEq, Prod.mk.injEq] at H
           obtain ⟨rfl, rfl⟩ := H
           obtain ⟨Ao83, co83, eo83⟩ := Kd.R_slice HO_7.out
           subst eo83
           go_wp2_with (first | ((with_reducible refine gate_builtin (b := .append) (xs := #[.tmp 115, .tmp 118]) rfl ?_); (try (refine gate_guard (by rfl) ?_; dsimp only)); at_builtin; refine Kd.S_append k39 (w0 := w) w.heap.size rfl (.tmp 115) (.tmp 118) 27 39 (.agg #[(.slice none 0 0)]) 24 rfl Try.underlying27 info39 rfl (by decide) (by omega) u6 x6_2 (⟨x7_2⟩ : S39) [.slice Ao83 x7_2.length co83] (fun k_ => some k_ ≠ (u8 : Value).ownBlock ∧ some k_ ≠ (u9 : Value).ownBlock) (fun k_ => some k_ = (.slice Ao83 x7_2.length co83 : Value).ownBlock) rfl rfl ?aP (fun k_ hk_ => ((Kd.R_mono (ok' := fun k_ => ((fun k_ => some k_ ≠ (u8 : Value).ownBlock ∧ some k_ ≠ (u9 : Value).ownBlock)) k_ ∧ some k_ ≠ (u6 : Value).ownBlock) (Kd.R_apart' (HO_7.out) (Kd.S_typed HO_6.out) (by decide)) (fun k_ hk => ⟨⟨hk.1.1, hk.1.2⟩, hk.2⟩))).1 k_ hk_.symm) ?aF ?aO ?aB ?aS ?aL ?_; (case aP => exact k39_mkM _ _ _ (⟨x7_2⟩ : S39) (Kd.R_mono (Kd.R_tight rfl (Kd.R_mono (ok' := fun k_ => ((fun k_ => some k_ ≠ (u8 : Value).ownBlock ∧ some k_ ≠ (u9 : Value).ownBlock)) k_ ∧ some k_ ≠ (u6 : Value).ownBlock) (Kd.R_apart' (HO_7.out) (Kd.S_typed HO_6.out) (by decide)) (fun k_ hk => ⟨⟨hk.1.1, hk.1.2⟩, hk.2⟩))) (fun _ h_ => h_))); (case aB => exact (by repeat (first | (with_reducible first | exact HB.out | apply z3d | apply z3b | apply z3c) | exact HB.out))); (case aF => exact (fun k_ hk => ⟨Kd.fresh' (Kd.R_lt (by (with_reducible repeat (first | apply z3i | apply z3j | apply z3k)); exact HO_8.out)) k_ hk, Kd.fresh' (Kd.R_lt (by (with_reducible repeat (first | apply z3i | apply z3j | apply z3k)); exact HO_9.out)) k_ hk⟩)); (case aO => exact (by (with_reducible repeat (first | apply z3l | apply z3m | apply z3n)); exact Kd.S_mono HO_6.out (fun k_ hk => ⟨⟨hk.2.1, hk.2.2⟩, fun e_ => hk.1 e_⟩))); (case aS => exact (below_size (by repeat (first | (with_reducible first | exact HB.out | apply z3d | apply z3b | apply z3c) | exact HB.out)))); (case aL => have := LMc82.out; omega); intro v390 w84 ho hb hg hat; rw [← Ny389.out] at ho; have n0_ := z3a (Kd.R_over' (by (with_reducible repeat (first | apply z3i | apply z3j | apply z3k)); exact HO_8.out) (Kd.S_typed (by (with_reducible repeat (first | apply z3l | apply z3m | apply z3n)); exact HO_6.out)) (by decide) hg); have n1_ := z3a (Kd.R_over' (by (with_reducible repeat (first | apply z3i | apply z3j | apply z3k)); exact HO_9.out) (Kd.S_typed (by (with_reducible repeat (first | apply z3l | apply z3m | apply z3n)); exact HO_6.out)) (by decide) hg); have n2_ := z3a (hb); have n3_ := z3a (ho); clear HO_8; clear HO_9; clear HB; clear HO_6; clear HO_7; have HO_8 := n0_; have HO_9 := n1_; have HB := n2_; have HO391 := n3_; clear n0_ n1_ n2_ n3_; clear ho hb hg hat))
           go_ret2
           exact ⟨_, by first | rfl | (simp [errW_none, errW_some] <;> rfl) | (simp [*, errW_none, errW_some] <;> rfl), by (with_reducible repeat (first | apply z3l | apply z3m | apply z3n)); exact Kd.S_mono HO391.out (fun _ hk => trivial), by repeat (first | (with_reducible first | exact HB.out | apply z3d | apply z3b | apply z3c) | exact HB.out)⟩
          ·rw [if_neg c82] at H
           exact absurd H (by simp)
         ·rw [if_neg c81] at H
          have c81b0 : decide (0 < (x7_2.length : Int)) = false := decide_eq_false c81
          have c81b1 : decide (0 < x7_2.length) = false := decide_eq_false (by omega)
          clear c81
          simp only [Option.some.injEq, Prod.mk.injEq] at H
          obtain ⟨rfl, rfl⟩ := H
          obtain ⟨Ao85, co85, eo85⟩ := Kd.R_slice HO_7.out
          subst eo85
          go_wp2
          go_ret2
          exact ⟨_, by first | rfl | (simp [errW_none, errW_some] <;> rfl) | (simp [*, errW_none, errW_some] <;> rfl), by (with_reducible repeat (first | apply z3l | apply z3m | apply z3n)); exact Kd.S_mono HO_6.out (fun _ hk => trivial), by repeat (first | (with_reducible first | exact HB.out | apply z3d | apply z3b | apply z3c) | exact HB.out)⟩
end Go.Proofs.Ytkcicbigpbdjpaa.P
end
