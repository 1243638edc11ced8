-- merged by pack.py out of Px8 (words: printed by the kit's print.sh; what this claim does not use is left out)

import Derived.Test.YtkcicbigpbdjpaaKFnExactExternalSort1
import Derived.Test.YtkcicbigpbdjpaaKFnExactExternalSort7
import Derived.Test.YtkcicbigpbdjpaaKFnExactExternalSort8
namespace Go.Proofs.Ytkcicbigpbdjpaa
abbrev zt9 : Bool := true
abbrev zf9 : Bool := false
section
open Go.RowKit Go.Proofs.YtkcicbigpbdjpaaW.PrintWords Go.Proofs.YtkcicbigpbdjpaaW.PrintLast Go.Proofs.YtkcicbigpbdjpaaW.PrintMore
abbrev z9a := @Aside0.mk
abbrev z9b := @pw_below_drewN
abbrev z9c := @below_drew1
abbrev z9d := @below_alloc
abbrev z9e := @World.block_lt_of_cell?
abbrev z9f := @Option.bind_eq_some_iff
abbrev z9g := @of_decide_eq_true
abbrev z9h := @Kd.R_alloc
abbrev z9i := @Kd.R_drewN
abbrev z9j := @Kd.R_drew
abbrev z9k := @Kd.R_below
abbrev z9l := @Kd.S_alloc
abbrev z9m := @Kd.S_drewN
abbrev z9n := @Kd.S_drew
end
theorem zm9a {α β : Type} (f : α → β) (l : List α) : l.toArray.map f = (l.map f).toArray := by simp
theorem zm9b {α β : Type} (f : α → β) (a : α) (l : List α) : (a :: l).map f = f a :: l.map f := rfl
theorem zm9c {α β : Type} (f : α → β) : ([] : List α).map f = [] := rfl
theorem zm9d {α : Type} (n : Nat) (l : List α) : (l.drop n).length = l.length - n := List.length_drop
theorem zm9e {α : Type} (n : Nat) (l : List α) : (l.take n).length = min n l.length := List.length_take
theorem zp9a {α : Type} (l : List α) (i : Nat) (a : α) : l.toArray.setIfInBounds i a = (l.set i a).toArray := List.setIfInBounds_toArray l i a
theorem zp9b {α : Type} (x : α) (l : List α) (a : α) : (x :: l).set 0 a = a :: l := List.set_cons_zero
theorem zp9c {α : Type} (x : α) (l : List α) (n : Nat) (a : α) : (x :: l).set (n + 1) a = x :: l.set n a := List.set_cons_succ
end Go.Proofs.Ytkcicbigpbdjpaa
section
namespace Go.Proofs.Ytkcicbigpbdjpaa.P
open Go.RowKit Go.Proofs.YtkcicbigpbdjpaaW.PrintWords Go.Proofs.YtkcicbigpbdjpaaW.PrintLast Go.Proofs.YtkcicbigpbdjpaaW.PrintMore
attribute [local go_sem] max2_int min2_int max_two min_two max_three min_three max_four min_four
set_option linter.unusedVariables false
set_option linter.unusedSimpArgs false
mutual
def y_a.j0 : Nat → List (S71) → Int → Bool → Option ((List (S39)) × Bool)
 | 0, _, _, _ => none
 | k + 1, x0, x1, x19 => if x19 = true then (some (([] : List (S39)), false)) else (y_a.l0 k x0 x1 (([] : List (S71))) (([] : List (S71))) (([] : List (S71))) (([] : List (S39))) 0)
def y_a.l0 : Nat → List (S71) → Int → List (S71) → List (S71) → List (S71) → List (S39) → Int → Option ((List (S39)) × Bool)
 | 0, _, _, _, _, _, _, _ => none
 | k + 1, x0, x1, x6, x7, x8, x9, x10 => if x10 < (x0.length : Int) then ((y_i.f k x6).bind fun t296 => ((y_i.f k x7).bind fun t297 => (if 0 ≤ x10 then ((y_mb.f ((rd_T71 x0 x10).f0) ((rd_T71 x0 x10).f1) ((rd_T71 x0 x10).f2)).bind fun t299 => (y_a.j2 k x0 x1 x6 x7 x8 x9 x10 (decide ((wrap64 ((wrap64 (t296 + t297)) + t299)) ≤ x1)))) else (none)))) else (y_a.j2 k x0 x1 x6 x7 x8 x9 x10 false)
def y_a.j2 : Nat → List (S71) → Int → List (S71) → List (S71) → List (S71) → List (S39) → Int → Bool → Option ((List (S39)) × Bool)
 | 0, _, _, _, _, _, _, _, _ => none
 | k + 1, x0, x1, x6, x7, x8, x9, x10, x34 => if x34 = true then (if 0 ≤ x10 then (if x10 < (x0.length : Int) then ((y_fb.f ((rd_T71 x0 x10).f0) ((rd_T71 x0 x10).f1) ((rd_T71 x0 x10).f2) x8).bind fun t301 => (if t301 = true then (if x7.length < 5864062014805 then (y_a.l0 k x0 x1 x6 (x7 ++ [(⟨(rd_T71 x0 x10).f0, (rd_T71 x0 x10).f1, (rd_T71 x0 x10).f2⟩ : S71)]) x8 x9 (wrap64 (x10 + 1))) else (none)) else (if x6.length < 5864062014805 then (y_a.l0 k x0 x1 (x6 ++ [(⟨(rd_T71 x0 x10).f0, (rd_T71 x0 x10).f1, (rd_T71 x0 x10).f2⟩ : S71)]) x7 x8 x9 (wrap64 (x10 + 1))) else (none)))) else (none)) else (none)) else (if (x6.length : Int) = 0 then (y_a.j3 k x0 x1 x6 x7 x8 x9 x10 (decide ((x7.length : Int) > 0))) else (y_a.j3 k x0 x1 x6 x7 x8 x9 x10 false))
def y_a.j3 : Nat → List (S71) → Int → List (S71) → List (S71) → List (S71) → List (S39) → Int → Bool → Option ((List (S39)) × Bool)
 | 0, _, _, _, _, _, _, _, _ => none
 | k + 1, x0, x1, x6, x7, x8, x9, x10, x76 => if x76 = true then (if x9.length < 5864062014805 then (y_a.l0 k x0 x1 x7 ([] : List (S71)) ([] : List (S71)) (x9 ++ [(⟨x8⟩ : S39)]) x10) else (none)) else (if (x6.length : Int) > 0 then ((y_f.f k x6).bind fun t313 => (if 0 ≤ t313 then (if t313 < (x6.length : Int) then (if x8.length < 5864062014805 then ((y_ob.f x6 t313).bind fun t318 => (y_a.l0 k x0 x1 t318 x7 (x8 ++ [(⟨(rd_T71 x6 t313).f0, (rd_T71 x6 t313).f1, (rd_T71 x6 t313).f2⟩ : S71)]) x9 x10)) else (none)) else (none)) else (none))) else (if (x8.length : Int) > 0 then (if x9.length < 5864062014805 then ((y_h.f k (x9 ++ [(⟨x8⟩ : S39)])).bind fun t324 => (some (t324, true))) else (none)) else ((y_h.f k x9).bind fun t327 => (some (t327, true)))))
end
def y_a.f (k : Nat) (l0 : List (S71)) (a1 : Int) : Option ((List (S39)) × Bool) := (y_t.f k l0).bind fun t282 => (if t282 = true then ((y_qb.f a1).bind fun t283 => (y_a.j0 k l0 a1 (!t283))) else (y_a.j0 k l0 a1 true))
theorem y_a.mono_l : ∀ k, (∀ y0 y1 y2, LeO (y_a.j0 k y0 y1 y2) (y_a.j0 (k + 1) y0 y1 y2)) ∧ (∀ y0 y1 y2 y3 y4 y5 y6, LeO (y_a.l0 k y0 y1 y2 y3 y4 y5 y6) (y_a.l0 (k + 1) y0 y1 y2 y3 y4 y5 y6)) ∧ (∀ y0 y1 y2 y3 y4 y5 y6 y7, LeO (y_a.j2 k y0 y1 y2 y3 y4 y5 y6 y7) (y_a.j2 (k + 1) y0 y1 y2 y3 y4 y5 y6 y7)) ∧ (∀ y0 y1 y2 y3 y4 y5 y6 y7, LeO (y_a.j3 k y0 y1 y2 y3 y4 y5 y6 y7) (y_a.j3 (k + 1) y0 y1 y2 y3 y4 y5 y6 y7))
 | 0 => ⟨fun _ _ _ r h => by simp [y_a.j0] at h, fun _ _ _ _ _ _ _ r h => by simp [y_a.l0] at h, fun _ _ _ _ _ _ _ _ r h => by simp [y_a.j2] at h, fun _ _ _ _ _ _ _ _ r h => by simp [y_a.j3] at h⟩
 | k + 1 => by
  obtain ⟨ih0, ih1, ih2, ih3⟩ := y_a.mono_l k
  refine ⟨?_, ?_, ?_, ?_⟩
  ·intro y0 y1 y2
   unfold y_a.j0
   repeat' first
   | (with_reducible exact ih0 _ _ _)
   | (with_reducible exact ih1 _ _ _ _ _ _ _)
   | (with_reducible exact ih2 _ _ _ _ _ _ _ _)
   | (with_reducible exact ih3 _ _ _ _ _ _ _ _)
   | (with_reducible exact y_t.mono _ _)
   | (with_reducible exact y_f.mono _ _)
   | (with_reducible exact y_i.mono _ _)
   | (with_reducible exact y_h.mono _ _)
   | (with_reducible exact LeO.refl _)
   | (with_reducible exact LeO.none _)
   | (with_reducible refine LeO.ite ?_ ?_)
   | (with_reducible refine LeO.bind ?_ (fun _ => ?_))
   | exact ih0 _ _ _
   | exact ih1 _ _ _ _ _ _ _
   | exact ih2 _ _ _ _ _ _ _ _
   | exact ih3 _ _ _ _ _ _ _ _
   | exact y_t.mono _ _
   | exact y_f.mono _ _
   | exact y_i.mono _ _
   | exact y_h.mono _ _
   | exact LeO.none _
   | refine LeO.ite ?_ ?_
   | refine LeO.bind ?_ (fun _ => ?_)
  ·intro y0 y1 y2 y3 y4 y5 y6
   unfold y_a.l0
   repeat' first
   | (with_reducible exact ih0 _ _ _)
   | (with_reducible exact ih1 _ _ _ _ _ _ _)
   | (with_reducible exact ih2 _ _ _ _ _ _ _ _)
   | (with_reducible exact ih3 _ _ _ _ _ _ _ _)
   | (with_reducible exact y_t.mono _ _)
   | (with_reducible exact y_f.mono _ _)
   | (with_reducible exact y_i.mono _ _)
   | (with_reducible exact y_h.mono _ _)
   | (with_reducible exact LeO.refl _)
   | (with_reducible exact LeO.none _)
   | (with_reducible refine LeO.ite ?_ ?_)
   | (with_reducible refine LeO.bind ?_ (fun _ => ?_))
   | exact ih0 _ _ _
   | exact ih1 _ _ _ _ _ _ _
   | exact ih2 _ _ _ _ _ _ _ _
   | exact ih3 _ _ _ _ _ _ _ _
   | exact y_t.mono _ _
   | exact y_f.mono _ _
   | exact y_i.mono _ _
   | exact y_h.mono _ _
   | exact LeO.none _
   | refine LeO.ite ?_ ?_
   | refine LeO.bind ?_ (fun _ => ?_)
  ·intro y0 y1 y2 y3 y4 y5 y6 y7
   unfold y_a.j2
   repeat' first
   | (with_reducible exact ih0 _ _ _)
   | (with_reducible exact ih1 _ _ _ _ _ _ _)
   | (with_reducible exact ih2 _ _ _ _ _ _ _ _)
   | (with_reducible exact ih3 _ _ _ _ _ _ _ _)
   | (with_reducible exact y_t.mono _ _)
   | (with_reducible exact y_f.mono _ _)
   | (with_reducible exact y_i.mono _ _)
   | (with_reducible exact y_h.mono _ _)
   | (with_reducible exact LeO.refl _)
   | (with_reducible exact LeO.none _)
   | (with_reducible refine LeO.ite ?_ ?_)
   | (with_reducible refine LeO.bind ?_ (fun _ => ?_))
   | exact ih0 _ _ _
   | exact ih1 _ _ _ _ _ _ _
   | exact ih2 _ _ _ _ _ _ _ _
   | exact ih3 _ _ _ _ _ _ _ _
   | exact y_t.mono _ _
   | exact y_f.mono _ _
   | exact y_i.mono _ _
   | exact y_h.mono _ _
   | exact LeO.none _
   | refine LeO.ite ?_ ?_
   | refine LeO.bind ?_ (fun _ => ?_)
  ·intro y0 y1 y2 y3 y4 y5 y6 y7
   unfold y_a.j3
   repeat' first
   | (with_reducible exact ih0 _ _ _)
   | (with_reducible exact ih1 _ _ _ _ _ _ _)
   | (with_reducible exact ih2 _ _ _ _ _ _ _ _)
   | (with_reducible exact ih3 _ _ _ _ _ _ _ _)
   | (with_reducible exact y_t.mono _ _)
   | (with_reducible exact y_f.mono _ _)
   | (with_reducible exact y_i.mono _ _)
   | (with_reducible exact y_h.mono _ _)
   | (with_reducible exact LeO.refl _)
   | (with_reducible exact LeO.none _)
   | (with_reducible refine LeO.ite ?_ ?_)
   | (with_reducible refine LeO.bind ?_ (fun _ => ?_))
   | exact ih0 _ _ _
   | exact ih1 _ _ _ _ _ _ _
   | exact ih2 _ _ _ _ _ _ _ _
   | exact ih3 _ _ _ _ _ _ _ _
   | exact y_t.mono _ _
   | exact y_f.mono _ _
   | exact y_i.mono _ _
   | exact y_h.mono _ _
   | exact LeO.none _
   | refine LeO.ite ?_ ?_
   | refine LeO.bind ?_ (fun _ => ?_)
theorem y_a.mono : ∀ a0 a1 k, LeO (y_a.f k a0 a1) (y_a.f (k + 1) a0 a1) := by
 intro a0 a1 k
 obtain ⟨ih0, ih1, ih2, ih3⟩ := y_a.mono_l k
 unfold y_a.f
 repeat' first
   | (with_reducible exact ih0 _ _ _)
   | (with_reducible exact ih1 _ _ _ _ _ _ _)
   | (with_reducible exact ih2 _ _ _ _ _ _ _ _)
   | (with_reducible exact ih3 _ _ _ _ _ _ _ _)
   | (with_reducible exact y_t.mono _ _)
   | (with_reducible exact y_f.mono _ _)
   | (with_reducible exact y_i.mono _ _)
   | (with_reducible exact y_h.mono _ _)
   | (with_reducible exact LeO.refl _)
   | (with_reducible exact LeO.none _)
   | (with_reducible refine LeO.ite ?_ ?_)
   | (with_reducible refine LeO.bind ?_ (fun _ => ?_))
   | exact ih0 _ _ _
   | exact ih1 _ _ _ _ _ _ _
   | exact ih2 _ _ _ _ _ _ _ _
   | exact ih3 _ _ _ _ _ _ _ _
   | exact y_t.mono _ _
   | exact y_f.mono _ _
   | exact y_i.mono _ _
   | exact y_h.mono _ _
   | exact LeO.none _
   | refine LeO.ite ?_ ?_
   | refine LeO.bind ?_ (fun _ => ?_)
def y_a.T8 : Bool × List (List Nat × List Nat) := (true, [([], []), ([], []), ([1], [1]), ([0, 2], [0, 2]), ([3], [3]), ([4], [4]), ([5, 4, 4], [4, 5]), ([4], [4]), ([7, 6, 4], [4, 7]), ([6, 8, 4], [4, 6, 8]), ([4], [4]), ([4], [4]), ([10, 11, 4], [4, 10, 11]), ([12, 4], [4, 12]), ([13, 8, 4], [4, 13]), ([9, 14, 4], [4, 9, 14]), ([4], [4]), ([15, 16, 4], [4, 15, 16]), ([4, 17], [4, 17]), ([18, 14], [18])])
def y_a.B8 : List Nat := [0, 0, 2, 7, 15, 31, 63, 31, 255, 511, 31, 31, 3103, 7199, 15871, 32767, 31, 131071, 262143, 524287]
theorem y_a.tab8 : rtab .any (opsOf Try.f17 8) = y_a.T8 := by kernel_rfl
theorem y_a.bits8 : waitsOk y_a.T8.2 y_a.B8 = true := by kernel_rfl
set_option maxHeartbeats 8000000 in
set_option maxRecDepth 100000 in
theorem y_a.calls (k : Nat) (A0 : Option Addr) (c0 : Nat) (l0 : List (S71)) (a1 : Int) (r1 : List (S39)) (r2 : Bool) (w : World) (hr0 : Kd.C k71 w A0 l0.length l0) (hc0 : l0.length ≤ c0) (h : y_a.f k l0 a1 = some (r1, r2)) :
  Calls Try.prog 17 #[.slice A0 l0.length c0, .int .i64 a1] w fun e w' => ∃ v0_ : Value, e = .returned (.tuple #[v0_, .bool r2]) ∧ Kd.S k39 39 w' w.heap.size (fun _ => True) v0_ r1 ∧ Below w.heap.size w w' := by
 have hu71 := Try.underlying71
 have hu39 := Try.underlying39
 have HR0 := z9a hr0
 have HC0 := z9a hc0
 clear hr0 hc0
 have HB := z9a (Below.refl w.heap.size w)
 have H := h
 unfold y_a.f at H
 clear h
 have HC3 := z9a H
 clear H
 go_enter Try.func17, Try.ntmps17
 go_upto_region 1 with (fail)
 go_cut [19] (fun v19 wc => ∃ (kq : Nat) (x19_2 : Bool), v19 = .bool x19_2 ∧ Aside0 (y_a.j0 kq l0 a1 x19_2 = some (r1, r2)) ∧ Aside0 (kq ≤ k) ∧ Aside0 (Below w.heap.size w wc))
 case first =>
  have H := HC3.out
  clear HC3
  replace H := z9f.mp H
  obtain ⟨t282, A40, H⟩ := H
  have A4 := z9a A40
  clear A40
  by_cases c5 : t282 = true
  ·subst c5
   rw [if_pos rfl] at H
   replace H := z9f.mp H
   obtain ⟨t283, A60, H⟩ := H
   have A6 := z9a A60
   clear A60
   have H' := z9a H
   clear H
   go_wp2_with (first | ((with_reducible refine gate_callee (f := 107) rfl ?_); refine goesL_ (some 13) rfl rfl Try.func107 (by kernel_rfl) rfl #[.slice A0 l0.length c0] rfl (by (try simp only [zm9a, zm9b, zm9c]); first | done | rfl | (simp only [zm9d, zm9e]; rfl)) ?_; (with_reducible refine (y_t.calls k _ _ l0 true _ ?side1 ?side2 A4.out).mono ?_); (case side1 => repeat (first | exact (Kd.C_below HR0.out HB.out) | (with_reducible refine Kd.C_alloc ?_ _) | (with_reducible refine Kd.C_drewN ?_ _) | (with_reducible refine Kd.C_drew ?_))); (case side2 => exact HC0.out); rintro e w7 ⟨rfl, hb⟩; refine ⟨_, rfl, ?_⟩; have n0_ := z9a (below_step (by repeat (first | (with_reducible first | exact HB.out | apply z9d | apply z9b | apply z9c) | exact HB.out)) hb); clear HB; have HB := n0_; clear n0_; (try clear hb); (try clear hb2); (try clear hk); (try clear hi)) | (go_at_call 108; (with_reducible refine (y_qb.calls a1 t283 _ A6.out).mono ?_); rintro e w' ⟨rfl, ⟨nd, rfl⟩⟩))
   go_meet
   case rel => exact ⟨_, (!t283), (by first | rfl | (simp; done) | (simp [*]; done)), H', ⟨by first | omega | exact Nat.le_refl _⟩, ⟨by repeat (first | (with_reducible first | exact HB.out | apply z9d | apply z9b | apply z9c) | exact HB.out)⟩⟩
  ·replace c5 := Bool.eq_false_iff.mpr c5
   subst c5
   have H1 : (y_a.j0 k l0 a1 true) = some (r1, r2) := by rw [if_neg (show ¬ (false = true) by decide)] at H; exact H
   clear H
   have H := H1
   clear H1
   have H' := z9a H
   clear H
   go_wp2_with (first | ((with_reducible refine gate_callee (f := 107) rfl ?_); refine goesL_ (some 13) rfl rfl Try.func107 (by kernel_rfl) rfl #[.slice A0 l0.length c0] rfl (by (try simp only [zm9a, zm9b, zm9c]); first | done | rfl | (simp only [zm9d, zm9e]; rfl)) ?_; (with_reducible refine (y_t.calls k _ _ l0 false _ ?side1 ?side2 A4.out).mono ?_); (case side1 => repeat (first | exact (Kd.C_below HR0.out HB.out) | (with_reducible refine Kd.C_alloc ?_ _) | (with_reducible refine Kd.C_drewN ?_ _) | (with_reducible refine Kd.C_drew ?_))); (case side2 => exact HC0.out); rintro e w8 ⟨rfl, hb⟩; refine ⟨_, rfl, ?_⟩; have n0_ := z9a (below_step (by repeat (first | (with_reducible first | exact HB.out | apply z9d | apply z9b | apply z9c) | exact HB.out)) hb); clear HB; have HB := n0_; clear n0_; (try clear hb); (try clear hb2); (try clear hk); (try clear hi)))
   go_meet
   case rel => exact ⟨_, (true), (by first | rfl | (simp; done) | (simp [*]; done)), H', ⟨by first | omega | exact Nat.le_refl _⟩, ⟨by repeat (first | (with_reducible first | exact HB.out | apply z9d | apply z9b | apply z9c) | exact HB.out)⟩⟩
 case rest =>
  clear HC3
  try clear c1
  try clear p2
  try clear c5
  obtain ⟨kq, x19_2, rfl, HA, HJ2, HB⟩ := hcut
  cases kq with
  | zero => exact absurd HA.out (by simp [y_a.j0])
  | succ kj2 =>
   have H := HA.out
   clear HA
   simp only [y_a.j0] at H
   by_cases c9 : x19_2 = true
   ·subst c9
    rw [if_pos rfl] at H
    simp only [Option.some.injEq, Prod.mk.injEq] at H
    obtain ⟨rfl, rfl⟩ := H
    go_wp2
    go_ret2
    exact ⟨_, by first | rfl | (simp [errW_none, errW_some] <;> rfl) | (simp [*, errW_none, errW_some] <;> rfl), by first | exact Kd.S_nil _ _ _ _ _ | exact Kd.N_nil _ _ _ _ _ | exact Kd.V_nil _ _ _ _ _ | exact Kd.Q_nil _ _ _ _ _ | exact Kd.R_nil _ _ _ _ _, by repeat (first | (with_reducible first | exact HB.out | apply z9d | apply z9b | apply z9c) | exact HB.out)⟩
   ·replace c9 := Bool.eq_false_iff.mpr c9
    subst c9
    have H1 : (y_a.l0 kj2 l0 a1 (([] : List (S71))) (([] : List (S71))) (([] : List (S71))) (([] : List (S39))) 0) = some (r1, r2) := by rw [if_neg (show ¬ (false = true) by decide)] at H; exact H
    clear H
    have H := H1
    clear H1
    obtain ⟨y284, hy284⟩ : ∃ y_ : List (S71), y_ = (([] : List (S71))) := ⟨_, rfl⟩
    replace H : (y_a.l0 kj2 l0 a1 y284 (([] : List (S71))) (([] : List (S71))) (([] : List (S39))) 0) = some (r1, r2) := by first | (rw [hy284]; with_reducible exact H) | (have H2_ := (Option.bind_some _ _).symm.trans H; rw [hy284]; with_reducible exact H2_) | (have H2_ := (Option.bind_some _ _).symm.trans H; with_reducible exact H2_) | with_reducible exact H | (rw [hy284]; exact H) | exact H
    have Ny284 := z9a hy284
    clear hy284
    obtain ⟨y287, hy287⟩ : ∃ y_ : List (S71), y_ = (([] : List (S71))) := ⟨_, rfl⟩
    replace H : (y_a.l0 kj2 l0 a1 y284 y287 (([] : List (S71))) (([] : List (S39))) 0) = some (r1, r2) := by first | (rw [hy287]; with_reducible exact H) | (have H2_ := (Option.bind_some _ _).symm.trans H; rw [hy287]; with_reducible exact H2_) | (have H2_ := (Option.bind_some _ _).symm.trans H; with_reducible exact H2_) | with_reducible exact H | (rw [hy287]; exact H) | exact H
    have Ny287 := z9a hy287
    clear hy287
    obtain ⟨y290, hy290⟩ : ∃ y_ : List (S71), y_ = (([] : List (S71))) := ⟨_, rfl⟩
    replace H : (y_a.l0 kj2 l0 a1 y284 y287 y290 (([] : List (S39))) 0) = some (r1, r2) := by first | (rw [hy290]; with_reducible exact H) | (have H2_ := (Option.bind_some _ _).symm.trans H; rw [hy290]; with_reducible exact H2_) | (have H2_ := (Option.bind_some _ _).symm.trans H; with_reducible exact H2_) | with_reducible exact H | (rw [hy290]; exact H) | exact H
    have Ny290 := z9a hy290
    clear hy290
    obtain ⟨y293, hy293⟩ : ∃ y_ : List (S39), y_ = (([] : List (S39))) := ⟨_, rfl⟩
    replace H : (y_a.l0 kj2 l0 a1 y284 y287 y290 y293 0) = some (r1, r2) := by first | (rw [hy293]; with_reducible exact H) | (have H2_ := (Option.bind_some _ _).symm.trans H; rw [hy293]; with_reducible exact H2_) | (have H2_ := (Option.bind_some _ _).symm.trans H; with_reducible exact H2_) | with_reducible exact H | (rw [hy293]; exact H) | exact H
    have Ny293 := z9a hy293
    clear hy293
    have H' := z9a H
    clear H
    go_wp2_with (first | ((with_reducible refine gate_dst (N := 20) rfl ?_); (try (refine gate_guard (by rfl) ?_; dsimp only)); refine Kd.R_lit k71 _ 71 ?hg (N := 20) ?hd (xs := ([] : List (S71))) (inner := []) (ok := fun _ => True) (okp := fun _ => True) ?hr ?hp (fun _ hk => hk) trivial (Below.refl _ _) (Nat.le_refl _) (by simp) ?_; (case hd => rfl); (case hg => rfl); (case hr => first | (go_simp; done) | (go_simp; rfl)); (case hp => exact (Reps.none _ _)); intro v285 w10 ho11 hb hg_ hnew_; clear hg_ hnew_; (first | rw [← Ny284.out] at ho11 | (simp only [Int.reduceToNat] at ho11; rw [← Ny284.out] at ho11)); have n0_ := z9a (Kd.R_lower ho11 (below_size (by repeat (first | (with_reducible first | exact HB.out | apply z9d | apply z9b | apply z9c) | exact HB.out)))); have n1_ := z9a (below_step (by repeat (first | (with_reducible first | exact HB.out | apply z9d | apply z9b | apply z9c) | exact HB.out)) hb); clear HB; have HO286 := n0_; have HB := n1_; clear n0_ n1_; clear hb ho11) | ((with_reducible refine gate_dst (N := 21) rfl ?_); (try (refine gate_guard (by rfl) ?_; dsimp only)); refine Kd.R_lit k71 _ 71 ?hg (N := 21) ?hd (xs := ([] : List (S71))) (inner := []) (ok := fun _ => True) (okp := fun _ => True) ?hr ?hp (fun _ hk => hk) trivial (Below.refl _ _) (Nat.le_refl _) (by simp) ?_; (case hd => rfl); (case hg => rfl); (case hr => first | (go_simp; done) | (go_simp; rfl)); (case hp => exact (Reps.none _ _)); intro v288 w12 ho13 hb hg_ hnew_; clear hg_ hnew_; (first | rw [← Ny287.out] at ho13 | (simp only [Int.reduceToNat] at ho13; rw [← Ny287.out] at ho13)); have n0_ := z9a (Kd.R_elder' (by (with_reducible repeat (first | apply z9h | apply z9i | apply z9j)); exact HO286.out) (Kd.R_base ho13) hb); have n1_ := z9a (Kd.R_lower (Kd.R_new' ho13 (Kd.R_lt (by (with_reducible repeat (first | apply z9h | apply z9i | apply z9j)); exact HO286.out))) (below_size (by repeat (first | (with_reducible first | exact HB.out | apply z9d | apply z9b | apply z9c) | exact HB.out)))); have n2_ := z9a (below_step (by repeat (first | (with_reducible first | exact HB.out | apply z9d | apply z9b | apply z9c) | exact HB.out)) hb); clear HO286; clear HB; have HO286 := n0_; have HO289 := n1_; have HB := n2_; clear n0_ n1_ n2_; clear hb ho13) | ((with_reducible refine gate_dst (N := 22) rfl ?_); (try (refine gate_guard (by rfl) ?_; dsimp only)); refine Kd.R_lit k71 _ 71 ?hg (N := 22) ?hd (xs := ([] : List (S71))) (inner := []) (ok := fun _ => True) (okp := fun _ => True) ?hr ?hp (fun _ hk => hk) trivial (Below.refl _ _) (Nat.le_refl _) (by simp) ?_; (case hd => rfl); (case hg => rfl); (case hr => first | (go_simp; done) | (go_simp; rfl)); (case hp => exact (Reps.none _ _)); intro v291 w14 ho15 hb hg_ hnew_; clear hg_ hnew_; (first | rw [← Ny290.out] at ho15 | (simp only [Int.reduceToNat] at ho15; rw [← Ny290.out] at ho15)); have n0_ := z9a (Kd.R_elder' (by (with_reducible repeat (first | apply z9h | apply z9i | apply z9j)); exact HO286.out) (Kd.R_base ho15) hb); have n1_ := z9a (Kd.R_elder' (by (with_reducible repeat (first | apply z9h | apply z9i | apply z9j)); exact HO289.out) (Kd.R_base ho15) hb); have n2_ := z9a (Kd.R_lower (Kd.R_new' (Kd.R_new' ho15 (Kd.R_lt (by (with_reducible repeat (first | apply z9h | apply z9i | apply z9j)); exact HO286.out))) (Kd.R_lt (by (with_reducible repeat (first | apply z9h | apply z9i | apply z9j)); exact HO289.out))) (below_size (by repeat (first | (with_reducible first | exact HB.out | apply z9d | apply z9b | apply z9c) | exact HB.out)))); have n3_ := z9a (below_step (by repeat (first | (with_reducible first | exact HB.out | apply z9d | apply z9b | apply z9c) | exact HB.out)) hb); clear HO286; clear HO289; clear HB; have HO286 := n0_; have HO289 := n1_; have HO292 := n2_; have HB := n3_; clear n0_ n1_ n2_ n3_; clear hb ho15) | ((with_reducible refine gate_dst (N := 23) rfl ?_); (try (refine gate_guard (by rfl) ?_; dsimp only)); refine Kd.S_lit k39 _ 39 ?hg (N := 23) ?hd (xs := ([] : List (S39))) (inner := []) (ok := fun _ => True) (okp := fun _ => True) ?hr ?hp (fun _ hk => hk) trivial (Below.refl _ _) (Nat.le_refl _) (by simp) ?_; (case hd => rfl); (case hg => rfl); (case hr => first | (go_simp; done) | (go_simp; rfl)); (case hp => exact (Reps.none _ _)); intro v294 w16 ho17 hb hg_ hnew_; clear hg_ hnew_; (first | rw [← Ny293.out] at ho17 | (simp only [Int.reduceToNat] at ho17; rw [← Ny293.out] at ho17)); have n0_ := z9a (z9k (by (with_reducible repeat (first | apply z9h | apply z9i | apply z9j)); exact HO286.out) hb); have n1_ := z9a (z9k (by (with_reducible repeat (first | apply z9h | apply z9i | apply z9j)); exact HO289.out) hb); have n2_ := z9a (z9k (by (with_reducible repeat (first | apply z9h | apply z9i | apply z9j)); exact HO292.out) hb); have n3_ := z9a (Kd.S_lower (Kd.S_new' (Kd.S_new' (Kd.S_new' ho17 (Kd.R_lt (by (with_reducible repeat (first | apply z9h | apply z9i | apply z9j)); exact HO286.out))) (Kd.R_lt (by (with_reducible repeat (first | apply z9h | apply z9i | apply z9j)); exact HO289.out))) (Kd.R_lt (by (with_reducible repeat (first | apply z9h | apply z9i | apply z9j)); exact HO292.out))) (below_size (by repeat (first | (with_reducible first | exact HB.out | apply z9d | apply z9b | apply z9c) | exact HB.out)))); have n4_ := z9a (below_step (by repeat (first | (with_reducible first | exact HB.out | apply z9d | apply z9b | apply z9c) | exact HB.out)) hb); clear HO286; clear HO289; clear HO292; clear HB; have HO286 := n0_; have HO289 := n1_; have HO292 := n2_; have HO295 := n3_; have HB := n4_; clear n0_ n1_ n2_ n3_ n4_; clear hb ho17))
    go_loopg [6, 7, 8, 9, 10] kj2 (fun kq v6 v7 v8 v9 v10 w' => ∃ (x6_2 : List (S71)) (x7_2 : List (S71)) (x8_2 : List (S71)) (x9_2 : List (S39)) (x10_2 : Int), v10 = .int .i64 x10_2 ∧ Aside0 (y_a.l0 kq l0 a1 x6_2 x7_2 x8_2 x9_2 x10_2 = some (r1, r2)) ∧ Aside0 (kq ≤ kj2) ∧ Aside0 (Kd.R k71 71 w' w.heap.size (fun k_ => some k_ ≠ (v7 : Value).ownBlock ∧ some k_ ≠ (v8 : Value).ownBlock) v6 x6_2) ∧ Aside0 (Kd.R k71 71 w' w.heap.size (fun k_ => some k_ ≠ (v6 : Value).ownBlock ∧ some k_ ≠ (v8 : Value).ownBlock) v7 x7_2) ∧ Aside0 (Kd.R k71 71 w' w.heap.size (fun k_ => some k_ ≠ (v6 : Value).ownBlock ∧ some k_ ≠ (v7 : Value).ownBlock) v8 x8_2) ∧ Aside0 (Kd.S k39 39 w' w.heap.size (fun k_ => some k_ ≠ (v6 : Value).ownBlock ∧ some k_ ≠ (v7 : Value).ownBlock ∧ some k_ ≠ (v8 : Value).ownBlock) v9 x9_2) ∧ Aside0 (Below w.heap.size w w'))
    case atStart => exact ⟨(y284), (y287), (y290), (y293), (0), (by first | rfl | (simp; done) | (simp [*]; done)), H', ⟨Nat.le_refl _⟩, ⟨by (with_reducible repeat (first | apply z9h | apply z9i | apply z9j)); exact Kd.R_mono HO286.out (fun _ hk => ⟨hk.1.2, hk.2⟩)⟩, ⟨by (with_reducible repeat (first | apply z9h | apply z9i | apply z9j)); exact Kd.R_mono HO289.out (fun _ hk => ⟨hk.1.2, hk.2⟩)⟩, ⟨by (with_reducible repeat (first | apply z9h | apply z9i | apply z9j)); exact Kd.R_mono HO292.out (fun _ hk => ⟨hk.1.2, hk.2⟩)⟩, ⟨by (with_reducible repeat (first | apply z9l | apply z9m | apply z9n)); exact Kd.S_mono HO295.out (fun _ hk => ⟨hk.1.1.2, ⟨hk.1.2, hk.2⟩⟩)⟩, ⟨by repeat (first | (with_reducible first | exact HB.out | apply z9d | apply z9b | apply z9c) | exact HB.out)⟩⟩
    case round =>
     clear H'
     try clear c1
     try clear p2
     try clear c5
     try clear c9
     try clear c10
     try clear c17
     try clear p2
     obtain ⟨x6_2, x7_2, x8_2, x9_2, x10_2, rfl, HA, HK2, HO_6, HO_7, HO_8, HO_9, HB⟩ := hrel
     cases gk with
     | zero => exact absurd HA.out (by simp [y_a.l0])
     | succ k2 =>
      have H := HA.out
      clear HA
      simp only [y_a.l0] at H
      have HC18 := z9a H
      clear H
      go_upto_region 8 with (fail)
      go_cut [34] (fun v34 wc => ∃ (kq : Nat) (x34_17 : Bool), v34 = .bool x34_17 ∧ Aside0 (y_a.j2 kq l0 a1 x6_2 x7_2 x8_2 x9_2 x10_2 x34_17 = some (r1, r2)) ∧ Aside0 (kq ≤ k2) ∧ Aside0 (Kd.R k71 71 wc w.heap.size (fun k_ => some k_ ≠ (u7 : Value).ownBlock ∧ some k_ ≠ (u8 : Value).ownBlock) u6 x6_2) ∧ Aside0 (Kd.R k71 71 wc w.heap.size (fun k_ => some k_ ≠ (u6 : Value).ownBlock ∧ some k_ ≠ (u8 : Value).ownBlock) u7 x7_2) ∧ Aside0 (Kd.R k71 71 wc w.heap.size (fun k_ => some k_ ≠ (u6 : Value).ownBlock ∧ some k_ ≠ (u7 : Value).ownBlock) u8 x8_2) ∧ Aside0 (Kd.S k39 39 wc w.heap.size (fun k_ => some k_ ≠ (u6 : Value).ownBlock ∧ some k_ ≠ (u7 : Value).ownBlock ∧ some k_ ≠ (u8 : Value).ownBlock) u9 x9_2) ∧ Aside0 (Below w.heap.size w wc))
      case first =>
       have H := HC18.out
       clear HC18
       by_cases c19 : x10_2 < (l0.length : Int)
       ·rw [if_pos c19] at H
        have c19b0 : decide (x10_2 < (l0.length : Int)) = true := decide_eq_true c19
        clear c19
        (first | rw [c19b0] | (simp only [i64_w, i32_w]; rw [c19b0]) | skip)
        replace H := z9f.mp H
        obtain ⟨t296, A200, H⟩ := H
        have A20 := z9a A200
        clear A200
        replace H := z9f.mp H
        obtain ⟨t297, A210, H⟩ := H
        have A21 := z9a A210
        clear A210
        by_cases c22 : 0 ≤ x10_2
        ·rw [if_pos c22] at H
         have c22b0 : decide (0 ≤ x10_2) = true := decide_eq_true c22
         clear c22
         replace H := z9f.mp H
         obtain ⟨t299, A230, H⟩ := H
         have A23 := z9a A230
         clear A230
         have H' := z9a H
         clear H
         try go_wp2
         have n0_ := z9a (z9j HO_6.out)
         have n1_ := z9a (z9j HO_7.out)
         have n2_ := z9a (z9j HO_8.out)
         have n3_ := z9a (z9n HO_9.out)
         have n4_ := z9a (z9c HB.out)
         clear HO_6
         clear HO_7
         clear HO_8
         clear HO_9
         clear HB
         have HO_6 := n0_
         have HO_7 := n1_
         have HO_8 := n2_
         have HO_9 := n3_
         have HB := n4_
         clear n0_ n1_ n2_ n3_ n4_
         have p298 : 0 ≤ (x10_2 : Int) := z9g (by first | (with_reducible assumption) | assumption)
         have q298 : x10_2 < (l0.length : Int) := z9g (by first | (with_reducible assumption) | assumption)
         obtain ⟨ad298, e298, hx298_0, hx298_1, hx298_2⟩ := at_T71 HR0.out x10_2 p298 q298
         have hw298_2 := hx298_2
         have hw298_1 := hx298_1
         have hw298_0 := hx298_0
         cases e298
         replace hx298_0 := (HB.out.cell (z9e w _ hx298_0)).trans hx298_0
         replace hx298_1 := (HB.out.cell (z9e w _ hx298_1)).trans hx298_1
         replace hx298_2 := (HB.out.cell (z9e w _ hx298_2)).trans hx298_2
         replace p298 := eq_true p298
         replace q298 := eq_true q298
         obtain ⟨Ao25, co25, eo25⟩ := Kd.R_slice HO_6.out
         (first | subst eo25 | (injection eo25 with f1_ f2_ f3_; have f4_ := f1_.symm; have f5_ := f3_.symm; clear f1_ f2_ f3_; subst f4_; subst f5_))
         refine start_ (n := 20) (S := fun w' => w'.cell? (ad298.add ((x10_2).toNat * 3)) = some (.int .i64 ((rd_T71 l0 x10_2).f0)) ∧ w'.cell? ⟨(ad298.add ((x10_2).toNat * 3)).block, (ad298.add ((x10_2).toNat * 3)).off + 1, none⟩ = some (.int .i64 ((rd_T71 l0 x10_2).f1)) ∧ w'.cell? ⟨(ad298.add ((x10_2).toNat * 3)).block, (ad298.add ((x10_2).toNat * 3)).off + 2, none⟩ = some (.int .i64 ((rd_T71 l0 x10_2).f2))) (ds := []) #[zf9,zf9,zf9,zf9,zf9,zf9,zf9,zf9,zf9,zf9,zf9,zf9,zf9,zf9,zf9,zf9,zf9,zf9,zf9,zf9] (by kernel_rfl) rfl rfl ⟨((HB.out.cell (z9e w _ hw298_0)).trans hw298_0), ((HB.out.cell (z9e w _ hw298_1)).trans hw298_1), ((HB.out.cell (z9e w _ hw298_2)).trans hw298_2)⟩ (fun hHeld => ?_); refine with_tabW y_a.tab8 y_a.bits8 (fun HT_ HW_ => ?_)
         generalize wr.drew = w24 at HO_6 HO_7 HO_8 HO_9 HB hx298_0 hx298_1 hx298_2 hHeld ⊢
         refine pure_ (i := 0) (N := some 35) (v := ?_) (a' := ?_) #[zt9,zf9,zf9,zf9,zf9,zf9,zf9,zf9,zf9,zf9,zf9,zf9,zf9,zf9,zf9,zf9,zf9,zf9,zf9,zf9] rfl rfl (any_of HT_.out (by kernel_rfl)) (fun _ _ _ h => h) (Or.inl ⟨by rfl, ?_⟩) ?_ ?_
         rotate_left
         ·intro w'
          go_simp
          with_reducible rfl
         rotate_left
         ·simp only [Act.put, zp9a, zp9b, zp9c, i64_w, i32_w]
          rfl
         refine pure_ (i := 1) (N := some 36) (v := ?_) (a' := ?_) #[zt9,zt9,zf9,zf9,zf9,zf9,zf9,zf9,zf9,zf9,zf9,zf9,zf9,zf9,zf9,zf9,zf9,zf9,zf9,zf9] rfl rfl (any_of HT_.out (by kernel_rfl)) (fun _ _ _ h => h) (Or.inl ⟨by rfl, ?_⟩) ?_ ?_
         rotate_left
         ·intro w'
          go_simp
          with_reducible rfl
         rotate_left
         ·simp only [Act.put, zp9a, zp9b, zp9c, i64_w, i32_w]
          rfl
         refine pure_ (i := 2) (N := some 37) (v := ?_) (a' := ?_) #[zt9,zt9,zt9,zf9,zf9,zf9,zf9,zf9,zf9,zf9,zf9,zf9,zf9,zf9,zf9,zf9,zf9,zf9,zf9,zf9] rfl rfl (any_of HT_.out (by kernel_rfl)) (fun _ _ _ h => h) (Or.inl ⟨by rfl, ?_⟩) ?_ ?_
         rotate_left
         ·intro w'
          go_simp
          with_reducible rfl
         rotate_left
         ·simp only [Act.put, zp9a, zp9b, zp9c, i64_w, i32_w]
          rfl
         refine pure_ (i := 3) (N := some 38) (v := ?_) (a' := ?_) #[zt9,zt9,zt9,zt9,zf9,zf9,zf9,zf9,zf9,zf9,zf9,zf9,zf9,zf9,zf9,zf9,zf9,zf9,zf9,zf9] rfl rfl (any_of HT_.out (by kernel_rfl)) (fun _ _ _ h => h) (Or.inl ⟨by rfl, ?_⟩) ?_ ?_
         rotate_left
         ·intro w'
          go_simp
          with_reducible rfl
         rotate_left
         ·simp only [Act.put, zp9a, zp9b, zp9c, i64_w, i32_w]
          rfl
         refine pure_ (i := 4) (N := some 39) (v := ?_) (a' := ?_) #[zt9,zt9,zt9,zt9,zt9,zf9,zf9,zf9,zf9,zf9,zf9,zf9,zf9,zf9,zf9,zf9,zf9,zf9,zf9,zf9] rfl rfl (any_of HT_.out (by kernel_rfl)) (fun _ _ _ h => h) (Or.inl ⟨by rfl, ?_⟩) ?_ ?_
         rotate_left
         ·intro w'
          go_simp
          with_reducible rfl
         rotate_left
         ·simp only [Act.put, zp9a, zp9b, zp9c, i64_w, i32_w]
          rfl
         refine pure_ (i := 5) (N := some 40) (v := ?_) (a' := ?_) #[zt9,zt9,zt9,zt9,zt9,zt9,zf9,zf9,zf9,zf9,zf9,zf9,zf9,zf9,zf9,zf9,zf9,zf9,zf9,zf9] rfl rfl (any_of HT_.out (by kernel_rfl)) (fun _ _ _ h => h) (Or.inl ⟨by rfl, ?_⟩) ?_ ?_
         rotate_left
         ·intro w'
          go_simp
          with_reducible rfl
         rotate_left
         ·simp only [Act.put, zp9a, zp9b, zp9c, i64_w, i32_w]
          rfl
         refine pure_ (i := 7) (N := some 42) (v := ?_) (a' := ?_) #[zt9,zt9,zt9,zt9,zt9,zt9,zf9,zt9,zf9,zf9,zf9,zf9,zf9,zf9,zf9,zf9,zf9,zf9,zf9,zf9] rfl rfl (any_of HT_.out (by kernel_rfl)) (fun _ _ _ h => h) (Or.inl ⟨by rfl, ?_⟩) ?_ ?_
         rotate_left
         ·intro w'
          go_simp
          with_reducible rfl
         rotate_left
         ·simp only [Act.put, zp9a, zp9b, zp9c, i64_w, i32_w]
          rfl
         refine pure_ (i := 10) (N := some 45) (v := ?_) (a' := ?_) #[zt9,zt9,zt9,zt9,zt9,zt9,zf9,zt9,zf9,zf9,zt9,zf9,zf9,zf9,zf9,zf9,zf9,zf9,zf9,zf9] rfl rfl (any_of HT_.out (by kernel_rfl)) (fun _ _ _ h => h) (Or.inl ⟨by rfl, ?_⟩) ?_ ?_
         rotate_left
         ·intro w'
          go_simp
          with_reducible rfl
         rotate_left
         ·simp only [Act.put, zp9a, zp9b, zp9c, i64_w, i32_w]
          rfl
         refine pure_ (i := 11) (N := some 46) (v := ?_) (a' := ?_) #[zt9,zt9,zt9,zt9,zt9,zt9,zf9,zt9,zf9,zf9,zt9,zt9,zf9,zf9,zf9,zf9,zf9,zf9,zf9,zf9] rfl rfl (any_of HT_.out (by kernel_rfl)) (fun _ _ _ h => h) (Or.inl ⟨by rfl, ?_⟩) ?_ ?_
         rotate_left
         ·intro w'
          go_simp
          with_reducible rfl
         rotate_left
         ·simp only [Act.put, zp9a, zp9b, zp9c, i64_w, i32_w]
          rfl
         refine pure_ (i := 12) (N := some 47) (v := ?_) (a' := ?_) #[zt9,zt9,zt9,zt9,zt9,zt9,zf9,zt9,zf9,zf9,zt9,zt9,zt9,zf9,zf9,zf9,zf9,zf9,zf9,zf9] rfl rfl (any_of HT_.out (by kernel_rfl)) (fun _ _ _ h => h) (Or.inl ⟨by rfl, ?_⟩) ?_ ?_
         rotate_left
         ·intro w'
          go_simp
          with_reducible rfl
         rotate_left
         ·simp only [Act.put, zp9a, zp9b, zp9c, i64_w, i32_w]
          rfl
         refine pure_ (i := 16) (N := some 51) (v := ?_) (a' := ?_) #[zt9,zt9,zt9,zt9,zt9,zt9,zf9,zt9,zf9,zf9,zt9,zt9,zt9,zf9,zf9,zf9,zt9,zf9,zf9,zf9] rfl rfl (any_of HT_.out (by kernel_rfl)) (fun _ _ _ h => h) (Or.inl ⟨by rfl, ?_⟩) ?_ ?_
         rotate_left
         ·intro w'
          go_simp
          with_reducible rfl
         rotate_left
         ·simp only [Act.put, zp9a, zp9b, zp9c, i64_w, i32_w]
          rfl
         refine take_ (i := 13) (N := some 48) (v := ?_) (a' := ?_) #[zt9,zt9,zt9,zt9,zt9,zt9,zf9,zt9,zf9,zf9,zt9,zt9,zt9,zt9,zf9,zf9,zt9,zf9,zf9,zf9] rfl rfl (take_ofW HT_.out HW_.out (by kernel_rfl)) (fun _ _ _ h => h) (Or.inl ⟨by rfl, ?_⟩) hHeld ?_ ?_
         rotate_left
         ·rintro w' ⟨s0, s1, s2⟩
          go_simp
          with_reducible rfl
         rotate_left
         ·simp only [Act.put, zp9a, zp9b, zp9c, i64_w, i32_w]
          rfl
         refine one_ (i := 6) (N := some 41) #[zt9,zt9,zt9,zt9,zt9,zt9,zt9,zt9,zf9,zf9,zt9,zt9,zt9,zt9,zf9,zf9,zt9,zf9,zf9,zf9] rfl rfl (one_of HT_.out (by kernel_rfl)) (by decide) (fun K hK => ?_)
         refine goes_ Try.func109 (by kernel_rfl) rfl #[.slice Ao25 x6_2.length co25] (by rfl) rfl rfl (by (try simp only [zm9a, zm9b, zm9c]); first | done | rfl | (simp only [zm9d, zm9e]; rfl)) ?_
         with_reducible refine (y_i.calls k2 _ _ x6_2 t296 _ ?side1 ?side2 A20.out).mono ?_
         (case side1 => repeat (first | exact (Kd.R_reads' HO_6.out).2.2 | (with_reducible refine Kd.C_alloc ?_ _) | (with_reducible refine Kd.C_drewN ?_ _) | (with_reducible refine Kd.C_drew ?_)))
         (case side2 => exact (Kd.R_reads' HO_6.out).2.1)
         rintro e w26 ⟨rfl, hb⟩
         refine ⟨_, rfl, ?_⟩
         have n0_ := z9a (z9k (by (with_reducible repeat (first | apply z9h | apply z9i | apply z9j)); exact HO_6.out) hb)
         have n1_ := z9a (z9k (by (with_reducible repeat (first | apply z9h | apply z9i | apply z9j)); exact HO_7.out) hb)
         have n2_ := z9a (z9k (by (with_reducible repeat (first | apply z9h | apply z9i | apply z9j)); exact HO_8.out) hb)
         have n3_ := z9a (Kd.S_below (by (with_reducible repeat (first | apply z9l | apply z9m | apply z9n)); exact HO_9.out) hb)
         have n4_ := z9a (below_step (by repeat (first | (with_reducible first | exact HB.out | apply z9d | apply z9b | apply z9c) | exact HB.out)) hb)
         clear HO_6
         clear HO_7
         clear HO_8
         clear HO_9
         clear HB
         have HO_6 := n0_
         have HO_7 := n1_
         have HO_8 := n2_
         have HO_9 := n3_
         have HB := n4_
         clear n0_ n1_ n2_ n3_ n4_
         (try clear hb)
         (try clear hb2)
         (try clear hk)
         (try clear hi)
         obtain ⟨Ao27, co27, eo27⟩ := Kd.R_slice HO_7.out
         (first | subst eo27 | (injection eo27 with f1_ f2_ f3_; have f4_ := f1_.symm; have f5_ := f3_.symm; clear f1_ f2_ f3_; subst f4_; subst f5_))
         refine hK.out _ _ ⟨((HB.out.cell (z9e w _ hw298_0)).trans hw298_0), ((HB.out.cell (z9e w _ hw298_1)).trans hw298_1), ((HB.out.cell (z9e w _ hw298_2)).trans hw298_2)⟩ (fun hHeld => ?_)
         clear hK K
         refine norm_ (a' := ?_) ?_ ?_
         rotate_left
         ·show Act.put _ (some 41) _ = _
          simp only [Act.put, zp9a, zp9b, zp9c, i64_w, i32_w]
          rfl
         refine one_ (i := 8) (N := some 43) #[zt9,zt9,zt9,zt9,zt9,zt9,zt9,zt9,zt9,zf9,zt9,zt9,zt9,zt9,zf9,zf9,zt9,zf9,zf9,zf9] rfl rfl (one_of HT_.out (by kernel_rfl)) (by decide) (fun K hK => ?_)
         refine goes_ Try.func109 (by kernel_rfl) rfl #[.slice Ao27 x7_2.length co27] (by rfl) rfl rfl (by (try simp only [zm9a, zm9b, zm9c]); first | done | rfl | (simp only [zm9d, zm9e]; rfl)) ?_
         with_reducible refine (y_i.calls k2 _ _ x7_2 t297 _ ?side1 ?side2 A21.out).mono ?_
         (case side1 => repeat (first | exact (Kd.R_reads' HO_7.out).2.2 | (with_reducible refine Kd.C_alloc ?_ _) | (with_reducible refine Kd.C_drewN ?_ _) | (with_reducible refine Kd.C_drew ?_)))
         (case side2 => exact (Kd.R_reads' HO_7.out).2.1)
         rintro e w28 ⟨rfl, hb⟩
         refine ⟨_, rfl, ?_⟩
         have n0_ := z9a (z9k (by (with_reducible repeat (first | apply z9h | apply z9i | apply z9j)); exact HO_6.out) hb)
         have n1_ := z9a (z9k (by (with_reducible repeat (first | apply z9h | apply z9i | apply z9j)); exact HO_7.out) hb)
         have n2_ := z9a (z9k (by (with_reducible repeat (first | apply z9h | apply z9i | apply z9j)); exact HO_8.out) hb)
         have n3_ := z9a (Kd.S_below (by (with_reducible repeat (first | apply z9l | apply z9m | apply z9n)); exact HO_9.out) hb)
         have n4_ := z9a (below_step (by repeat (first | (with_reducible first | exact HB.out | apply z9d | apply z9b | apply z9c) | exact HB.out)) hb)
         clear HO_6
         clear HO_7
         clear HO_8
         clear HO_9
         clear HB
         have HO_6 := n0_
         have HO_7 := n1_
         have HO_8 := n2_
         have HO_9 := n3_
         have HB := n4_
         clear n0_ n1_ n2_ n3_ n4_
         (try clear hb)
         (try clear hb2)
         (try clear hk)
         (try clear hi)
         refine hK.out _ _ ⟨((HB.out.cell (z9e w _ hw298_0)).trans hw298_0), ((HB.out.cell (z9e w _ hw298_1)).trans hw298_1), ((HB.out.cell (z9e w _ hw298_2)).trans hw298_2)⟩ (fun hHeld => ?_)
         clear hK K
         refine norm_ (a' := ?_) ?_ ?_
         rotate_left
         ·show Act.put _ (some 43) _ = _
          simp only [Act.put, zp9a, zp9b, zp9c, i64_w, i32_w]
          rfl
         refine pure_ (i := 9) (N := some 44) (v := ?_) (a' := ?_) #[zt9,zt9,zt9,zt9,zt9,zt9,zt9,zt9,zt9,zt9,zt9,zt9,zt9,zt9,zf9,zf9,zt9,zf9,zf9,zf9] rfl rfl (any_of HT_.out (by kernel_rfl)) (fun _ _ _ h => h) (Or.inl ⟨by rfl, ?_⟩) ?_ ?_
         rotate_left
         ·intro w'
          go_simp
          with_reducible rfl
         rotate_left
         ·simp only [Act.put, zp9a, zp9b, zp9c, i64_w, i32_w]
          rfl
         refine one_ (i := 14) (N := some 49) #[zt9,zt9,zt9,zt9,zt9,zt9,zt9,zt9,zt9,zt9,zt9,zt9,zt9,zt9,zt9,zf9,zt9,zf9,zf9,zf9] rfl rfl (one_of HT_.out (by kernel_rfl)) (by decide) (fun K hK => ?_)
         refine goes_ Try.func110 (by kernel_rfl) rfl #[.agg #[.int .i64 ((rd_T71 l0 x10_2).f0), .int .i64 ((rd_T71 l0 x10_2).f1), .int .i64 ((rd_T71 l0 x10_2).f2)]] (by rfl) rfl rfl (by (try simp only [zm9a, zm9b, zm9c]); first | done | rfl | (simp only [zm9d, zm9e]; rfl)) ?_
         with_reducible refine (y_mb.calls ((rd_T71 l0 x10_2).f0) ((rd_T71 l0 x10_2).f1) ((rd_T71 l0 x10_2).f2) t299 _ A23.out).mono ?_
         rintro e w29 ⟨rfl, hb⟩
         refine ⟨_, rfl, ?_⟩
         have n0_ := z9a (z9k (by (with_reducible repeat (first | apply z9h | apply z9i | apply z9j)); exact HO_6.out) hb)
         have n1_ := z9a (z9k (by (with_reducible repeat (first | apply z9h | apply z9i | apply z9j)); exact HO_7.out) hb)
         have n2_ := z9a (z9k (by (with_reducible repeat (first | apply z9h | apply z9i | apply z9j)); exact HO_8.out) hb)
         have n3_ := z9a (Kd.S_below (by (with_reducible repeat (first | apply z9l | apply z9m | apply z9n)); exact HO_9.out) hb)
         have n4_ := z9a (below_step (by repeat (first | (with_reducible first | exact HB.out | apply z9d | apply z9b | apply z9c) | exact HB.out)) hb)
         clear HO_6
         clear HO_7
         clear HO_8
         clear HO_9
         clear HB
         have HO_6 := n0_
         have HO_7 := n1_
         have HO_8 := n2_
         have HO_9 := n3_
         have HB := n4_
         clear n0_ n1_ n2_ n3_ n4_
         (try clear hb)
         (try clear hb2)
         (try clear hk)
         (try clear hi)
         refine hK.out _ _ ⟨((HB.out.cell (z9e w _ hw298_0)).trans hw298_0), ((HB.out.cell (z9e w _ hw298_1)).trans hw298_1), ((HB.out.cell (z9e w _ hw298_2)).trans hw298_2)⟩ (fun hHeld => ?_)
         clear hK K
         refine norm_ (a' := ?_) ?_ ?_
         rotate_left
         ·show Act.put _ (some 49) _ = _
          simp only [Act.put, zp9a, zp9b, zp9c, i64_w, i32_w]
          rfl
         refine pure_ (i := 15) (N := some 50) (v := ?_) (a' := ?_) #[zt9,zt9,zt9,zt9,zt9,zt9,zt9,zt9,zt9,zt9,zt9,zt9,zt9,zt9,zt9,zt9,zt9,zf9,zf9,zf9] rfl rfl (any_of HT_.out (by kernel_rfl)) (fun _ _ _ h => h) (Or.inl ⟨by rfl, ?_⟩) ?_ ?_
         rotate_left
         ·intro w'
          go_simp
          with_reducible rfl
         rotate_left
         ·simp only [Act.put, zp9a, zp9b, zp9c, i64_w, i32_w]
          rfl
         refine pure_ (i := 17) (N := some 52) (v := ?_) (a' := ?_) #[zt9,zt9,zt9,zt9,zt9,zt9,zt9,zt9,zt9,zt9,zt9,zt9,zt9,zt9,zt9,zt9,zt9,zt9,zf9,zf9] rfl rfl (any_of HT_.out (by kernel_rfl)) (fun _ _ _ h => h) (Or.inl ⟨by rfl, ?_⟩) ?_ ?_
         rotate_left
         ·intro w'
          go_simp
          with_reducible rfl
         rotate_left
         ·simp only [Act.put, zp9a, zp9b, zp9c, i64_w, i32_w]
          rfl
         refine pure_ (i := 18) (N := some 53) (v := ?_) (a' := ?_) #[zt9,zt9,zt9,zt9,zt9,zt9,zt9,zt9,zt9,zt9,zt9,zt9,zt9,zt9,zt9,zt9,zt9,zt9,zt9,zf9] rfl rfl (any_of HT_.out (by kernel_rfl)) (fun _ _ _ h => h) (Or.inl ⟨by rfl, ?_⟩) ?_ ?_
         rotate_left
         ·intro w'
          go_simp
          with_reducible rfl
         rotate_left
         ·simp only [Act.put, zp9a, zp9b, zp9c, i64_w, i32_w]
          rfl
         refine pure_ (i := 19) (N := some 34) (v := ?_) (a' := ?_) #[zt9,zt9,zt9,zt9,zt9,zt9,zt9,zt9,zt9,zt9,zt9,zt9,zt9,zt9,zt9,zt9,zt9,zt9,zt9,zt9] rfl rfl (any_of HT_.out (by kernel_rfl)) (fun _ _ _ h => h) (Or.inl ⟨by rfl, ?_⟩) ?_ ?_
         rotate_left
         ·intro w'
          go_simp
          with_reducible rfl
         rotate_left
         ·simp only [Act.put, zp9a, zp9b, zp9c, i64_w, i32_w]
          rfl
         refine done_ (done_of HT_.out (by kernel_rfl)) ?_
         try go_wp2
         go_meet
         case rel => exact ⟨_, (decide ((wrap64 ((wrap64 (t296 + t297)) + t299)) ≤ a1)), (by first | rfl | (simp; done) | (simp [*]; done)), H', ⟨by have := HJ2.out; have := HK2.out; first | omega | exact Nat.le_refl _⟩, ⟨by (with_reducible repeat (first | apply z9h | apply z9i | apply z9j)); exact HO_6.out⟩, ⟨by (with_reducible repeat (first | apply z9h | apply z9i | apply z9j)); exact HO_7.out⟩, ⟨by (with_reducible repeat (first | apply z9h | apply z9i | apply z9j)); exact HO_8.out⟩, ⟨by (with_reducible repeat (first | apply z9l | apply z9m | apply z9n)); exact HO_9.out⟩, ⟨by repeat (first | (with_reducible first | exact HB.out | apply z9d | apply z9b | apply z9c) | exact HB.out)⟩⟩
        ·rw [if_neg c22] at H
         exact absurd H (by simp)
       ·rw [if_neg c19] at H
        have c19b0 : decide (x10_2 < (l0.length : Int)) = false := decide_eq_false c19
        clear c19
        (first | rw [c19b0] | (simp only [i64_w, i32_w]; rw [c19b0]) | skip)
        have H' := z9a H
        clear H
        try go_wp2
        have n0_ := z9a (z9j HO_6.out)
        have n1_ := z9a (z9j HO_7.out)
        have n2_ := z9a (z9j HO_8.out)
        have n3_ := z9a (z9n HO_9.out)
        have n4_ := z9a (z9c HB.out)
        clear HO_6
        clear HO_7
        clear HO_8
        clear HO_9
        clear HB
        have HO_6 := n0_
        have HO_7 := n1_
        have HO_8 := n2_
        have HO_9 := n3_
        have HB := n4_
        clear n0_ n1_ n2_ n3_ n4_
        refine start_ (n := 20) (S := fun w' => True) (ds := []) #[zf9,zf9,zf9,zf9,zf9,zf9,zf9,zf9,zf9,zf9,zf9,zf9,zf9,zf9,zf9,zf9,zf9,zf9,zf9,zf9] (by kernel_rfl) rfl rfl trivial (fun hHeld => ?_); refine with_tabW y_a.tab8 y_a.bits8 (fun HT_ HW_ => ?_)
        generalize wr.drew = w30 at HO_6 HO_7 HO_8 HO_9 HB hHeld ⊢
        refine pure_ (i := 0) (N := some 35) (v := ?_) (a' := ?_) #[zt9,zf9,zf9,zf9,zf9,zf9,zf9,zf9,zf9,zf9,zf9,zf9,zf9,zf9,zf9,zf9,zf9,zf9,zf9,zf9] rfl rfl (any_of HT_.out (by kernel_rfl)) (fun _ _ _ h => h) (Or.inl ⟨by rfl, ?_⟩) ?_ ?_
        rotate_left
        ·intro w'
         go_simp
         with_reducible rfl
        rotate_left
        ·simp only [Act.put, zp9a, zp9b, zp9c, i64_w, i32_w]
         rfl
        refine pure_ (i := 1) (N := some 36) (v := ?_) (a' := ?_) #[zt9,zt9,zf9,zf9,zf9,zf9,zf9,zf9,zf9,zf9,zf9,zf9,zf9,zf9,zf9,zf9,zf9,zf9,zf9,zf9] rfl rfl (any_of HT_.out (by kernel_rfl)) (fun _ _ _ h => h) (Or.inl ⟨by rfl, ?_⟩) ?_ ?_
        rotate_left
        ·intro w'
         go_simp
         with_reducible rfl
        rotate_left
        ·simp only [Act.put, zp9a, zp9b, zp9c, i64_w, i32_w]
         rfl
        refine pure_ (i := 2) (N := some 37) (v := ?_) (a' := ?_) #[zt9,zt9,zt9,zf9,zf9,zf9,zf9,zf9,zf9,zf9,zf9,zf9,zf9,zf9,zf9,zf9,zf9,zf9,zf9,zf9] rfl rfl (any_of HT_.out (by kernel_rfl)) (fun _ _ _ h => h) (Or.inl ⟨by rfl, ?_⟩) ?_ ?_
        rotate_left
        ·intro w'
         go_simp
         with_reducible rfl
        rotate_left
        ·simp only [Act.put, zp9a, zp9b, zp9c, i64_w, i32_w]
         rfl
        refine pure_ (i := 3) (N := some 38) (v := ?_) (a' := ?_) #[zt9,zt9,zt9,zt9,zf9,zf9,zf9,zf9,zf9,zf9,zf9,zf9,zf9,zf9,zf9,zf9,zf9,zf9,zf9,zf9] rfl rfl (any_of HT_.out (by kernel_rfl)) (fun _ _ _ h => h) (Or.inl ⟨by rfl, ?_⟩) ?_ ?_
        rotate_left
        ·intro w'
         go_simp
         with_reducible rfl
        rotate_left
        ·simp only [Act.put, zp9a, zp9b, zp9c, i64_w, i32_w]
         rfl
        refine pure_ (i := 4) (N := some 39) (v := ?_) (a' := ?_) #[zt9,zt9,zt9,zt9,zt9,zf9,zf9,zf9,zf9,zf9,zf9,zf9,zf9,zf9,zf9,zf9,zf9,zf9,zf9,zf9] rfl rfl (any_of HT_.out (by kernel_rfl)) (fun _ _ _ h => h) (Or.inl ⟨by rfl, ?_⟩) ?_ ?_
        rotate_left
        ·intro w'
         go_simp
         with_reducible rfl
        rotate_left
        ·simp only [Act.put, zp9a, zp9b, zp9c, i64_w, i32_w]
         rfl
        refine pure_ (i := 5) (N := some 40) (v := undef) (a' := ?_) #[zt9,zt9,zt9,zt9,zt9,zt9,zf9,zf9,zf9,zf9,zf9,zf9,zf9,zf9,zf9,zf9,zf9,zf9,zf9,zf9] rfl rfl (any_of HT_.out (by kernel_rfl)) (fun _ _ _ h => h) (Or.inr ⟨by rfl, rfl⟩) ?_ ?_
        rotate_left
        ·simp only [Act.put, zp9a, zp9b, zp9c, i64_w, i32_w]
         rfl
        refine pure_ (i := 6) (N := some 41) (v := undef) (a' := ?_) #[zt9,zt9,zt9,zt9,zt9,zt9,zt9,zf9,zf9,zf9,zf9,zf9,zf9,zf9,zf9,zf9,zf9,zf9,zf9,zf9] rfl rfl (any_of HT_.out (by kernel_rfl)) (fun _ _ _ h => h) (Or.inr ⟨by rfl, rfl⟩) ?_ ?_
        rotate_left
        ·simp only [Act.put, zp9a, zp9b, zp9c, i64_w, i32_w]
         rfl
        refine pure_ (i := 7) (N := some 42) (v := undef) (a' := ?_) #[zt9,zt9,zt9,zt9,zt9,zt9,zt9,zt9,zf9,zf9,zf9,zf9,zf9,zf9,zf9,zf9,zf9,zf9,zf9,zf9] rfl rfl (any_of HT_.out (by kernel_rfl)) (fun _ _ _ h => h) (Or.inr ⟨by rfl, rfl⟩) ?_ ?_
        rotate_left
        ·simp only [Act.put, zp9a, zp9b, zp9c, i64_w, i32_w]
         rfl
        refine pure_ (i := 8) (N := some 43) (v := undef) (a' := ?_) #[zt9,zt9,zt9,zt9,zt9,zt9,zt9,zt9,zt9,zf9,zf9,zf9,zf9,zf9,zf9,zf9,zf9,zf9,zf9,zf9] rfl rfl (any_of HT_.out (by kernel_rfl)) (fun _ _ _ h => h) (Or.inr ⟨by rfl, rfl⟩) ?_ ?_
        rotate_left
        ·simp only [Act.put, zp9a, zp9b, zp9c, i64_w, i32_w]
         rfl
        refine pure_ (i := 9) (N := some 44) (v := undef) (a' := ?_) #[zt9,zt9,zt9,zt9,zt9,zt9,zt9,zt9,zt9,zt9,zf9,zf9,zf9,zf9,zf9,zf9,zf9,zf9,zf9,zf9] rfl rfl (any_of HT_.out (by kernel_rfl)) (fun _ _ _ h => h) (Or.inr ⟨by rfl, rfl⟩) ?_ ?_
        rotate_left
        ·simp only [Act.put, zp9a, zp9b, zp9c, i64_w, i32_w]
         rfl
        refine pure_ (i := 10) (N := some 45) (v := undef) (a' := ?_) #[zt9,zt9,zt9,zt9,zt9,zt9,zt9,zt9,zt9,zt9,zt9,zf9,zf9,zf9,zf9,zf9,zf9,zf9,zf9,zf9] rfl rfl (any_of HT_.out (by kernel_rfl)) (fun _ _ _ h => h) (Or.inr ⟨by rfl, rfl⟩) ?_ ?_
        rotate_left
        ·simp only [Act.put, zp9a, zp9b, zp9c, i64_w, i32_w]
         rfl
        refine pure_ (i := 11) (N := some 46) (v := undef) (a' := ?_) #[zt9,zt9,zt9,zt9,zt9,zt9,zt9,zt9,zt9,zt9,zt9,zt9,zf9,zf9,zf9,zf9,zf9,zf9,zf9,zf9] rfl rfl (any_of HT_.out (by kernel_rfl)) (fun _ _ _ h => h) (Or.inr ⟨by rfl, rfl⟩) ?_ ?_
        rotate_left
        ·simp only [Act.put, zp9a, zp9b, zp9c, i64_w, i32_w]
         rfl
        refine pure_ (i := 12) (N := some 47) (v := undef) (a' := ?_) #[zt9,zt9,zt9,zt9,zt9,zt9,zt9,zt9,zt9,zt9,zt9,zt9,zt9,zf9,zf9,zf9,zf9,zf9,zf9,zf9] rfl rfl (any_of HT_.out (by kernel_rfl)) (fun _ _ _ h => h) (Or.inr ⟨by rfl, rfl⟩) ?_ ?_
        rotate_left
        ·simp only [Act.put, zp9a, zp9b, zp9c, i64_w, i32_w]
         rfl
        refine pure_ (i := 13) (N := some 48) (v := undef) (a' := ?_) #[zt9,zt9,zt9,zt9,zt9,zt9,zt9,zt9,zt9,zt9,zt9,zt9,zt9,zt9,zf9,zf9,zf9,zf9,zf9,zf9] rfl rfl (any_of HT_.out (by kernel_rfl)) (fun _ _ _ h => h) (Or.inr ⟨by rfl, rfl⟩) ?_ ?_
        rotate_left
        ·simp only [Act.put, zp9a, zp9b, zp9c, i64_w, i32_w]
         rfl
        refine pure_ (i := 14) (N := some 49) (v := undef) (a' := ?_) #[zt9,zt9,zt9,zt9,zt9,zt9,zt9,zt9,zt9,zt9,zt9,zt9,zt9,zt9,zt9,zf9,zf9,zf9,zf9,zf9] rfl rfl (any_of HT_.out (by kernel_rfl)) (fun _ _ _ h => h) (Or.inr ⟨by rfl, rfl⟩) ?_ ?_
        rotate_left
        ·simp only [Act.put, zp9a, zp9b, zp9c, i64_w, i32_w]
         rfl
        refine pure_ (i := 15) (N := some 50) (v := undef) (a' := ?_) #[zt9,zt9,zt9,zt9,zt9,zt9,zt9,zt9,zt9,zt9,zt9,zt9,zt9,zt9,zt9,zt9,zf9,zf9,zf9,zf9] rfl rfl (any_of HT_.out (by kernel_rfl)) (fun _ _ _ h => h) (Or.inr ⟨by rfl, rfl⟩) ?_ ?_
        rotate_left
        ·simp only [Act.put, zp9a, zp9b, zp9c, i64_w, i32_w]
         rfl
        refine pure_ (i := 16) (N := some 51) (v := undef) (a' := ?_) #[zt9,zt9,zt9,zt9,zt9,zt9,zt9,zt9,zt9,zt9,zt9,zt9,zt9,zt9,zt9,zt9,zt9,zf9,zf9,zf9] rfl rfl (any_of HT_.out (by kernel_rfl)) (fun _ _ _ h => h) (Or.inr ⟨by rfl, rfl⟩) ?_ ?_
        rotate_left
        ·simp only [Act.put, zp9a, zp9b, zp9c, i64_w, i32_w]
         rfl
        refine pure_ (i := 17) (N := some 52) (v := undef) (a' := ?_) #[zt9,zt9,zt9,zt9,zt9,zt9,zt9,zt9,zt9,zt9,zt9,zt9,zt9,zt9,zt9,zt9,zt9,zt9,zf9,zf9] rfl rfl (any_of HT_.out (by kernel_rfl)) (fun _ _ _ h => h) (Or.inr ⟨by rfl, rfl⟩) ?_ ?_
        rotate_left
        ·simp only [Act.put, zp9a, zp9b, zp9c, i64_w, i32_w]
         rfl
        refine pure_ (i := 18) (N := some 53) (v := ?_) (a' := ?_) #[zt9,zt9,zt9,zt9,zt9,zt9,zt9,zt9,zt9,zt9,zt9,zt9,zt9,zt9,zt9,zt9,zt9,zt9,zt9,zf9] rfl rfl (any_of HT_.out (by kernel_rfl)) (fun _ _ _ h => h) (Or.inl ⟨by rfl, ?_⟩) ?_ ?_
        rotate_left
        ·intro w'
         go_simp
         with_reducible rfl
        rotate_left
        ·simp only [Act.put, zp9a, zp9b, zp9c, i64_w, i32_w]
         rfl
        refine pure_ (i := 19) (N := some 34) (v := ?_) (a' := ?_) #[zt9,zt9,zt9,zt9,zt9,zt9,zt9,zt9,zt9,zt9,zt9,zt9,zt9,zt9,zt9,zt9,zt9,zt9,zt9,zt9] rfl rfl (any_of HT_.out (by kernel_rfl)) (fun _ _ _ h => h) (Or.inl ⟨by rfl, ?_⟩) ?_ ?_
        rotate_left
        ·intro w'
         go_simp
         with_reducible rfl
        rotate_left
        ·simp only [Act.put, zp9a, zp9b, zp9c, i64_w, i32_w]
         rfl
        refine done_ (done_of HT_.out (by kernel_rfl)) ?_
        try go_wp2
        go_meet
        case rel => exact ⟨_, (false), (by first | rfl | (simp; done) | (simp [*]; done)), H', ⟨by have := HJ2.out; have := HK2.out; first | omega | exact Nat.le_refl _⟩, ⟨by (with_reducible repeat (first | apply z9h | apply z9i | apply z9j)); exact HO_6.out⟩, ⟨by (with_reducible repeat (first | apply z9h | apply z9i | apply z9j)); exact HO_7.out⟩, ⟨by (with_reducible repeat (first | apply z9h | apply z9i | apply z9j)); exact HO_8.out⟩, ⟨by (with_reducible repeat (first | apply z9l | apply z9m | apply z9n)); exact HO_9.out⟩, ⟨by repeat (first | (with_reducible first | exact HB.out | apply z9d | apply z9b | apply z9c) | exact HB.out)⟩⟩
      case rest =>
       clear HC18
       try clear c1
       try clear c2
       try clear p2
       try clear q2
       try clear hx2
       try clear c5
       try clear p6
       try clear c9
       try clear c10
       try clear c11
       try clear c17
       try clear c19
       try clear c19b0
       try clear c22
       try clear c22b0
       try clear p29
       try clear q29
       try clear hx29
       try clear hx298_0
       try clear hx298_1
       try clear hx298_2
       try clear p2
       try clear p298
       try clear q298
       obtain ⟨kq, x34_17, rfl, HA, HJ17, HO_6, HO_7, HO_8, HO_9, HB⟩ := hcut
       cases kq with
       | zero => exact absurd HA.out (by simp [y_a.j2])
       | succ kj17 =>
        have H := HA.out
        clear HA
        simp only [y_a.j2] at H
        by_cases c31 : x34_17 = true
        ·subst c31
         rw [if_pos rfl] at H
         by_cases c32 : 0 ≤ x10_2
         ·rw [if_pos c32] at H
          have c32b0 : decide (0 ≤ x10_2) = true := decide_eq_true c32
          clear c32
          by_cases c33 : x10_2 < (l0.length : Int)
          ·rw [if_pos c33] at H
           have c33b0 : decide (x10_2 < (l0.length : Int)) = true := decide_eq_true c33
           clear c33
           replace H := z9f.mp H
           obtain ⟨t301, A340, H⟩ := H
           have A34 := z9a A340
           clear A340
           by_cases c35 : t301 = true
           ·subst c35
            rw [if_pos rfl] at H
            by_cases c36 : x7_2.length < 5864062014805
            ·rw [if_pos c36] at H
             have LMc36 := z9a c36
             clear c36
             obtain ⟨y303, hy303⟩ : ∃ y_ : List (S71), y_ = (x7_2 ++ [(⟨(rd_T71 l0 x10_2).f0, (rd_T71 l0 x10_2).f1, (rd_T71 l0 x10_2).f2⟩ : S71)]) := ⟨_, rfl⟩
             replace H : (y_a.l0 kj17 l0 a1 x6_2 y303 x8_2 x9_2 (wrap64 (x10_2 + 1))) = some (r1, r2) := by first | (rw [hy303]; with_reducible exact H) | (have H2_ := (Option.bind_some _ _).symm.trans H; rw [hy303]; with_reducible exact H2_) | (have H2_ := (Option.bind_some _ _).symm.trans H; with_reducible exact H2_) | with_reducible exact H | (rw [hy303]; exact H) | exact H
             have Ny303 := z9a hy303
             clear hy303
             have H' := z9a H
             clear H
             have p300 : 0 ≤ (x10_2 : Int) := z9g (by first | (with_reducible assumption) | assumption)
             have q300 : x10_2 < (l0.length : Int) := z9g (by first | (with_reducible assumption) | assumption)
             obtain ⟨ad300, e300, hx300_0, hx300_1, hx300_2⟩ := at_T71 HR0.out x10_2 p300 q300
             cases e300
             replace hx300_0 := (HB.out.cell (z9e w _ hx300_0)).trans hx300_0
             replace hx300_1 := (HB.out.cell (z9e w _ hx300_1)).trans hx300_1
             replace hx300_2 := (HB.out.cell (z9e w _ hx300_2)).trans hx300_2
             replace p300 := eq_true p300
             replace q300 := eq_true q300
             obtain ⟨Ao37, co37, eo37⟩ := Kd.R_slice HO_8.out
             subst eo37
             go_wp2_with (first | ((with_reducible refine gate_callee (f := 111) rfl ?_); refine goesL_ (some 59) rfl rfl Try.func111 (by kernel_rfl) rfl #[.agg #[.int .i64 ((rd_T71 l0 x10_2).f0), .int .i64 ((rd_T71 l0 x10_2).f1), .int .i64 ((rd_T71 l0 x10_2).f2)], .slice Ao37 x8_2.length co37] rfl (by (try simp only [zm9a, zm9b, zm9c]); first | done | rfl | (simp only [zm9d, zm9e]; rfl)) ?_; (with_reducible refine (y_fb.calls ((rd_T71 l0 x10_2).f0) ((rd_T71 l0 x10_2).f1) ((rd_T71 l0 x10_2).f2) _ _ x8_2 true _ ?side1 ?side2 A34.out).mono ?_); (case side1 => repeat (first | exact (Kd.R_reads' HO_8.out).2.2 | (with_reducible refine Kd.C_alloc ?_ _) | (with_reducible refine Kd.C_drewN ?_ _) | (with_reducible refine Kd.C_drew ?_))); (case side2 => exact (Kd.R_reads' HO_8.out).2.1); rintro e w38 ⟨rfl, hb⟩; refine ⟨_, rfl, ?_⟩; have n0_ := z9a (z9k (by (with_reducible repeat (first | apply z9h | apply z9i | apply z9j)); exact HO_6.out) hb); have n1_ := z9a (z9k (by (with_reducible repeat (first | apply z9h | apply z9i | apply z9j)); exact HO_7.out) hb); have n2_ := z9a (z9k (by (with_reducible repeat (first | apply z9h | apply z9i | apply z9j)); exact HO_8.out) hb); have n3_ := z9a (Kd.S_below (by (with_reducible repeat (first | apply z9l | apply z9m | apply z9n)); exact HO_9.out) hb); have n4_ := z9a (below_step (by repeat (first | (with_reducible first | exact HB.out | apply z9d | apply z9b | apply z9c) | exact HB.out)) hb); clear HO_6; clear HO_7; clear HO_8; clear HO_9; clear HB; have HO_6 := n0_; have HO_7 := n1_; have HO_8 := n2_; have HO_9 := n3_; have HB := n4_; clear n0_ n1_ n2_ n3_ n4_; (try clear hb); (try clear hb2); (try clear hk); (try clear hi); have p302 : 0 ≤ (x10_2 : Int) := z9g (by first | (with_reducible assumption) | assumption); have q302 : x10_2 < (l0.length : Int) := z9g (by first | (with_reducible assumption) | assumption); obtain ⟨ad302, e302, hx302_0, hx302_1, hx302_2⟩ := at_T71 HR0.out x10_2 p302 q302; obtain rfl : ad300 = ad302 := (by injection e302); replace hx302_0 := (HB.out.cell (z9e w _ hx302_0)).trans hx302_0; replace hx302_1 := (HB.out.cell (z9e w _ hx302_1)).trans hx302_1; replace hx302_2 := (HB.out.cell (z9e w _ hx302_2)).trans hx302_2; replace p302 := eq_true p302; replace q302 := eq_true q302) | ((with_reducible refine gate_builtin (b := .append) (xs := #[.tmp 60, .tmp 65]) rfl ?_); (try (refine gate_guard (by rfl) ?_; dsimp only)); at_builtin; refine Kd.R_append k71 (w0 := w) w.heap.size rfl (.tmp 60) (.tmp 65) 24 71 (.agg #[(.int .i64 0), (.int .i64 0), (.int .i64 0)]) 24 rfl Try.underlying24 info71 rfl (by decide) (by omega) u7 x7_2 (⟨(rd_T71 l0 x10_2).f0, (rd_T71 l0 x10_2).f1, (rd_T71 l0 x10_2).f2⟩ : S71) [.int .i64 ((rd_T71 l0 x10_2).f0), .int .i64 ((rd_T71 l0 x10_2).f1), .int .i64 ((rd_T71 l0 x10_2).f2)] (fun k_ => some k_ ≠ (u6 : Value).ownBlock ∧ some k_ ≠ (.slice Ao37 x8_2.length co37 : Value).ownBlock) (fun _ => False) rfl rfl ?aP (fun _ hk => hk.elim) ?aF ?aO ?aB ?aS ?aL ?_; (case aP => exact k71_mkM _ _ _ (⟨(rd_T71 l0 x10_2).f0, (rd_T71 l0 x10_2).f1, (rd_T71 l0 x10_2).f2⟩ : S71)); (case aB => exact (by repeat (first | (with_reducible first | exact HB.out | apply z9d | apply z9b | apply z9c) | exact HB.out))); (case aF => exact (fun k_ hk => ⟨Kd.fresh' (Kd.R_lt (by (with_reducible repeat (first | apply z9h | apply z9i | apply z9j)); exact HO_6.out)) k_ hk, Kd.fresh' (Kd.R_lt (by (with_reducible repeat (first | apply z9h | apply z9i | apply z9j)); exact HO_8.out)) k_ hk⟩)); (case aO => exact (by (with_reducible repeat (first | apply z9h | apply z9i | apply z9j)); exact HO_7.out)); (case aS => exact (below_size (by repeat (first | (with_reducible first | exact HB.out | apply z9d | apply z9b | apply z9c) | exact HB.out)))); (case aL => have := LMc36.out; omega); intro v304 w39 ho hb hg hat; rw [← Ny303.out] at ho; have n0_ := z9a (Kd.R_after (ok := (fun k_ => some k_ ≠ (.slice Ao37 x8_2.length co37 : Value).ownBlock)) (by (with_reducible repeat (first | apply z9h | apply z9i | apply z9j)); exact Kd.R_mono HO_6.out (fun _ hk => ⟨hk.2, hk.1⟩)) hg hat); have n1_ := z9a (Kd.R_after (ok := (fun k_ => some k_ ≠ (u6 : Value).ownBlock)) (by (with_reducible repeat (first | apply z9h | apply z9i | apply z9j)); exact HO_8.out) hg hat); have n2_ := z9a (Kd.S_after (ok := (fun k_ => some k_ ≠ (u6 : Value).ownBlock ∧ some k_ ≠ (.slice Ao37 x8_2.length co37 : Value).ownBlock)) (by (with_reducible repeat (first | apply z9l | apply z9m | apply z9n)); exact Kd.S_mono HO_9.out (fun _ hk => ⟨⟨hk.1, hk.2.2⟩, hk.2.1⟩)) hg hat); have n3_ := z9a (hb); have n4_ := z9a (ho); clear HO_6; clear HO_8; clear HO_9; clear HB; clear HO_7; have HO_6 := n0_; have HO_8 := n1_; have HO_9 := n2_; have HB := n3_; have HO305 := n4_; clear n0_ n1_ n2_ n3_ n4_; clear ho hb hg hat))
             go_roundg kj17
             case measure => have := HJ2.out; have := HK2.out; have := HJ17.out; omega
             case rel => exact ⟨(x6_2), (y303), (x8_2), (x9_2), (wrap64 (x10_2 + 1)), (by first | rfl | (simp; done) | (simp [*]; done)), H', ⟨by have := HJ2.out; have := HK2.out; have := HJ17.out; omega⟩, ⟨by (with_reducible repeat (first | apply z9h | apply z9i | apply z9j)); exact Kd.R_mono HO_6.out (fun _ hk => ⟨hk.2, hk.1⟩)⟩, ⟨by (with_reducible repeat (first | apply z9h | apply z9i | apply z9j)); exact HO305.out⟩, ⟨by (with_reducible repeat (first | apply z9h | apply z9i | apply z9j)); exact HO_8.out⟩, ⟨by (with_reducible repeat (first | apply z9l | apply z9m | apply z9n)); exact Kd.S_mono HO_9.out (fun _ hk => ⟨hk.1.1, ⟨hk.2, hk.1.2⟩⟩)⟩, ⟨by repeat (first | (with_reducible first | exact HB.out | apply z9d | apply z9b | apply z9c) | exact HB.out)⟩⟩
            ·rw [if_neg c36] at H
             exact absurd H (by simp)
           ·replace c35 := Bool.eq_false_iff.mpr c35
            subst c35
            have H1 : (if x6_2.length < 5864062014805 then (y_a.l0 kj17 l0 a1 (x6_2 ++ [(⟨(rd_T71 l0 x10_2).f0, (rd_T71 l0 x10_2).f1, (rd_T71 l0 x10_2).f2⟩ : S71)]) x7_2 x8_2 x9_2 (wrap64 (x10_2 + 1))) else (none)) = some (r1, r2) := by rw [if_neg (show ¬ (false = true) by decide)] at H; exact H
            clear H
            have H := H1
            clear H1
            by_cases c40 : x6_2.length < 5864062014805
            ·rw [if_pos c40] at H
             have LMc40 := z9a c40
             clear c40
             obtain ⟨y307, hy307⟩ : ∃ y_ : List (S71), y_ = (x6_2 ++ [(⟨(rd_T71 l0 x10_2).f0, (rd_T71 l0 x10_2).f1, (rd_T71 l0 x10_2).f2⟩ : S71)]) := ⟨_, rfl⟩
             replace H : (y_a.l0 kj17 l0 a1 y307 x7_2 x8_2 x9_2 (wrap64 (x10_2 + 1))) = some (r1, r2) := by first | (rw [hy307]; with_reducible exact H) | (have H2_ := (Option.bind_some _ _).symm.trans H; rw [hy307]; with_reducible exact H2_) | (have H2_ := (Option.bind_some _ _).symm.trans H; with_reducible exact H2_) | with_reducible exact H | (rw [hy307]; exact H) | exact H
             have Ny307 := z9a hy307
             clear hy307
             have H' := z9a H
             clear H
             have p300 : 0 ≤ (x10_2 : Int) := z9g (by first | (with_reducible assumption) | assumption)
             have q300 : x10_2 < (l0.length : Int) := z9g (by first | (with_reducible assumption) | assumption)
             obtain ⟨ad300, e300, hx300_0, hx300_1, hx300_2⟩ := at_T71 HR0.out x10_2 p300 q300
             cases e300
             replace hx300_0 := (HB.out.cell (z9e w _ hx300_0)).trans hx300_0
             replace hx300_1 := (HB.out.cell (z9e w _ hx300_1)).trans hx300_1
             replace hx300_2 := (HB.out.cell (z9e w _ hx300_2)).trans hx300_2
             replace p300 := eq_true p300
             replace q300 := eq_true q300
             obtain ⟨Ao41, co41, eo41⟩ := Kd.R_slice HO_8.out
             subst eo41
             go_wp2_with (first | ((with_reducible refine gate_callee (f := 111) rfl ?_); refine goesL_ (some 59) rfl rfl Try.func111 (by kernel_rfl) rfl #[.agg #[.int .i64 ((rd_T71 l0 x10_2).f0), .int .i64 ((rd_T71 l0 x10_2).f1), .int .i64 ((rd_T71 l0 x10_2).f2)], .slice Ao41 x8_2.length co41] rfl (by (try simp only [zm9a, zm9b, zm9c]); first | done | rfl | (simp only [zm9d, zm9e]; rfl)) ?_; (with_reducible refine (y_fb.calls ((rd_T71 l0 x10_2).f0) ((rd_T71 l0 x10_2).f1) ((rd_T71 l0 x10_2).f2) _ _ x8_2 false _ ?side1 ?side2 A34.out).mono ?_); (case side1 => repeat (first | exact (Kd.R_reads' HO_8.out).2.2 | (with_reducible refine Kd.C_alloc ?_ _) | (with_reducible refine Kd.C_drewN ?_ _) | (with_reducible refine Kd.C_drew ?_))); (case side2 => exact (Kd.R_reads' HO_8.out).2.1); rintro e w42 ⟨rfl, hb⟩; refine ⟨_, rfl, ?_⟩; have n0_ := z9a (z9k (by (with_reducible repeat (first | apply z9h | apply z9i | apply z9j)); exact HO_6.out) hb); have n1_ := z9a (z9k (by (with_reducible repeat (first | apply z9h | apply z9i | apply z9j)); exact HO_7.out) hb); have n2_ := z9a (z9k (by (with_reducible repeat (first | apply z9h | apply z9i | apply z9j)); exact HO_8.out) hb); have n3_ := z9a (Kd.S_below (by (with_reducible repeat (first | apply z9l | apply z9m | apply z9n)); exact HO_9.out) hb); have n4_ := z9a (below_step (by repeat (first | (with_reducible first | exact HB.out | apply z9d | apply z9b | apply z9c) | exact HB.out)) hb); clear HO_6; clear HO_7; clear HO_8; clear HO_9; clear HB; have HO_6 := n0_; have HO_7 := n1_; have HO_8 := n2_; have HO_9 := n3_; have HB := n4_; clear n0_ n1_ n2_ n3_ n4_; (try clear hb); (try clear hb2); (try clear hk); (try clear hi); have p306 : 0 ≤ (x10_2 : Int) := z9g (by first | (with_reducible assumption) | assumption); have q306 : x10_2 < (l0.length : Int) := z9g (by first | (with_reducible assumption) | assumption); obtain ⟨ad306, e306, hx306_0, hx306_1, hx306_2⟩ := at_T71 HR0.out x10_2 p306 q306; obtain rfl : ad300 = ad306 := (by injection e306); replace hx306_0 := (HB.out.cell (z9e w _ hx306_0)).trans hx306_0; replace hx306_1 := (HB.out.cell (z9e w _ hx306_1)).trans hx306_1; replace hx306_2 := (HB.out.cell (z9e w _ hx306_2)).trans hx306_2; replace p306 := eq_true p306; replace q306 := eq_true q306) | ((with_reducible refine gate_builtin (b := .append) (xs := #[.tmp 67, .tmp 72]) rfl ?_); (try (refine gate_guard (by rfl) ?_; dsimp only)); at_builtin; refine Kd.R_append k71 (w0 := w) w.heap.size rfl (.tmp 67) (.tmp 72) 24 71 (.agg #[(.int .i64 0), (.int .i64 0), (.int .i64 0)]) 24 rfl Try.underlying24 info71 rfl (by decide) (by omega) u6 x6_2 (⟨(rd_T71 l0 x10_2).f0, (rd_T71 l0 x10_2).f1, (rd_T71 l0 x10_2).f2⟩ : S71) [.int .i64 ((rd_T71 l0 x10_2).f0), .int .i64 ((rd_T71 l0 x10_2).f1), .int .i64 ((rd_T71 l0 x10_2).f2)] (fun k_ => some k_ ≠ (u7 : Value).ownBlock ∧ some k_ ≠ (.slice Ao41 x8_2.length co41 : Value).ownBlock) (fun _ => False) rfl rfl ?aP (fun _ hk => hk.elim) ?aF ?aO ?aB ?aS ?aL ?_; (case aP => exact k71_mkM _ _ _ (⟨(rd_T71 l0 x10_2).f0, (rd_T71 l0 x10_2).f1, (rd_T71 l0 x10_2).f2⟩ : S71)); (case aB => exact (by repeat (first | (with_reducible first | exact HB.out | apply z9d | apply z9b | apply z9c) | exact HB.out))); (case aF => exact (fun k_ hk => ⟨Kd.fresh' (Kd.R_lt (by (with_reducible repeat (first | apply z9h | apply z9i | apply z9j)); exact HO_7.out)) k_ hk, Kd.fresh' (Kd.R_lt (by (with_reducible repeat (first | apply z9h | apply z9i | apply z9j)); exact HO_8.out)) k_ hk⟩)); (case aO => exact (by (with_reducible repeat (first | apply z9h | apply z9i | apply z9j)); exact HO_6.out)); (case aS => exact (below_size (by repeat (first | (with_reducible first | exact HB.out | apply z9d | apply z9b | apply z9c) | exact HB.out)))); (case aL => have := LMc40.out; omega); intro v308 w43 ho hb hg hat; rw [← Ny307.out] at ho; have n0_ := z9a (Kd.R_after (ok := (fun k_ => some k_ ≠ (.slice Ao41 x8_2.length co41 : Value).ownBlock)) (by (with_reducible repeat (first | apply z9h | apply z9i | apply z9j)); exact Kd.R_mono HO_7.out (fun _ hk => ⟨hk.2, hk.1⟩)) hg hat); have n1_ := z9a (Kd.R_after (ok := (fun k_ => some k_ ≠ (u7 : Value).ownBlock)) (by (with_reducible repeat (first | apply z9h | apply z9i | apply z9j)); exact Kd.R_mono HO_8.out (fun _ hk => ⟨hk.2, hk.1⟩)) hg hat); have n2_ := z9a (Kd.S_after (ok := (fun k_ => some k_ ≠ (u7 : Value).ownBlock ∧ some k_ ≠ (.slice Ao41 x8_2.length co41 : Value).ownBlock)) (by (with_reducible repeat (first | apply z9l | apply z9m | apply z9n)); exact Kd.S_mono HO_9.out (fun _ hk => ⟨⟨hk.2.1, hk.2.2⟩, hk.1⟩)) hg hat); have n3_ := z9a (hb); have n4_ := z9a (ho); clear HO_7; clear HO_8; clear HO_9; clear HB; clear HO_6; have HO_7 := n0_; have HO_8 := n1_; have HO_9 := n2_; have HB := n3_; have HO309 := n4_; clear n0_ n1_ n2_ n3_ n4_; clear ho hb hg hat))
             go_roundg kj17
             case measure => have := HJ2.out; have := HK2.out; have := HJ17.out; omega
             case rel => exact ⟨(y307), (x7_2), (x8_2), (x9_2), (wrap64 (x10_2 + 1)), (by first | rfl | (simp; done) | (simp [*]; done)), H', ⟨by have := HJ2.out; have := HK2.out; have := HJ17.out; omega⟩, ⟨by (with_reducible repeat (first | apply z9h | apply z9i | apply z9j)); exact HO309.out⟩, ⟨by (with_reducible repeat (first | apply z9h | apply z9i | apply z9j)); exact Kd.R_mono HO_7.out (fun _ hk => ⟨hk.2, hk.1⟩)⟩, ⟨by (with_reducible repeat (first | apply z9h | apply z9i | apply z9j)); exact Kd.R_mono HO_8.out (fun _ hk => ⟨hk.2, hk.1⟩)⟩, ⟨by (with_reducible repeat (first | apply z9l | apply z9m | apply z9n)); exact Kd.S_mono HO_9.out (fun _ hk => ⟨hk.2, ⟨hk.1.1, hk.1.2⟩⟩)⟩, ⟨by repeat (first | (with_reducible first | exact HB.out | apply z9d | apply z9b | apply z9c) | exact HB.out)⟩⟩
            ·rw [if_neg c40] at H
             exact absurd H (by simp)
          ·rw [if_neg c33] at H
           exact absurd H (by simp)
         ·rw [if_neg c32] at H
          exact absurd H (by simp)
        ·replace c31 := Bool.eq_false_iff.mpr c31
         subst c31
         have H1 : (if (x6_2.length : Int) = 0 then (y_a.j3 kj17 l0 a1 x6_2 x7_2 x8_2 x9_2 x10_2 (decide ((x7_2.length : Int) > 0))) else (y_a.j3 kj17 l0 a1 x6_2 x7_2 x8_2 x9_2 x10_2 false)) = some (r1, r2) := by rw [if_neg (show ¬ (false = true) by decide)] at H; exact H
         clear H
         have H := H1
         clear H1
         have HC44 := z9a H
         clear H
         go_upto_region 13 with (fail)
         go_cut [76] (fun v76 wc => ∃ (kq : Nat) (x76_43 : Bool), v76 = .bool x76_43 ∧ Aside0 (y_a.j3 kq l0 a1 x6_2 x7_2 x8_2 x9_2 x10_2 x76_43 = some (r1, r2)) ∧ Aside0 (kq ≤ kj17) ∧ Aside0 (Kd.R k71 71 wc w.heap.size (fun k_ => some k_ ≠ (u7 : Value).ownBlock ∧ some k_ ≠ (u8 : Value).ownBlock) u6 x6_2) ∧ Aside0 (Kd.R k71 71 wc w.heap.size (fun k_ => some k_ ≠ (u6 : Value).ownBlock ∧ some k_ ≠ (u8 : Value).ownBlock) u7 x7_2) ∧ Aside0 (Kd.R k71 71 wc w.heap.size (fun k_ => some k_ ≠ (u6 : Value).ownBlock ∧ some k_ ≠ (u7 : Value).ownBlock) u8 x8_2) ∧ Aside0 (Kd.S k39 39 wc w.heap.size (fun k_ => some k_ ≠ (u6 : Value).ownBlock ∧ some k_ ≠ (u7 : Value).ownBlock ∧ some k_ ≠ (u8 : Value).ownBlock) u9 x9_2) ∧ Aside0 (Below w.heap.size w wc))
         case first =>
          have H := HC44.out
          clear HC44
          by_cases c45 : (x6_2.length : Int) = 0
          ·rw [if_pos c45] at H
           have c45b0 : ((x6_2.length : Int) == 0) = true := beq_iff_eq.mpr c45
           have c45b1 : ((x6_2.length : Int) != 0) = false := bne_eq_false_iff_eq.mpr c45
           clear c45
           (first | rw [c45b0] | (simp only [i64_w, i32_w]; rw [c45b0]) | skip)
           have H' := z9a H
           clear H
           obtain ⟨Ao46, co46, eo46⟩ := Kd.R_slice HO_6.out
           subst eo46
           obtain ⟨Ao47, co47, eo47⟩ := Kd.R_slice HO_7.out
           subst eo47
           go_wp2
           go_meet
           case rel => exact ⟨_, (decide ((x7_2.length : Int) > 0)), (by first | rfl | (simp; done) | (simp [*]; done)), H', ⟨by have := HJ2.out; have := HK2.out; have := HJ17.out; first | omega | exact Nat.le_refl _⟩, ⟨by (with_reducible repeat (first | apply z9h | apply z9i | apply z9j)); exact HO_6.out⟩, ⟨by (with_reducible repeat (first | apply z9h | apply z9i | apply z9j)); exact HO_7.out⟩, ⟨by (with_reducible repeat (first | apply z9h | apply z9i | apply z9j)); exact HO_8.out⟩, ⟨by (with_reducible repeat (first | apply z9l | apply z9m | apply z9n)); exact HO_9.out⟩, ⟨by repeat (first | (with_reducible first | exact HB.out | apply z9d | apply z9b | apply z9c) | exact HB.out)⟩⟩
          ·rw [if_neg c45] at H
           have c45b0 : ((x6_2.length : Int) == 0) = false := beq_eq_false_iff_ne.mpr c45
           have c45b1 : ((x6_2.length : Int) != 0) = true := bne_iff_ne.mpr c45
           have c45b2 : ¬ (x6_2 = []) := fun h_ => c45 (by rw [h_]; rfl)
           (first | rw [c45b0] | (simp only [i64_w, i32_w]; rw [c45b0]) | skip)
           have H' := z9a H
           clear H
           obtain ⟨Ao48, co48, eo48⟩ := Kd.R_slice HO_6.out
           subst eo48
           go_wp2
           go_meet
           case rel => exact ⟨_, (false), (by first | rfl | (simp; done) | (simp [*]; done)), H', ⟨by have := HJ2.out; have := HK2.out; have := HJ17.out; first | omega | exact Nat.le_refl _⟩, ⟨by (with_reducible repeat (first | apply z9h | apply z9i | apply z9j)); exact HO_6.out⟩, ⟨by (with_reducible repeat (first | apply z9h | apply z9i | apply z9j)); exact HO_7.out⟩, ⟨by (with_reducible repeat (first | apply z9h | apply z9i | apply z9j)); exact HO_8.out⟩, ⟨by (with_reducible repeat (first | apply z9l | apply z9m | apply z9n)); exact HO_9.out⟩, ⟨by repeat (first | (with_reducible first | exact HB.out | apply z9d | apply z9b | apply z9c) | exact HB.out)⟩⟩
         case rest =>
          clear HC44
          try clear c1
          try clear c2
          try clear p2
          try clear q2
          try clear hx2
          try clear c3
          try clear p3
          try clear q3
          try clear hx3
          try clear c4
          try clear c5
          try clear p6
          try clear c9
          try clear c10
          try clear c11
          try clear c17
          try clear c19
          try clear c19b0
          try clear c22
          try clear c22b0
          try clear p29
          try clear q29
          try clear hx29
          try clear p30
          try clear q30
          try clear hx30
          try clear c31
          try clear c32
          try clear c32b0
          try clear c33
          try clear c33b0
          try clear c35
          try clear c36
          try clear c40
          try clear c45
          try clear c45b0
          try clear c45b1
          try clear c45b2
          try clear hx298_0
          try clear hx298_1
          try clear hx298_2
          try clear hx300_0
          try clear hx300_1
          try clear hx300_2
          try clear hx302_0
          try clear hx302_1
          try clear hx302_2
          try clear hx306_0
          try clear hx306_1
          try clear hx306_2
          try clear p2
          try clear p29
          try clear p298
          try clear p300
          try clear p302
          try clear p306
          try clear p6
          try clear q2
          try clear q29
          try clear q298
          try clear q300
          try clear q302
          try clear q306
          obtain ⟨kq, x76_43, rfl, HA, HJ43, HO_6, HO_7, HO_8, HO_9, HB⟩ := hcut
          cases kq with
          | zero => exact absurd HA.out (by simp [y_a.j3])
          | succ kj43 =>
           have H := HA.out
           clear HA
           simp only [y_a.j3] at H
           by_cases c49 : x76_43 = true
           ·subst c49
            rw [if_pos rfl] at H
            by_cases c50 : x9_2.length < 5864062014805
            ·rw [if_pos c50] at H
             have LMc50 := z9a c50
             clear c50
             obtain ⟨y310, hy310⟩ : ∃ y_ : List (S39), y_ = (x9_2 ++ [(⟨x8_2⟩ : S39)]) := ⟨_, rfl⟩
             replace H : (y_a.l0 kj43 l0 a1 x7_2 ([] : List (S71)) ([] : List (S71)) y310 x10_2) = some (r1, r2) := by first | (rw [hy310]; with_reducible exact H) | (have H2_ := (Option.bind_some _ _).symm.trans H; rw [hy310]; with_reducible exact H2_) | (have H2_ := (Option.bind_some _ _).symm.trans H; with_reducible exact H2_) | with_reducible exact H | (rw [hy310]; exact H) | exact H
             have Ny310 := z9a hy310
             clear hy310
             have H' := z9a H
             clear H
             obtain ⟨Ao51, co51, eo51⟩ := Kd.R_slice HO_8.out
             subst eo51
             go_wp2_with (first | ((with_reducible refine gate_builtin (b := .append) (xs := #[.tmp 85, .tmp 88]) rfl ?_); (try (refine gate_guard (by rfl) ?_; dsimp only)); at_builtin; refine Kd.S_append k39 (w0 := w) w.heap.size rfl (.tmp 85) (.tmp 88) 27 39 (.agg #[(.slice none 0 0)]) 24 rfl Try.underlying27 info39 rfl (by decide) (by omega) u9 x9_2 (⟨x8_2⟩ : S39) [.slice Ao51 x8_2.length co51] (fun k_ => some k_ ≠ (u6 : Value).ownBlock ∧ some k_ ≠ (u7 : Value).ownBlock) (fun k_ => some k_ = (.slice Ao51 x8_2.length co51 : Value).ownBlock) rfl rfl ?aP (fun k_ hk_ => ((Kd.R_mono (ok' := fun k_ => ((fun k_ => some k_ ≠ (u6 : Value).ownBlock ∧ some k_ ≠ (u7 : Value).ownBlock)) k_ ∧ some k_ ≠ (u9 : Value).ownBlock) (Kd.R_apart' (HO_8.out) (Kd.S_typed HO_9.out) (by decide)) (fun k_ hk => ⟨⟨hk.1.1, hk.1.2⟩, hk.2⟩))).1 k_ hk_.symm) ?aF ?aO ?aB ?aS ?aL ?_; (case aP => exact k39_mkM _ _ _ (⟨x8_2⟩ : S39) (Kd.R_mono (Kd.R_tight rfl (Kd.R_mono (ok' := fun k_ => ((fun k_ => some k_ ≠ (u6 : Value).ownBlock ∧ some k_ ≠ (u7 : Value).ownBlock)) k_ ∧ some k_ ≠ (u9 : Value).ownBlock) (Kd.R_apart' (HO_8.out) (Kd.S_typed HO_9.out) (by decide)) (fun k_ hk => ⟨⟨hk.1.1, hk.1.2⟩, hk.2⟩))) (fun _ h_ => h_))); (case aB => exact (by repeat (first | (with_reducible first | exact HB.out | apply z9d | apply z9b | apply z9c) | exact HB.out))); (case aF => exact (fun k_ hk => ⟨Kd.fresh' (Kd.R_lt (by (with_reducible repeat (first | apply z9h | apply z9i | apply z9j)); exact HO_6.out)) k_ hk, Kd.fresh' (Kd.R_lt (by (with_reducible repeat (first | apply z9h | apply z9i | apply z9j)); exact HO_7.out)) k_ hk⟩)); (case aO => exact (by (with_reducible repeat (first | apply z9l | apply z9m | apply z9n)); exact Kd.S_mono HO_9.out (fun k_ hk => ⟨⟨hk.1, hk.2.1⟩, fun e_ => hk.2.2 e_⟩))); (case aS => exact (below_size (by repeat (first | (with_reducible first | exact HB.out | apply z9d | apply z9b | apply z9c) | exact HB.out)))); (case aL => have := LMc50.out; omega); intro v311 w52 ho hb hg hat; rw [← Ny310.out] at ho; have n0_ := z9a (Kd.R_over' (by (with_reducible repeat (first | apply z9h | apply z9i | apply z9j)); exact HO_6.out) (Kd.S_typed (by (with_reducible repeat (first | apply z9l | apply z9m | apply z9n)); exact HO_9.out)) (by decide) hg); have n1_ := z9a (Kd.R_over' (by (with_reducible repeat (first | apply z9h | apply z9i | apply z9j)); exact HO_7.out) (Kd.S_typed (by (with_reducible repeat (first | apply z9l | apply z9m | apply z9n)); exact HO_9.out)) (by decide) hg); have n2_ := z9a (hb); have n3_ := z9a (ho); clear HO_6; clear HO_7; clear HB; clear HO_9; clear HO_8; have HO_6 := n0_; have HO_7 := n1_; have HB := n2_; have HO312 := n3_; clear n0_ n1_ n2_ n3_; clear ho hb hg hat))
             go_roundg kj43
             case measure => have := HJ2.out; have := HK2.out; have := HJ17.out; have := HJ43.out; omega
             case rel => exact ⟨(x7_2), (([] : List (S71))), (([] : List (S71))), (y310), (x10_2), (by first | rfl | (simp; done) | (simp [*]; done)), H', ⟨by have := HJ2.out; have := HK2.out; have := HJ17.out; have := HJ43.out; omega⟩, ⟨by (with_reducible repeat (first | apply z9h | apply z9i | apply z9j)); exact Kd.R_mono HO_7.out (fun _ hk => ⟨(by simp [Value.ownBlock]), (by simp [Value.ownBlock])⟩)⟩, ⟨by first | exact Kd.R_nil _ _ _ _ _ | exact Kd.N_nil _ _ _ _ _ | exact Kd.V_nil _ _ _ _ _ | exact Kd.Q_nil _ _ _ _ _ | exact Kd.S_nil _ _ _ _ _⟩, ⟨by first | exact Kd.R_nil _ _ _ _ _ | exact Kd.N_nil _ _ _ _ _ | exact Kd.V_nil _ _ _ _ _ | exact Kd.Q_nil _ _ _ _ _ | exact Kd.S_nil _ _ _ _ _⟩, ⟨by (with_reducible repeat (first | apply z9l | apply z9m | apply z9n)); exact Kd.S_mono HO312.out (fun _ hk => ⟨hk.2, ⟨(by simp [Value.ownBlock]), (by simp [Value.ownBlock])⟩⟩)⟩, ⟨by repeat (first | (with_reducible first | exact HB.out | apply z9d | apply z9b | apply z9c) | exact HB.out)⟩⟩
            ·rw [if_neg c50] at H
             exact absurd H (by simp)
           ·replace c49 := Bool.eq_false_iff.mpr c49
            subst c49
            have H1 : (if (x6_2.length : Int) > 0 then ((y_f.f kj43 x6_2).bind fun t313 => (if 0 ≤ t313 then (if t313 < (x6_2.length : Int) then (if x8_2.length < 5864062014805 then ((y_ob.f x6_2 t313).bind fun t318 => (y_a.l0 kj43 l0 a1 t318 x7_2 (x8_2 ++ [(⟨(rd_T71 x6_2 t313).f0, (rd_T71 x6_2 t313).f1, (rd_T71 x6_2 t313).f2⟩ : S71)]) x9_2 x10_2)) else (none)) else (none)) else (none))) else (if (x8_2.length : Int) > 0 then (if x9_2.length < 5864062014805 then ((y_h.f kj43 (x9_2 ++ [(⟨x8_2⟩ : S39)])).bind fun t324 => (some (t324, true))) else (none)) else ((y_h.f kj43 x9_2).bind fun t327 => (some (t327, true))))) = some (r1, r2) := by rw [if_neg (show ¬ (false = true) by decide)] at H; exact H
            clear H
            have H := H1
            clear H1
            by_cases c53 : (x6_2.length : Int) > 0
            ·rw [if_pos c53] at H
             have c53b0 : decide (0 < (x6_2.length : Int)) = true := decide_eq_true c53
             have c53b1 : decide (0 < x6_2.length) = true := decide_eq_true (by omega)
             clear c53
             replace H := z9f.mp H
             obtain ⟨t313, A540, H⟩ := H
             have A54 := z9a A540
             clear A540
             by_cases c55 : 0 ≤ t313
             ·rw [if_pos c55] at H
              have c55b0 : decide (0 ≤ t313) = true := decide_eq_true c55
              clear c55
              by_cases c56 : t313 < (x6_2.length : Int)
              ·rw [if_pos c56] at H
               have c56b0 : decide (t313 < (x6_2.length : Int)) = true := decide_eq_true c56
               clear c56
               by_cases c57 : x8_2.length < 5864062014805
               ·rw [if_pos c57] at H
                have LMc57 := z9a c57
                clear c57
                obtain ⟨y315, hy315⟩ : ∃ y_ : List (S71), y_ = (x8_2 ++ [(⟨(rd_T71 x6_2 t313).f0, (rd_T71 x6_2 t313).f1, (rd_T71 x6_2 t313).f2⟩ : S71)]) := ⟨_, rfl⟩
                replace H : ((y_ob.f x6_2 t313).bind fun t318 => (y_a.l0 kj43 l0 a1 t318 x7_2 y315 x9_2 x10_2)) = some (r1, r2) := by first | (rw [hy315]; with_reducible exact H) | (have H2_ := (Option.bind_some _ _).symm.trans H; rw [hy315]; with_reducible exact H2_) | (have H2_ := (Option.bind_some _ _).symm.trans H; with_reducible exact H2_) | with_reducible exact H | (rw [hy315]; exact H) | exact H
                have Ny315 := z9a hy315
                clear hy315
                replace H := z9f.mp H
                obtain ⟨t318, A580, H⟩ := H
                have A58 := z9a A580
                clear A580
                have H' := z9a H
                clear H
                obtain ⟨Ao59, co59, eo59⟩ := Kd.R_slice HO_6.out
                subst eo59
                go_wp2_with (first | ((with_reducible refine gate_callee (f := 26) rfl ?_); refine goesL_ (some 96) rfl rfl Try.func26 (by kernel_rfl) rfl #[.slice Ao59 x6_2.length co59] rfl (by (try simp only [zm9a, zm9b, zm9c]); first | done | rfl | (simp only [zm9d, zm9e]; rfl)) ?_; (with_reducible refine (y_f.calls kj43 _ _ x6_2 t313 _ ?side1 ?side2 A54.out).mono ?_); (case side1 => repeat (first | exact (Kd.R_reads' HO_6.out).2.2 | (with_reducible refine Kd.C_alloc ?_ _) | (with_reducible refine Kd.C_drewN ?_ _) | (with_reducible refine Kd.C_drew ?_))); (case side2 => exact (Kd.R_reads' HO_6.out).2.1); rintro e w60 ⟨rfl, hb⟩; refine ⟨_, rfl, ?_⟩; have n0_ := z9a (z9k (by (with_reducible repeat (first | apply z9h | apply z9i | apply z9j)); exact HO_6.out) hb); have n1_ := z9a (z9k (by (with_reducible repeat (first | apply z9h | apply z9i | apply z9j)); exact HO_7.out) hb); have n2_ := z9a (z9k (by (with_reducible repeat (first | apply z9h | apply z9i | apply z9j)); exact HO_8.out) hb); have n3_ := z9a (Kd.S_below (by (with_reducible repeat (first | apply z9l | apply z9m | apply z9n)); exact HO_9.out) hb); have n4_ := z9a (below_step (by repeat (first | (with_reducible first | exact HB.out | apply z9d | apply z9b | apply z9c) | exact HB.out)) hb); clear HO_6; clear HO_7; clear HO_8; clear HO_9; clear HB; have HO_6 := n0_; have HO_7 := n1_; have HO_8 := n2_; have HO_9 := n3_; have HB := n4_; clear n0_ n1_ n2_ n3_ n4_; (try clear hb); (try clear hb2); (try clear hk); (try clear hi); have p314 : 0 ≤ (t313 : Int) := z9g (by first | (with_reducible assumption) | assumption); have q314 : t313 < (x6_2.length : Int) := z9g (by first | (with_reducible assumption) | assumption); obtain ⟨ad314, e314, hx314_0, hx314_1, hx314_2⟩ := at_T71 (Kd.R_reads' HO_6.out).2.2 t313 p314 q314; cases e314; replace p314 := eq_true p314; replace q314 := eq_true q314) | ((with_reducible refine gate_builtin (b := .append) (xs := #[.tmp 97, .tmp 102]) rfl ?_); (try (refine gate_guard (by rfl) ?_; dsimp only)); at_builtin; refine Kd.R_append k71 (w0 := w) w.heap.size rfl (.tmp 97) (.tmp 102) 24 71 (.agg #[(.int .i64 0), (.int .i64 0), (.int .i64 0)]) 24 rfl Try.underlying24 info71 rfl (by decide) (by omega) u8 x8_2 (⟨(rd_T71 x6_2 t313).f0, (rd_T71 x6_2 t313).f1, (rd_T71 x6_2 t313).f2⟩ : S71) [.int .i64 ((rd_T71 x6_2 t313).f0), .int .i64 ((rd_T71 x6_2 t313).f1), .int .i64 ((rd_T71 x6_2 t313).f2)] (fun k_ => some k_ ≠ (.slice (some ad314) x6_2.length co59 : Value).ownBlock ∧ some k_ ≠ (u7 : Value).ownBlock) (fun _ => False) rfl rfl ?aP (fun _ hk => hk.elim) ?aF ?aO ?aB ?aS ?aL ?_; (case aP => exact k71_mkM _ _ _ (⟨(rd_T71 x6_2 t313).f0, (rd_T71 x6_2 t313).f1, (rd_T71 x6_2 t313).f2⟩ : S71)); (case aB => exact (by repeat (first | (with_reducible first | exact HB.out | apply z9d | apply z9b | apply z9c) | exact HB.out))); (case aF => exact (fun k_ hk => ⟨Kd.fresh' (Kd.R_lt (by (with_reducible repeat (first | apply z9h | apply z9i | apply z9j)); exact HO_6.out)) k_ hk, Kd.fresh' (Kd.R_lt (by (with_reducible repeat (first | apply z9h | apply z9i | apply z9j)); exact HO_7.out)) k_ hk⟩)); (case aO => exact (by (with_reducible repeat (first | apply z9h | apply z9i | apply z9j)); exact HO_8.out)); (case aS => exact (below_size (by repeat (first | (with_reducible first | exact HB.out | apply z9d | apply z9b | apply z9c) | exact HB.out)))); (case aL => have := LMc57.out; omega); intro v316 w61 ho hb hg hat; rw [← Ny315.out] at ho; have n0_ := z9a (Kd.R_after (ok := (fun k_ => some k_ ≠ (u7 : Value).ownBlock)) (by (with_reducible repeat (first | apply z9h | apply z9i | apply z9j)); exact HO_6.out) hg hat); have n1_ := z9a (Kd.R_after (ok := (fun k_ => some k_ ≠ (.slice (some ad314) x6_2.length co59 : Value).ownBlock)) (by (with_reducible repeat (first | apply z9h | apply z9i | apply z9j)); exact HO_7.out) hg hat); have n2_ := z9a (Kd.S_after (ok := (fun k_ => some k_ ≠ (.slice (some ad314) x6_2.length co59 : Value).ownBlock ∧ some k_ ≠ (u7 : Value).ownBlock)) (by (with_reducible repeat (first | apply z9l | apply z9m | apply z9n)); exact Kd.S_mono HO_9.out (fun _ hk => ⟨⟨hk.1, hk.2.1⟩, hk.2.2⟩)) hg hat); have n3_ := z9a (hb); have n4_ := z9a (ho); clear HO_6; clear HO_7; clear HO_9; clear HB; clear HO_8; have HO_6 := n0_; have HO_7 := n1_; have HO_9 := n2_; have HB := n3_; have HO317 := n4_; clear n0_ n1_ n2_ n3_ n4_; clear ho hb hg hat) | ((with_reducible refine gate_callee (f := 112) rfl ?_); refine goesL_ (some 106) rfl rfl Try.func112 (by kernel_rfl) rfl #[.slice (some ad314) x6_2.length co59, .int .i64 t313] rfl (by (try simp only [zm9a, zm9b, zm9c]); first | done | rfl | (simp only [zm9d, zm9e]; rfl)) ?_; (with_reducible refine (y_ob.calls _ _ x6_2 t313 t318 _ ?side1 ?side2 A58.out).mono ?_); (case side1 => repeat (first | exact (Kd.R_reads' HO_6.out).2.2 | (with_reducible refine Kd.C_alloc ?_ _) | (with_reducible refine Kd.C_drewN ?_ _) | (with_reducible refine Kd.C_drew ?_))); (case side2 => exact (Kd.R_reads' HO_6.out).2.1); rintro e w62 ⟨v319, rfl, ho0, hb⟩; refine ⟨_, rfl, ?_⟩; have n0_ := z9a (Kd.R_elder' (by (with_reducible repeat (first | apply z9h | apply z9i | apply z9j)); exact HO_6.out) (Kd.R_base ho0) hb); have n1_ := z9a (Kd.R_elder' (by (with_reducible repeat (first | apply z9h | apply z9i | apply z9j)); exact HO_7.out) (Kd.R_base ho0) hb); have n2_ := z9a (Kd.S_elder' (by (with_reducible repeat (first | apply z9l | apply z9m | apply z9n)); exact HO_9.out) (Kd.R_base ho0) hb); have n3_ := z9a (Kd.R_elder' (by (with_reducible repeat (first | apply z9h | apply z9i | apply z9j)); exact HO317.out) (Kd.R_base ho0) hb); have n4_ := z9a (Kd.R_lower (Kd.R_new' (Kd.R_new' (Kd.R_new' ho0 (Kd.R_lt (by (with_reducible repeat (first | apply z9h | apply z9i | apply z9j)); exact HO_6.out))) (Kd.R_lt (by (with_reducible repeat (first | apply z9h | apply z9i | apply z9j)); exact HO_7.out))) (Kd.R_lt (by (with_reducible repeat (first | apply z9h | apply z9i | apply z9j)); exact HO317.out))) (below_size (by repeat (first | (with_reducible first | exact HB.out | apply z9d | apply z9b | apply z9c) | exact HB.out)))); have n5_ := z9a (below_step (by repeat (first | (with_reducible first | exact HB.out | apply z9d | apply z9b | apply z9c) | exact HB.out)) hb); clear HO_6; clear HO_7; clear HO_9; clear HO317; clear HB; have HO_6 := n0_; have HO_7 := n1_; have HO_9 := n2_; have HO317 := n3_; have HO320 := n4_; have HB := n5_; clear n0_ n1_ n2_ n3_ n4_ n5_; (try clear hb); (try clear hb2); (try clear hk); (try clear hi); (try clear ho0)))
                go_roundg kj43
                case measure => have := HJ2.out; have := HK2.out; have := HJ17.out; have := HJ43.out; omega
                case rel => exact ⟨(t318), (x7_2), (y315), (x9_2), (x10_2), (by first | rfl | (simp; done) | (simp [*]; done)), H', ⟨by have := HJ2.out; have := HK2.out; have := HJ17.out; have := HJ43.out; omega⟩, ⟨by (with_reducible repeat (first | apply z9h | apply z9i | apply z9j)); exact Kd.R_mono HO320.out (fun _ hk => ⟨hk.1.2, hk.2⟩)⟩, ⟨by (with_reducible repeat (first | apply z9h | apply z9i | apply z9j)); exact Kd.R_mono HO_7.out (fun _ hk => ⟨hk.2, hk.1.2⟩)⟩, ⟨by (with_reducible repeat (first | apply z9h | apply z9i | apply z9j)); exact Kd.R_mono HO317.out (fun _ hk => ⟨hk.2, hk.1.2⟩)⟩, ⟨by (with_reducible repeat (first | apply z9l | apply z9m | apply z9n)); exact Kd.S_mono HO_9.out (fun _ hk => ⟨hk.2, ⟨hk.1.1.2, hk.1.2⟩⟩)⟩, ⟨by repeat (first | (with_reducible first | exact HB.out | apply z9d | apply z9b | apply z9c) | exact HB.out)⟩⟩
               ·rw [if_neg c57] at H
                exact absurd H (by simp)
              ·rw [if_neg c56] at H
               exact absurd H (by simp)
             ·rw [if_neg c55] at H
              exact absurd H (by simp)
            ·rw [if_neg c53] at H
             have c53b0 : decide (0 < (x6_2.length : Int)) = false := decide_eq_false c53
             have c53b1 : decide (0 < x6_2.length) = false := decide_eq_false (by omega)
             clear c53
             by_cases c63 : (x8_2.length : Int) > 0
             ·rw [if_pos c63] at H
              have c63b0 : decide (0 < (x8_2.length : Int)) = true := decide_eq_true c63
              have c63b1 : decide (0 < x8_2.length) = true := decide_eq_true (by omega)
              clear c63
              by_cases c64 : x9_2.length < 5864062014805
              ·rw [if_pos c64] at H
               have LMc64 := z9a c64
               clear c64
               obtain ⟨y321, hy321⟩ : ∃ y_ : List (S39), y_ = (x9_2 ++ [(⟨x8_2⟩ : S39)]) := ⟨_, rfl⟩
               replace H : ((y_h.f kj43 y321).bind fun t324 => (some (t324, true))) = some (r1, r2) := by first | (rw [hy321]; with_reducible exact H) | (have H2_ := (Option.bind_some _ _).symm.trans H; rw [hy321]; with_reducible exact H2_) | (have H2_ := (Option.bind_some _ _).symm.trans H; with_reducible exact H2_) | with_reducible exact H | (rw [hy321]; exact H) | exact H
               have Ny321 := z9a hy321
               clear hy321
               replace H := z9f.mp H
               obtain ⟨t324, A650, H⟩ := H
               have A65 := z9a A650
               clear A650
               simp only [Option.some.injEq, Prod.mk.injEq] at H
               obtain ⟨rfl, rfl⟩ := H
               obtain ⟨Ao66, co66, eo66⟩ := Kd.R_slice HO_6.out
               subst eo66
               obtain ⟨Ao67, co67, eo67⟩ := Kd.R_slice HO_8.out
               subst eo67
               go_wp2_with (first | ((with_reducible refine gate_builtin (b := .append) (xs := #[.tmp 27, .tmp 30]) rfl ?_); (try (refine gate_guard (by rfl) ?_; dsimp only)); at_builtin; refine Kd.S_append k39 (w0 := w) w.heap.size rfl (.tmp 27) (.tmp 30) 27 39 (.agg #[(.slice none 0 0)]) 24 rfl Try.underlying27 info39 rfl (by decide) (by omega) u9 x9_2 (⟨x8_2⟩ : S39) [.slice Ao67 x8_2.length co67] (fun k_ => some k_ ≠ (.slice Ao66 x6_2.length co66 : Value).ownBlock ∧ some k_ ≠ (u7 : Value).ownBlock) (fun k_ => some k_ = (.slice Ao67 x8_2.length co67 : Value).ownBlock) rfl rfl ?aP (fun k_ hk_ => ((Kd.R_mono (ok' := fun k_ => ((fun k_ => some k_ ≠ (.slice Ao66 x6_2.length co66 : Value).ownBlock ∧ some k_ ≠ (u7 : Value).ownBlock)) k_ ∧ some k_ ≠ (u9 : Value).ownBlock) (Kd.R_apart' (HO_8.out) (Kd.S_typed HO_9.out) (by decide)) (fun k_ hk => ⟨⟨hk.1.1, hk.1.2⟩, hk.2⟩))).1 k_ hk_.symm) ?aF ?aO ?aB ?aS ?aL ?_; (case aP => exact k39_mkM _ _ _ (⟨x8_2⟩ : S39) (Kd.R_mono (Kd.R_tight rfl (Kd.R_mono (ok' := fun k_ => ((fun k_ => some k_ ≠ (.slice Ao66 x6_2.length co66 : Value).ownBlock ∧ some k_ ≠ (u7 : Value).ownBlock)) k_ ∧ some k_ ≠ (u9 : Value).ownBlock) (Kd.R_apart' (HO_8.out) (Kd.S_typed HO_9.out) (by decide)) (fun k_ hk => ⟨⟨hk.1.1, hk.1.2⟩, hk.2⟩))) (fun _ h_ => h_))); (case aB => exact (by repeat (first | (with_reducible first | exact HB.out | apply z9d | apply z9b | apply z9c) | exact HB.out))); (case aF => exact (fun k_ hk => ⟨Kd.fresh' (Kd.R_lt (by (with_reducible repeat (first | apply z9h | apply z9i | apply z9j)); exact HO_6.out)) k_ hk, Kd.fresh' (Kd.R_lt (by (with_reducible repeat (first | apply z9h | apply z9i | apply z9j)); exact HO_7.out)) k_ hk⟩)); (case aO => exact (by (with_reducible repeat (first | apply z9l | apply z9m | apply z9n)); exact Kd.S_mono HO_9.out (fun k_ hk => ⟨⟨hk.1, hk.2.1⟩, fun e_ => hk.2.2 e_⟩))); (case aS => exact (below_size (by repeat (first | (with_reducible first | exact HB.out | apply z9d | apply z9b | apply z9c) | exact HB.out)))); (case aL => have := LMc64.out; omega); intro v322 w68 ho hb hg hat; rw [← Ny321.out] at ho; have n0_ := z9a (Kd.R_over' (by (with_reducible repeat (first | apply z9h | apply z9i | apply z9j)); exact HO_6.out) (Kd.S_typed (by (with_reducible repeat (first | apply z9l | apply z9m | apply z9n)); exact HO_9.out)) (by decide) hg); have n1_ := z9a (Kd.R_over' (by (with_reducible repeat (first | apply z9h | apply z9i | apply z9j)); exact HO_7.out) (Kd.S_typed (by (with_reducible repeat (first | apply z9l | apply z9m | apply z9n)); exact HO_9.out)) (by decide) hg); have n2_ := z9a (hb); have n3_ := z9a (ho); clear HO_6; clear HO_7; clear HB; clear HO_9; clear HO_8; have HO_6 := n0_; have HO_7 := n1_; have HB := n2_; have HO323 := n3_; clear n0_ n1_ n2_ n3_; clear ho hb hg hat; obtain ⟨Ao69, co69, eo69⟩ := Kd.S_slice HO323.out; subst eo69) | ((with_reducible refine gate_callee (f := 113) rfl ?_); refine goesL_ (some 33) rfl rfl Try.func113 (by kernel_rfl) rfl #[.slice Ao69 y321.length co69] rfl (by (try simp only [zm9a, zm9b, zm9c]); first | done | rfl | (simp only [zm9d, zm9e]; rfl)) ?_; (with_reducible refine (y_h.calls kj43 _ _ y321 t324 _ ?side1 ?side2 A65.out).mono ?_); (case side1 => repeat (first | exact (Kd.S_reads' HO323.out).2.2 | (with_reducible refine Kd.C_alloc ?_ _) | (with_reducible refine Kd.C_drewN ?_ _) | (with_reducible refine Kd.C_drew ?_))); (case side2 => exact (Kd.S_reads' HO323.out).2.1); rintro e w70 ⟨v325, rfl, ho0, hb⟩; refine ⟨_, rfl, ?_⟩; have n0_ := z9a (z9k (by (with_reducible repeat (first | apply z9h | apply z9i | apply z9j)); exact HO_6.out) hb); have n1_ := z9a (z9k (by (with_reducible repeat (first | apply z9h | apply z9i | apply z9j)); exact HO_7.out) hb); have n2_ := z9a (Kd.S_elder' (by (with_reducible repeat (first | apply z9l | apply z9m | apply z9n)); exact HO323.out) (Kd.S_base ho0) hb); have n3_ := z9a (Kd.S_lower (Kd.S_new' (Kd.S_new' (Kd.S_new' ho0 (Kd.R_lt (by (with_reducible repeat (first | apply z9h | apply z9i | apply z9j)); exact HO_6.out))) (Kd.R_lt (by (with_reducible repeat (first | apply z9h | apply z9i | apply z9j)); exact HO_7.out))) (Kd.S_lt (by (with_reducible repeat (first | apply z9l | apply z9m | apply z9n)); exact HO323.out))) (below_size (by repeat (first | (with_reducible first | exact HB.out | apply z9d | apply z9b | apply z9c) | exact HB.out)))); have n4_ := z9a (below_step (by repeat (first | (with_reducible first | exact HB.out | apply z9d | apply z9b | apply z9c) | exact HB.out)) hb); clear HO_6; clear HO_7; clear HO323; clear HB; have HO_6 := n0_; have HO_7 := n1_; have HO323 := n2_; have HO326 := n3_; have HB := n4_; clear n0_ n1_ n2_ n3_ n4_; (try clear hb); (try clear hb2); (try clear hk); (try clear hi); (try clear ho0)))
               go_ret2
               exact ⟨_, by first | rfl | (simp [errW_none, errW_some] <;> rfl) | (simp [*, errW_none, errW_some] <;> rfl), by (with_reducible repeat (first | apply z9l | apply z9m | apply z9n)); exact Kd.S_mono HO326.out (fun _ hk => trivial), by repeat (first | (with_reducible first | exact HB.out | apply z9d | apply z9b | apply z9c) | exact HB.out)⟩
              ·rw [if_neg c64] at H
               exact absurd H (by simp)
             ·rw [if_neg c63] at H
              have c63b0 : decide (0 < (x8_2.length : Int)) = false := decide_eq_false c63
              have c63b1 : decide (0 < x8_2.length) = false := decide_eq_false (by omega)
              clear c63
              replace H := z9f.mp H
              obtain ⟨t327, A710, H⟩ := H
              have A71 := z9a A710
              clear A710
              simp only [Option.some.injEq, Prod.mk.injEq] at H
              obtain ⟨rfl, rfl⟩ := H
              obtain ⟨Ao72, co72, eo72⟩ := Kd.R_slice HO_6.out
              subst eo72
              obtain ⟨Ao73, co73, eo73⟩ := Kd.R_slice HO_8.out
              subst eo73
              obtain ⟨Ao74, co74, eo74⟩ := Kd.S_slice HO_9.out
              subst eo74
              go_wp2_with (first | ((with_reducible refine gate_callee (f := 113) rfl ?_); refine goesL_ (some 33) rfl rfl Try.func113 (by kernel_rfl) rfl #[.slice Ao74 x9_2.length co74] rfl (by (try simp only [zm9a, zm9b, zm9c]); first | done | rfl | (simp only [zm9d, zm9e]; rfl)) ?_; (with_reducible refine (y_h.calls kj43 _ _ x9_2 t327 _ ?side1 ?side2 A71.out).mono ?_); (case side1 => repeat (first | exact (Kd.S_reads' HO_9.out).2.2 | (with_reducible refine Kd.C_alloc ?_ _) | (with_reducible refine Kd.C_drewN ?_ _) | (with_reducible refine Kd.C_drew ?_))); (case side2 => exact (Kd.S_reads' HO_9.out).2.1); rintro e w75 ⟨v328, rfl, ho0, hb⟩; refine ⟨_, rfl, ?_⟩; have n0_ := z9a (z9k (by (with_reducible repeat (first | apply z9h | apply z9i | apply z9j)); exact HO_6.out) hb); have n1_ := z9a (z9k (by (with_reducible repeat (first | apply z9h | apply z9i | apply z9j)); exact HO_7.out) hb); have n2_ := z9a (z9k (by (with_reducible repeat (first | apply z9h | apply z9i | apply z9j)); exact HO_8.out) hb); have n3_ := z9a (Kd.S_elder' (by (with_reducible repeat (first | apply z9l | apply z9m | apply z9n)); exact HO_9.out) (Kd.S_base ho0) hb); have n4_ := z9a (Kd.S_lower (Kd.S_new' (Kd.S_new' (Kd.S_new' (Kd.S_new' ho0 (Kd.R_lt (by (with_reducible repeat (first | apply z9h | apply z9i | apply z9j)); exact HO_6.out))) (Kd.R_lt (by (with_reducible repeat (first | apply z9h | apply z9i | apply z9j)); exact HO_7.out))) (Kd.R_lt (by (with_reducible repeat (first | apply z9h | apply z9i | apply z9j)); exact HO_8.out))) (Kd.S_lt (by (with_reducible repeat (first | apply z9l | apply z9m | apply z9n)); exact HO_9.out))) (below_size (by repeat (first | (with_reducible first | exact HB.out | apply z9d | apply z9b | apply z9c) | exact HB.out)))); have n5_ := z9a (below_step (by repeat (first | (with_reducible first | exact HB.out | apply z9d | apply z9b | apply z9c) | exact HB.out)) hb); clear HO_6; clear HO_7; clear HO_8; clear HO_9; clear HB; have HO_6 := n0_; have HO_7 := n1_; have HO_8 := n2_; have HO_9 := n3_; have HO329 := n4_; have HB := n5_; clear n0_ n1_ n2_ n3_ n4_ n5_; (try clear hb); (try clear hb2); (try clear hk); (try clear hi); (try clear ho0)))
              go_ret2
              exact ⟨_, by first | rfl | (simp [errW_none, errW_some] <;> rfl) | (simp [*, errW_none, errW_some] <;> rfl), by (with_reducible repeat (first | apply z9l | apply z9m | apply z9n)); exact Kd.S_mono HO329.out (fun _ hk => trivial), by repeat (first | (with_reducible first | exact HB.out | apply z9d | apply z9b | apply z9c) | exact HB.out)⟩
end Go.Proofs.Ytkcicbigpbdjpaa.P
end
