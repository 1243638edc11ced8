-- PRINTED by print.py (a twelfth state) out of the translation. Not trusted: Lean checks it.
import Derived.Test.YtngeppmincgebaaPx0
import Derived.Test.YtngeppmincgebaaPx34
namespace Go.Proofs.Ytngeppmincgebaa.P
open Go.RowKit Go.Proofs.YtngeppmincgebaaW.PrintWords Go.Proofs.YtngeppmincgebaaW.PrintLast Go.Proofs.YtngeppmincgebaaW.PrintMore
attribute [local go_sem] max2_int min2_int max_two min_two max_three min_three max_four min_four   -- for this text's walks alone
set_option linter.unusedVariables false
set_option linter.unusedSimpArgs false

/-! ### impl_ReferenceJoin: function 43 -/
mutual
def impl_ReferenceJoin.l0 : Nat → Int → List (S75) → List (S98) → List (S75) → Int → Int → Option ((List (S98)))
  | 0, _, _, _, _, _, _ => none
  | k + 1, x0, x2, x7, x14, x15, x16 => if x16 < x15 then (if 0 ≤ x16 then (if x16 < (x14.length : Int) then ((impl_CountMatches.f k ((rd_T75 x14 x16).f0) ((rd_T75 x14 x16).f1) ((rd_T75 x14 x16).f2) x2).bind fun t562 => (if t562 > 0 then (if x0 = 1 then (impl_ReferenceJoin.j1 k x0 x2 x7 t562 x14 x15 x16 true ((rd_T75 x14 x16).f0) ((rd_T75 x14 x16).f1) ((rd_T75 x14 x16).f2)) else (impl_ReferenceJoin.j1 k x0 x2 x7 t562 x14 x15 x16 (x0 == 4) ((rd_T75 x14 x16).f0) ((rd_T75 x14 x16).f1) ((rd_T75 x14 x16).f2))) else (impl_ReferenceJoin.j1 k x0 x2 x7 t562 x14 x15 x16 false ((rd_T75 x14 x16).f0) ((rd_T75 x14 x16).f1) ((rd_T75 x14 x16).f2)))) else (none)) else (none)) else (some x7)
def impl_ReferenceJoin.j1 : Nat → Int → List (S75) → List (S98) → Int → List (S75) → Int → Int → Bool → Int → Int → Int → Option ((List (S98)))
  | 0, _, _, _, _, _, _, _, _, _, _, _ => none
  | k + 1, x0, x2, x7, x10, x14, x15, x16, x32, x562000, x562001, x562002 => if x32 = true then (impl_ReferenceJoin.l1 k x0 x2 x7 x10 x14 x15 x16 x2 (x2.length : Int) 0 x562000 x562001 x562002) else (if x0 = 2 then (if x10 > 0 then (if x7.length < 2513169434916 then (impl_ReferenceJoin.l0 k x0 x2 (x7 ++ [(⟨(⟨x562000, x562001, x562002⟩ : S75), (⟨0, 0, 0⟩ : S75), false⟩ : S98)]) x14 x15 (wrap64 (x16 + 1))) else (none)) else (if x0 = 3 then (if x10 = 0 then (if x7.length < 2513169434916 then (impl_ReferenceJoin.l0 k x0 x2 (x7 ++ [(⟨(⟨x562000, x562001, x562002⟩ : S75), (⟨0, 0, 0⟩ : S75), false⟩ : S98)]) x14 x15 (wrap64 (x16 + 1))) else (none)) else (impl_ReferenceJoin.l0 k x0 x2 x7 x14 x15 (wrap64 (x16 + 1)))) else (if x0 = 4 then (if x10 = 0 then (if x7.length < 2513169434916 then (impl_ReferenceJoin.l0 k x0 x2 (x7 ++ [(⟨(⟨x562000, x562001, x562002⟩ : S75), (⟨0, 0, 0⟩ : S75), false⟩ : S98)]) x14 x15 (wrap64 (x16 + 1))) else (none)) else (impl_ReferenceJoin.l0 k x0 x2 x7 x14 x15 (wrap64 (x16 + 1)))) else (impl_ReferenceJoin.l0 k x0 x2 x7 x14 x15 (wrap64 (x16 + 1)))))) else (if x0 = 3 then (if x10 = 0 then (if x7.length < 2513169434916 then (impl_ReferenceJoin.l0 k x0 x2 (x7 ++ [(⟨(⟨x562000, x562001, x562002⟩ : S75), (⟨0, 0, 0⟩ : S75), false⟩ : S98)]) x14 x15 (wrap64 (x16 + 1))) else (none)) else (impl_ReferenceJoin.l0 k x0 x2 x7 x14 x15 (wrap64 (x16 + 1)))) else (if x0 = 4 then (if x10 = 0 then (if x7.length < 2513169434916 then (impl_ReferenceJoin.l0 k x0 x2 (x7 ++ [(⟨(⟨x562000, x562001, x562002⟩ : S75), (⟨0, 0, 0⟩ : S75), false⟩ : S98)]) x14 x15 (wrap64 (x16 + 1))) else (none)) else (impl_ReferenceJoin.l0 k x0 x2 x7 x14 x15 (wrap64 (x16 + 1)))) else (impl_ReferenceJoin.l0 k x0 x2 x7 x14 x15 (wrap64 (x16 + 1))))))
def impl_ReferenceJoin.l1 : Nat → Int → List (S75) → List (S98) → Int → List (S75) → Int → Int → List (S75) → Int → Int → Int → Int → Int → Option ((List (S98)))
  | 0, _, _, _, _, _, _, _, _, _, _, _, _, _ => none
  | k + 1, x0, x2, x7, x10, x14, x15, x16, x33, x34, x35, x562000, x562001, x562002 => if x35 < x34 then (if 0 ≤ x35 then (if x35 < (x33.length : Int) then (if ((rd_T75 x33 x35).f0) = x562000 then (if x7.length < 2513169434916 then (impl_ReferenceJoin.l1 k x0 x2 (x7 ++ [(⟨(⟨x562000, x562001, x562002⟩ : S75), (⟨(rd_T75 x33 x35).f0, (rd_T75 x33 x35).f1, (rd_T75 x33 x35).f2⟩ : S75), true⟩ : S98)]) x10 x14 x15 x16 x33 x34 (wrap64 (x35 + 1)) x562000 x562001 x562002) else (none)) else (impl_ReferenceJoin.l1 k x0 x2 x7 x10 x14 x15 x16 x33 x34 (wrap64 (x35 + 1)) x562000 x562001 x562002)) else (none)) else (none)) else (if x0 = 2 then (if x10 > 0 then (if x7.length < 2513169434916 then (impl_ReferenceJoin.l0 k x0 x2 (x7 ++ [(⟨(⟨x562000, x562001, x562002⟩ : S75), (⟨0, 0, 0⟩ : S75), false⟩ : S98)]) x14 x15 (wrap64 (x16 + 1))) else (none)) else (if x0 = 3 then (if x10 = 0 then (if x7.length < 2513169434916 then (impl_ReferenceJoin.l0 k x0 x2 (x7 ++ [(⟨(⟨x562000, x562001, x562002⟩ : S75), (⟨0, 0, 0⟩ : S75), false⟩ : S98)]) x14 x15 (wrap64 (x16 + 1))) else (none)) else (impl_ReferenceJoin.l0 k x0 x2 x7 x14 x15 (wrap64 (x16 + 1)))) else (if x0 = 4 then (if x10 = 0 then (if x7.length < 2513169434916 then (impl_ReferenceJoin.l0 k x0 x2 (x7 ++ [(⟨(⟨x562000, x562001, x562002⟩ : S75), (⟨0, 0, 0⟩ : S75), false⟩ : S98)]) x14 x15 (wrap64 (x16 + 1))) else (none)) else (impl_ReferenceJoin.l0 k x0 x2 x7 x14 x15 (wrap64 (x16 + 1)))) else (impl_ReferenceJoin.l0 k x0 x2 x7 x14 x15 (wrap64 (x16 + 1)))))) else (if x0 = 3 then (if x10 = 0 then (if x7.length < 2513169434916 then (impl_ReferenceJoin.l0 k x0 x2 (x7 ++ [(⟨(⟨x562000, x562001, x562002⟩ : S75), (⟨0, 0, 0⟩ : S75), false⟩ : S98)]) x14 x15 (wrap64 (x16 + 1))) else (none)) else (impl_ReferenceJoin.l0 k x0 x2 x7 x14 x15 (wrap64 (x16 + 1)))) else (if x0 = 4 then (if x10 = 0 then (if x7.length < 2513169434916 then (impl_ReferenceJoin.l0 k x0 x2 (x7 ++ [(⟨(⟨x562000, x562001, x562002⟩ : S75), (⟨0, 0, 0⟩ : S75), false⟩ : S98)]) x14 x15 (wrap64 (x16 + 1))) else (none)) else (impl_ReferenceJoin.l0 k x0 x2 x7 x14 x15 (wrap64 (x16 + 1)))) else (impl_ReferenceJoin.l0 k x0 x2 x7 x14 x15 (wrap64 (x16 + 1))))))
end
def impl_ReferenceJoin.f (k : Nat) (a0 : Int) (l1 : List (S75)) (l2 : List (S75)) : Option ((List (S98))) := impl_ReferenceJoin.l0 k a0 l2 (([] : List (S98))) l1 (l1.length : Int) 0
theorem impl_ReferenceJoin.mono_l : ∀ k, (∀ y0 y1 y2 y3 y4 y5, LeO (impl_ReferenceJoin.l0 k y0 y1 y2 y3 y4 y5) (impl_ReferenceJoin.l0 (k + 1) y0 y1 y2 y3 y4 y5)) ∧ (∀ y0 y1 y2 y3 y4 y5 y6 y7 y8 y9 y10, LeO (impl_ReferenceJoin.j1 k y0 y1 y2 y3 y4 y5 y6 y7 y8 y9 y10) (impl_ReferenceJoin.j1 (k + 1) y0 y1 y2 y3 y4 y5 y6 y7 y8 y9 y10)) ∧ (∀ y0 y1 y2 y3 y4 y5 y6 y7 y8 y9 y10 y11 y12, LeO (impl_ReferenceJoin.l1 k y0 y1 y2 y3 y4 y5 y6 y7 y8 y9 y10 y11 y12) (impl_ReferenceJoin.l1 (k + 1) y0 y1 y2 y3 y4 y5 y6 y7 y8 y9 y10 y11 y12))
  | 0 => ⟨fun _ _ _ _ _ _ r h => by simp [impl_ReferenceJoin.l0] at h, fun _ _ _ _ _ _ _ _ _ _ _ r h => by simp [impl_ReferenceJoin.j1] at h, fun _ _ _ _ _ _ _ _ _ _ _ _ _ r h => by simp [impl_ReferenceJoin.l1] at h⟩
  | k + 1 => by
    obtain ⟨ih0, ih1, ih2⟩ := impl_ReferenceJoin.mono_l k
    refine ⟨?_, ?_, ?_⟩
    · intro y0 y1 y2 y3 y4 y5
      unfold impl_ReferenceJoin.l0
      repeat' first
      | (with_reducible exact ih0 _ _ _ _ _ _)
      | (with_reducible exact ih1 _ _ _ _ _ _ _ _ _ _ _)
      | (with_reducible exact ih2 _ _ _ _ _ _ _ _ _ _ _ _ _)
      | (with_reducible exact impl_CountMatches.mono _ _ _ _ _)
      | (with_reducible exact LeO.refl _)
      | (with_reducible exact LeO.none _)
      | (with_reducible refine LeO.ite ?_ ?_)
      | (with_reducible refine LeO.bind ?_ (fun _ => ?_))
      | exact ih0 _ _ _ _ _ _
      | exact ih1 _ _ _ _ _ _ _ _ _ _ _
      | exact ih2 _ _ _ _ _ _ _ _ _ _ _ _ _
      | exact impl_CountMatches.mono _ _ _ _ _
      | exact LeO.none _
      | refine LeO.ite ?_ ?_
      | refine LeO.bind ?_ (fun _ => ?_)
    · intro y0 y1 y2 y3 y4 y5 y6 y7 y8 y9 y10
      unfold impl_ReferenceJoin.j1
      repeat' first
      | (with_reducible exact ih0 _ _ _ _ _ _)
      | (with_reducible exact ih1 _ _ _ _ _ _ _ _ _ _ _)
      | (with_reducible exact ih2 _ _ _ _ _ _ _ _ _ _ _ _ _)
      | (with_reducible exact impl_CountMatches.mono _ _ _ _ _)
      | (with_reducible exact LeO.refl _)
      | (with_reducible exact LeO.none _)
      | (with_reducible refine LeO.ite ?_ ?_)
      | (with_reducible refine LeO.bind ?_ (fun _ => ?_))
      | exact ih0 _ _ _ _ _ _
      | exact ih1 _ _ _ _ _ _ _ _ _ _ _
      | exact ih2 _ _ _ _ _ _ _ _ _ _ _ _ _
      | exact impl_CountMatches.mono _ _ _ _ _
      | exact LeO.none _
      | refine LeO.ite ?_ ?_
      | refine LeO.bind ?_ (fun _ => ?_)
    · intro y0 y1 y2 y3 y4 y5 y6 y7 y8 y9 y10 y11 y12
      unfold impl_ReferenceJoin.l1
      repeat' first
      | (with_reducible exact ih0 _ _ _ _ _ _)
      | (with_reducible exact ih1 _ _ _ _ _ _ _ _ _ _ _)
      | (with_reducible exact ih2 _ _ _ _ _ _ _ _ _ _ _ _ _)
      | (with_reducible exact impl_CountMatches.mono _ _ _ _ _)
      | (with_reducible exact LeO.refl _)
      | (with_reducible exact LeO.none _)
      | (with_reducible refine LeO.ite ?_ ?_)
      | (with_reducible refine LeO.bind ?_ (fun _ => ?_))
      | exact ih0 _ _ _ _ _ _
      | exact ih1 _ _ _ _ _ _ _ _ _ _ _
      | exact ih2 _ _ _ _ _ _ _ _ _ _ _ _ _
      | exact impl_CountMatches.mono _ _ _ _ _
      | exact LeO.none _
      | refine LeO.ite ?_ ?_
      | refine LeO.bind ?_ (fun _ => ?_)
theorem impl_ReferenceJoin.mono : ∀ a0 a1 a2 k, LeO (impl_ReferenceJoin.f k a0 a1 a2) (impl_ReferenceJoin.f (k + 1) a0 a1 a2) := by
  intro a0 a1 a2 k
  obtain ⟨ih0, ih1, ih2⟩ := impl_ReferenceJoin.mono_l k
  unfold impl_ReferenceJoin.f
  repeat' first
      | (with_reducible exact ih0 _ _ _ _ _ _)
      | (with_reducible exact ih1 _ _ _ _ _ _ _ _ _ _ _)
      | (with_reducible exact ih2 _ _ _ _ _ _ _ _ _ _ _ _ _)
      | (with_reducible exact impl_CountMatches.mono _ _ _ _ _)
      | (with_reducible exact LeO.refl _)
      | (with_reducible exact LeO.none _)
      | (with_reducible refine LeO.ite ?_ ?_)
      | (with_reducible refine LeO.bind ?_ (fun _ => ?_))
      | exact ih0 _ _ _ _ _ _
      | exact ih1 _ _ _ _ _ _ _ _ _ _ _
      | exact ih2 _ _ _ _ _ _ _ _ _ _ _ _ _
      | exact impl_CountMatches.mono _ _ _ _ _
      | exact LeO.none _
      | refine LeO.ite ?_ ?_
      | refine LeO.bind ?_ (fun _ => ?_)
set_option maxHeartbeats 8000000 in
set_option maxRecDepth 100000 in
theorem impl_ReferenceJoin.calls (k : Nat) (a0 : Int) (A1 : Option Addr) (c1 : Nat) (l1 : List (S75)) (A2 : Option Addr) (c2 : Nat) (l2 : List (S75)) (r : List (S98)) (w : World) (hr1 : Kd.C k75 w A1 l1.length l1) (hc1 : l1.length ≤ c1) (hr2 : Kd.C k75 w A2 l2.length l2) (hc2 : l2.length ≤ c2) (h : impl_ReferenceJoin.f k a0 l1 l2 = some r) :
    Calls Try.prog 43 #[.int .i64 a0, .slice A1 l1.length c1, .slice A2 l2.length c2] w fun e w' => ∃ v0_ : Value, e = .returned (v0_) ∧ Kd.R k98 98 w' w.heap.size (fun _ => True) v0_ r ∧ Below w.heap.size w w' := by
  have hu75 := Try.underlying75
  have hu98 := Try.underlying98
  have HR1 := Aside0.mk hr1
  have HC1 := Aside0.mk hc1
  clear hr1 hc1
  have HR2 := Aside0.mk hr2
  have HC2 := Aside0.mk hc2
  clear hr2 hc2
  have HB := Aside0.mk (Below.refl w.heap.size w)
  have H : (impl_ReferenceJoin.l0 k a0 l2 (([] : List (S98))) l1 (l1.length : Int) 0) = some r := h
  clear h
  obtain ⟨y557, hy557⟩ : ∃ y_ : List (S98), y_ = (([] : List (S98))) := ⟨_, rfl⟩
  replace H : (impl_ReferenceJoin.l0 k a0 l2 y557 l1 (l1.length : Int) 0) = some r := by first | (rw [hy557]; with_reducible exact H) | (have H2_ := (Option.bind_some _ _).symm.trans H; rw [hy557]; with_reducible exact H2_) | (have H2_ := (Option.bind_some _ _).symm.trans H; with_reducible exact H2_) | with_reducible exact H | (rw [hy557]; exact H) | exact H
  have Ny557 := Aside0.mk hy557
  clear hy557
  have H' := Aside0.mk H
  clear H
  go_enter Try.func43, Try.ntmps43
  go_wp2_with (first | ((with_reducible refine gate_dst (N := 13) rfl ?_); refine Kd.R_lit k98 _ 98 ?hg (N := 13) ?hd (xs := ([] : List (S98))) (inner := []) (ok := fun _ => True) (okp := fun _ => True) ?hr ?hp (fun _ hk => hk) trivial (Below.refl _ _) (Nat.le_refl _) (by simp) ?_; (case hd => rfl); (case hg => rfl); (case hr => first | (go_simp; done) | (go_simp; rfl)); (case hp => exact (Reps.none _ _)); intro v558 w4 ho5 hb hg_ hnew_; clear hg_ hnew_; (first | rw [← Ny557.out] at ho5 | (simp only [Int.reduceToNat] at ho5; rw [← Ny557.out] at ho5)); have n0_ := Aside0.mk (Kd.R_lower ho5 (below_size (by repeat (first | (with_reducible first | exact HB.out | apply below_alloc | apply pw_below_drewN | apply below_drew1) | exact HB.out)))); have n1_ := Aside0.mk (below_step (by repeat (first | (with_reducible first | exact HB.out | apply below_alloc | apply pw_below_drewN | apply below_drew1) | exact HB.out)) hb); clear HB; have HO559 := n0_; have HB := n1_; clear n0_ n1_; clear hb ho5))
  go_loopg [7, 16] k (fun kq v7 v16 w' => ∃ (x7_1 : List (S98)) (x16_1 : Int), v16 = .int .i64 x16_1 ∧ Aside0 (impl_ReferenceJoin.l0 kq a0 l2 x7_1 l1 (l1.length : Int) x16_1 = some r) ∧ Aside0 (kq ≤ k) ∧ Aside0 (Kd.R k98 98 w' w.heap.size (fun _ => True) v7 x7_1) ∧ Aside0 (Below w.heap.size w w'))
  case atStart => exact ⟨(y557), (0), (by first | rfl | (simp; done) | (simp [*]; done)), H', ⟨Nat.le_refl _⟩, ⟨by (with_reducible repeat (first | apply Kd.R_alloc | apply Kd.R_drewN | apply Kd.R_drew)); exact HO559.out⟩, ⟨by repeat (first | (with_reducible first | exact HB.out | apply below_alloc | apply pw_below_drewN | apply below_drew1) | exact HB.out)⟩⟩
  case round =>
    clear H'
    try clear c1
    try clear c2
    try clear p2
    try clear c4
    obtain ⟨x7_1, x16_1, rfl, HA, HK1, HO_7, HB⟩ := hrel
    cases gk with
    | zero => exact absurd HA.out (by simp [impl_ReferenceJoin.l0])
    | succ k1 =>
      have H := HA.out
      clear HA
      simp only [impl_ReferenceJoin.l0] at H
      by_cases c6 : x16_1 < (l1.length : Int)
      · rw [if_pos c6] at H
        have c6b0 : decide (x16_1 < (l1.length : Int)) = true := decide_eq_true c6
        clear c6
        by_cases c7 : 0 ≤ x16_1
        · rw [if_pos c7] at H
          have c7b0 : decide (0 ≤ x16_1) = true := decide_eq_true c7
          clear c7
          by_cases c8 : x16_1 < (l1.length : Int)
          · rw [if_pos c8] at H
            have c8b0 : decide (x16_1 < (l1.length : Int)) = true := decide_eq_true c8
            clear c8
            replace H := Option.bind_eq_some_iff.mp H
            obtain ⟨t562, A90, H⟩ := H
            replace H : (if t562 > 0 then (if a0 = 1 then (impl_ReferenceJoin.j1 k1 a0 l2 x7_1 t562 l1 (l1.length : Int) x16_1 true ((rd_T75 l1 x16_1).f0) ((rd_T75 l1 x16_1).f1) ((rd_T75 l1 x16_1).f2)) else (impl_ReferenceJoin.j1 k1 a0 l2 x7_1 t562 l1 (l1.length : Int) x16_1 (a0 == 4) ((rd_T75 l1 x16_1).f0) ((rd_T75 l1 x16_1).f1) ((rd_T75 l1 x16_1).f2))) else (impl_ReferenceJoin.j1 k1 a0 l2 x7_1 t562 l1 (l1.length : Int) x16_1 false ((rd_T75 l1 x16_1).f0) ((rd_T75 l1 x16_1).f1) ((rd_T75 l1 x16_1).f2))) = some r := H
            have A9 := Aside0.mk A90
            clear A90
            have HC10 := Aside0.mk H
            clear H
            have p560 : 0 ≤ (x16_1 : Int) := of_decide_eq_true (by first | (with_reducible assumption) | assumption)
            have q560 : x16_1 < (l1.length : Int) := of_decide_eq_true (by first | (with_reducible assumption) | assumption)
            obtain ⟨ad560, e560, hx560_0, hx560_1, hx560_2⟩ := at_T75 HR1.out x16_1 p560 q560
            cases e560
            replace hx560_0 := (HB.out.cell (World.block_lt_of_cell? w _ hx560_0)).trans hx560_0
            replace hx560_1 := (HB.out.cell (World.block_lt_of_cell? w _ hx560_1)).trans hx560_1
            replace hx560_2 := (HB.out.cell (World.block_lt_of_cell? w _ hx560_2)).trans hx560_2
            replace p560 := eq_true p560
            replace q560 := eq_true q560
            go_upto_region 6 with (first | ((with_reducible refine gate_dst (N := 9) rfl ?_); refine box_event ?hg (N := 9) ?hd (cs := #[.int .i64 0, .int .i64 0, .int .i64 0]) (t := 75) ?hr ?_; (case hd => rfl); (case hg => rfl); (case hr => first | (go_simp; done) | (go_simp; rfl)); intro gb561 hg w11 hbox hb; have n0_ := Aside0.mk (Kd.R_below (by (with_reducible repeat (first | apply Kd.R_alloc | apply Kd.R_drewN | apply Kd.R_drew)); exact HO_7.out) hb); have n1_ := Aside0.mk (below_step (by repeat (first | (with_reducible first | exact HB.out | apply below_alloc | apply pw_below_drewN | apply below_drew1) | exact HB.out)) hb); have n2_ := Aside0.mk (hbox); have n3_ := Aside0.mk ((by rw [hg]; exact (below_size (by repeat (first | (with_reducible first | exact HB.out | apply below_alloc | apply pw_below_drewN | apply below_drew1) | exact HB.out))) : w.heap.size ≤ gb561)); have n4_ := Aside0.mk ((by rw [hg]; exact (below_size (by repeat (first | (with_reducible first | exact HB.out | apply below_alloc | apply pw_below_drewN | apply below_drew1) | exact HB.out))) : w.heap.size ≤ gb561)); clear HO_7; clear HB; have HO_7 := n0_; have HB := n1_; have BK561 := n2_; have GW561 := n3_; have GE561 := n4_; clear n0_ n1_ n2_ n3_ n4_; clear hb hbox hg; obtain ⟨hcz12_0, hcz12_1, hcz12_2⟩ := cells_3 BK561.out; obtain ⟨hfz12_0, hfz12_1, hfz12_2⟩ := frz_3 BK561.out) | ((with_reducible refine gate_callee (f := 88) rfl ?_); refine goesL_ (some 22) rfl rfl Try.func88 (by kernel_rfl) rfl #[.agg #[.int .i64 ((rd_T75 l1 x16_1).f0), .int .i64 ((rd_T75 l1 x16_1).f1), .int .i64 ((rd_T75 l1 x16_1).f2)], .slice A2 l2.length c2] rfl (by (try simp only [List.map_toArray, List.map_cons, List.map_nil]); first | done | rfl | (simp only [List.length_drop, List.length_take]; rfl)) ?_; (with_reducible refine (impl_CountMatches.calls k1 ((rd_T75 l1 x16_1).f0) ((rd_T75 l1 x16_1).f1) ((rd_T75 l1 x16_1).f2) _ _ l2 t562 _ ?side1 ?side2 A9.out).mono ?_); (case side1 => exact Kd.C_below HR2.out (by repeat (first | (with_reducible first | exact HB.out | apply below_alloc | apply pw_below_drewN | apply below_drew1 | refine below_set ?_ GE561.out) | exact HB.out))); (case side2 => exact HC2.out); rintro e w13 ⟨rfl, hb⟩; refine ⟨_, rfl, ?_⟩; have n0_ := Aside0.mk (Kd.R_below (by (with_reducible repeat (first | apply Kd.R_alloc | apply Kd.R_drewN | apply Kd.R_drew)); exact (Kd.R_mono (Kd.R_far (p := ⟨gb561, 2, none⟩) (Kd.R_far (p := ⟨gb561, 1, none⟩) (Kd.R_far (p := ⟨gb561, 0, none⟩) (Kd.R_types HO_7.out BK561.out (by decide)) (fun _ hk => hk.2) (.int .i64 ((rd_T75 l1 x16_1).f0))) (fun _ hk => hk.2) (.int .i64 ((rd_T75 l1 x16_1).f1))) (fun _ hk => hk.2) (.int .i64 ((rd_T75 l1 x16_1).f2))) (fun _ h_ => h_.1))) hb); have n1_ := Aside0.mk (blk_below (g := gb561) (o := .cells #[.int .i64 ((rd_T75 l1 x16_1).f0), .int .i64 ((rd_T75 l1 x16_1).f1), .int .i64 ((rd_T75 l1 x16_1).f2)] 75 (0, 0)) (by (with_reducible repeat (first | refine blk_drewN ?_ _ | refine blk_drew ?_ | refine blk_alloc ?_ _)); refine blk_put (cs := #[.int .i64 ((rd_T75 l1 x16_1).f0), .int .i64 ((rd_T75 l1 x16_1).f1), .int .i64 0]) ?_ 2 _ rfl; (with_reducible repeat (first | refine blk_drewN ?_ _ | refine blk_drew ?_ | refine blk_alloc ?_ _)); refine blk_put (cs := #[.int .i64 ((rd_T75 l1 x16_1).f0), .int .i64 0, .int .i64 0]) ?_ 1 _ rfl; (with_reducible repeat (first | refine blk_drewN ?_ _ | refine blk_drew ?_ | refine blk_alloc ?_ _)); refine blk_put (cs := #[.int .i64 0, .int .i64 0, .int .i64 0]) ?_ 0 _ rfl; (with_reducible repeat (first | refine blk_drewN ?_ _ | refine blk_drew ?_ | refine blk_alloc ?_ _)); exact BK561.out) hb); have n2_ := Aside0.mk (below_step (by repeat (first | (with_reducible first | exact HB.out | apply below_alloc | apply pw_below_drewN | apply below_drew1 | refine below_set ?_ GE561.out) | exact HB.out)) hb); clear HO_7; clear BK561; clear HB; have HO_7 := n0_; have BK561 := n1_; have HB := n2_; clear n0_ n1_ n2_; (try clear hb); (try clear hb2); (try clear hk); (try clear hi)))
            (try simp only [Act.put, List.setIfInBounds_toArray, List.set_cons_zero, List.set_cons_succ])
            go_cut [32] (fun v32 wc => ∃ (kq : Nat) (x32_9 : Bool), v32 = .bool x32_9 ∧ Aside0 (impl_ReferenceJoin.j1 kq a0 l2 x7_1 t562 l1 (l1.length : Int) x16_1 x32_9 ((rd_T75 l1 x16_1).f0) ((rd_T75 l1 x16_1).f1) ((rd_T75 l1 x16_1).f2) = some r) ∧ Aside0 (kq ≤ k1) ∧ Aside0 (Kd.R k98 98 wc w.heap.size (fun _ => True) u7 x7_1) ∧ Aside0 (wc.heap[gb561]? = some (.cells #[.int .i64 ((rd_T75 l1 x16_1).f0), .int .i64 ((rd_T75 l1 x16_1).f1), .int .i64 ((rd_T75 l1 x16_1).f2)] 75 (0, 0))) ∧ Aside0 (Below w.heap.size w wc))
            case first =>
              have H := HC10.out
              clear HC10
              by_cases c14 : t562 > 0
              · rw [if_pos c14] at H
                have c14b0 : decide (0 < t562) = true := decide_eq_true c14
                clear c14
                (first | rw [c14b0] | (simp only [i64_w, i32_w]; rw [c14b0]) | skip)
                by_cases c15 : a0 = 1
                · rw [if_pos c15] at H
                  have c15b0 : (a0 == 1) = true := beq_iff_eq.mpr c15
                  have c15b1 : (a0 != 1) = false := bne_eq_false_iff_eq.mpr c15
                  clear c15
                  have H' := Aside0.mk H
                  clear H
                  go_wp2
                  go_meet
                  case rel => exact ⟨_, (true), (by first | rfl | (simp; done) | (simp [*]; done)), H', ⟨by have := HK1.out; first | omega | exact Nat.le_refl _⟩, ⟨by (with_reducible repeat (first | apply Kd.R_alloc | apply Kd.R_drewN | apply Kd.R_drew)); exact HO_7.out⟩, ⟨by (with_reducible repeat (first | refine blk_drewN ?_ _ | refine blk_drew ?_ | refine blk_alloc ?_ _)); exact BK561.out⟩, ⟨by repeat (first | (with_reducible first | exact HB.out | apply below_alloc | apply pw_below_drewN | apply below_drew1 | refine below_set ?_ GE561.out) | exact HB.out)⟩⟩
                · rw [if_neg c15] at H
                  have c15b0 : (a0 == 1) = false := beq_eq_false_iff_ne.mpr c15
                  have c15b1 : (a0 != 1) = true := bne_iff_ne.mpr c15
                  have H' := Aside0.mk H
                  clear H
                  go_wp2
                  go_meet
                  case rel => exact ⟨_, ((a0 == 4)), (by first | rfl | (simp; done) | (simp [*]; done)), H', ⟨by have := HK1.out; first | omega | exact Nat.le_refl _⟩, ⟨by (with_reducible repeat (first | apply Kd.R_alloc | apply Kd.R_drewN | apply Kd.R_drew)); exact HO_7.out⟩, ⟨by (with_reducible repeat (first | refine blk_drewN ?_ _ | refine blk_drew ?_ | refine blk_alloc ?_ _)); exact BK561.out⟩, ⟨by repeat (first | (with_reducible first | exact HB.out | apply below_alloc | apply pw_below_drewN | apply below_drew1 | refine below_set ?_ GE561.out) | exact HB.out)⟩⟩
              · rw [if_neg c14] at H
                have c14b0 : decide (0 < t562) = false := decide_eq_false c14
                clear c14
                (first | rw [c14b0] | (simp only [i64_w, i32_w]; rw [c14b0]) | skip)
                have H' := Aside0.mk H
                clear H
                go_wp2
                go_meet
                case rel => exact ⟨_, (false), (by first | rfl | (simp; done) | (simp [*]; done)), H', ⟨by have := HK1.out; first | omega | exact Nat.le_refl _⟩, ⟨by (with_reducible repeat (first | apply Kd.R_alloc | apply Kd.R_drewN | apply Kd.R_drew)); exact HO_7.out⟩, ⟨by (with_reducible repeat (first | refine blk_drewN ?_ _ | refine blk_drew ?_ | refine blk_alloc ?_ _)); exact BK561.out⟩, ⟨by repeat (first | (with_reducible first | exact HB.out | apply below_alloc | apply pw_below_drewN | apply below_drew1 | refine below_set ?_ GE561.out) | exact HB.out)⟩⟩
            case rest =>
              clear HC10
              try clear c1
              try clear c2
              try clear p2
              try clear c4
              try clear p5
              try clear q5
              try clear hx5
              try clear c6
              try clear c6b0
              try clear c7
              try clear c7b0
              try clear c8
              try clear c8b0
              try clear c14
              try clear c14b0
              try clear c15
              try clear c15b0
              try clear c15b1
              try clear hcz12_0
              try clear hcz12_1
              try clear hcz12_2
              try clear hfz12_0
              try clear hfz12_1
              try clear hfz12_2
              try clear hx560_0
              try clear hx560_1
              try clear hx560_2
              try clear p2
              try clear p560
              try clear q560
              obtain ⟨kq, x32_9, rfl, HA, HJ9, HO_7, BK561, HB⟩ := hcut
              cases kq with
              | zero => exact absurd HA.out (by simp [impl_ReferenceJoin.j1])
              | succ kj9 =>
                have H := HA.out
                clear HA
                simp only [impl_ReferenceJoin.j1] at H
                by_cases c16 : x32_9 = true
                · subst c16
                  have H1 : (impl_ReferenceJoin.l1 kj9 a0 l2 x7_1 t562 l1 (l1.length : Int) x16_1 l2 (l2.length : Int) 0 ((rd_T75 l1 x16_1).f0) ((rd_T75 l1 x16_1).f1) ((rd_T75 l1 x16_1).f2)) = some r := by rw [if_pos rfl] at H; exact H
                  clear H
                  have H := H1
                  clear H1
                  have H' := Aside0.mk H
                  clear H
                  go_wp2
                  go_loopg [7, 35] kj9 (fun kq v7 v35 w' => ∃ (x7_3 : List (S98)) (x35_3 : Int), v35 = .int .i64 x35_3 ∧ Aside0 (impl_ReferenceJoin.l1 kq a0 l2 x7_3 t562 l1 (l1.length : Int) x16_1 l2 (l2.length : Int) x35_3 ((rd_T75 l1 x16_1).f0) ((rd_T75 l1 x16_1).f1) ((rd_T75 l1 x16_1).f2) = some r) ∧ Aside0 (kq ≤ kj9) ∧ Aside0 (Kd.R k98 98 w' w.heap.size (fun _ => True) v7 x7_3) ∧ Aside0 (w'.heap[gb561]? = some (.cells #[.int .i64 ((rd_T75 l1 x16_1).f0), .int .i64 ((rd_T75 l1 x16_1).f1), .int .i64 ((rd_T75 l1 x16_1).f2)] 75 (0, 0))) ∧ Aside0 (Below w.heap.size w w'))
                  case atStart => exact ⟨(x7_1), (0), (by first | rfl | (simp; done) | (simp [*]; done)), H', ⟨Nat.le_refl _⟩, ⟨by (with_reducible repeat (first | apply Kd.R_alloc | apply Kd.R_drewN | apply Kd.R_drew)); exact HO_7.out⟩, ⟨by (with_reducible repeat (first | refine blk_drewN ?_ _ | refine blk_drew ?_ | refine blk_alloc ?_ _)); exact BK561.out⟩, ⟨by repeat (first | (with_reducible first | exact HB.out | apply below_alloc | apply pw_below_drewN | apply below_drew1 | refine below_set ?_ GE561.out) | exact HB.out)⟩⟩
                  case round =>
                    clear H'
                    try clear c1
                    try clear c2
                    try clear p2
                    try clear c4
                    try clear p5
                    try clear q5
                    try clear hx5
                    try clear c6
                    try clear c6b0
                    try clear c7
                    try clear c7b0
                    try clear c8
                    try clear c8b0
                    try clear c14
                    try clear c14b0
                    try clear c15
                    try clear c15b0
                    try clear c15b1
                    try clear c16
                    try clear hcz12_0
                    try clear hcz12_1
                    try clear hcz12_2
                    try clear hfz12_0
                    try clear hfz12_1
                    try clear hfz12_2
                    try clear hx560_0
                    try clear hx560_1
                    try clear hx560_2
                    try clear p2
                    try clear p5
                    try clear p560
                    try clear q5
                    try clear q560
                    obtain ⟨x7_3, x35_3, rfl, HA, HK3, HO_7, BK561, HB⟩ := hrel
                    cases gk with
                    | zero => exact absurd HA.out (by simp [impl_ReferenceJoin.l1])
                    | succ k3 =>
                      have H := HA.out
                      clear HA
                      simp only [impl_ReferenceJoin.l1] at H
                      by_cases c17 : x35_3 < (l2.length : Int)
                      · rw [if_pos c17] at H
                        have c17b0 : decide (x35_3 < (l2.length : Int)) = true := decide_eq_true c17
                        clear c17
                        by_cases c18 : 0 ≤ x35_3
                        · rw [if_pos c18] at H
                          have c18b0 : decide (0 ≤ x35_3) = true := decide_eq_true c18
                          clear c18
                          by_cases c19 : x35_3 < (l2.length : Int)
                          · rw [if_pos c19] at H
                            have c19b0 : decide (x35_3 < (l2.length : Int)) = true := decide_eq_true c19
                            clear c19
                            by_cases c20 : ((rd_T75 l2 x35_3).f0) = ((rd_T75 l1 x16_1).f0)
                            · rw [if_pos c20] at H
                              have c20b0 : (((rd_T75 l2 x35_3).f0) == ((rd_T75 l1 x16_1).f0)) = true := beq_iff_eq.mpr c20
                              have c20b1 : (((rd_T75 l2 x35_3).f0) != ((rd_T75 l1 x16_1).f0)) = false := bne_eq_false_iff_eq.mpr c20
                              clear c20
                              by_cases c21 : x7_3.length < 2513169434916
                              · rw [if_pos c21] at H
                                have LMc21 := Aside0.mk c21
                                clear c21
                                obtain ⟨y565, hy565⟩ : ∃ y_ : List (S98), y_ = (x7_3 ++ [(⟨(⟨((rd_T75 l1 x16_1).f0), ((rd_T75 l1 x16_1).f1), ((rd_T75 l1 x16_1).f2)⟩ : S75), (⟨(rd_T75 l2 x35_3).f0, (rd_T75 l2 x35_3).f1, (rd_T75 l2 x35_3).f2⟩ : S75), true⟩ : S98)]) := ⟨_, rfl⟩
                                replace H : (impl_ReferenceJoin.l1 k3 a0 l2 y565 t562 l1 (l1.length : Int) x16_1 l2 (l2.length : Int) (wrap64 (x35_3 + 1)) ((rd_T75 l1 x16_1).f0) ((rd_T75 l1 x16_1).f1) ((rd_T75 l1 x16_1).f2)) = some r := by first | (rw [hy565]; with_reducible exact H) | (have H2_ := (Option.bind_some _ _).symm.trans H; rw [hy565]; with_reducible exact H2_) | (have H2_ := (Option.bind_some _ _).symm.trans H; with_reducible exact H2_) | with_reducible exact H | (rw [hy565]; exact H) | exact H
                                have Ny565 := Aside0.mk hy565
                                clear hy565
                                have H' := Aside0.mk H
                                clear H
                                have p563 : 0 ≤ (x35_3 : Int) := of_decide_eq_true (by first | (with_reducible assumption) | assumption)
                                have q563 : x35_3 < (l2.length : Int) := of_decide_eq_true (by first | (with_reducible assumption) | assumption)
                                obtain ⟨ad563, e563, hx563_0, hx563_1, hx563_2⟩ := at_T75 HR2.out x35_3 p563 q563
                                cases e563
                                replace hx563_0 := (HB.out.cell (World.block_lt_of_cell? w _ hx563_0)).trans hx563_0
                                replace hx563_1 := (HB.out.cell (World.block_lt_of_cell? w _ hx563_1)).trans hx563_1
                                replace hx563_2 := (HB.out.cell (World.block_lt_of_cell? w _ hx563_2)).trans hx563_2
                                replace p563 := eq_true p563
                                replace q563 := eq_true q563
                                go_wp2_with (first | ((with_reducible refine gate_dst (N := 12) rfl ?_); refine box_event ?hg (N := 12) ?hd (cs := #[.int .i64 0, .int .i64 0, .int .i64 0]) (t := 75) ?hr ?_; (case hd => rfl); (case hg => rfl); (case hr => first | (go_simp; done) | (go_simp; rfl)); intro gb564 hg w22 hbox hb; have n0_ := Aside0.mk (Kd.R_below (by (with_reducible repeat (first | apply Kd.R_alloc | apply Kd.R_drewN | apply Kd.R_drew)); exact HO_7.out) hb); have n1_ := Aside0.mk (blk_below (g := gb561) (o := .cells #[.int .i64 ((rd_T75 l1 x16_1).f0), .int .i64 ((rd_T75 l1 x16_1).f1), .int .i64 ((rd_T75 l1 x16_1).f2)] 75 (0, 0)) (by (with_reducible repeat (first | refine blk_drewN ?_ _ | refine blk_drew ?_ | refine blk_alloc ?_ _)); exact BK561.out) hb); have n2_ := Aside0.mk (below_step (by repeat (first | (with_reducible first | exact HB.out | apply below_alloc | apply pw_below_drewN | apply below_drew1 | refine below_set ?_ GE561.out) | exact HB.out)) hb); have n3_ := Aside0.mk (hbox); have n4_ := Aside0.mk ((by rw [hg]; exact (below_size (by repeat (first | (with_reducible first | exact HB.out | apply below_alloc | apply pw_below_drewN | apply below_drew1 | refine below_set ?_ GE561.out) | exact HB.out))) : w.heap.size ≤ gb564)); have n5_ := Aside0.mk ((by rw [hg]; exact (below_size (by repeat (first | (with_reducible first | exact HB.out | apply below_alloc | apply pw_below_drewN | apply below_drew1 | refine below_set ?_ GE561.out) | exact HB.out))) : w.heap.size ≤ gb564)); have n6_ := Aside0.mk ((by rw [hg]; exact Nat.ne_of_lt (blk_lt (g := gb561) (o := .cells #[.int .i64 ((rd_T75 l1 x16_1).f0), .int .i64 ((rd_T75 l1 x16_1).f1), .int .i64 ((rd_T75 l1 x16_1).f2)] 75 (0, 0)) (by (with_reducible repeat (first | refine blk_drewN ?_ _ | refine blk_drew ?_ | refine blk_alloc ?_ _)); exact BK561.out)) : gb561 ≠ gb564)); have n7_ := Aside0.mk ((by rw [hg]; exact Nat.ne_of_gt (blk_lt (g := gb561) (o := .cells #[.int .i64 ((rd_T75 l1 x16_1).f0), .int .i64 ((rd_T75 l1 x16_1).f1), .int .i64 ((rd_T75 l1 x16_1).f2)] 75 (0, 0)) (by (with_reducible repeat (first | refine blk_drewN ?_ _ | refine blk_drew ?_ | refine blk_alloc ?_ _)); exact BK561.out)) : gb564 ≠ gb561)); clear HO_7; clear BK561; clear HB; have HO_7 := n0_; have BK561 := n1_; have HB := n2_; have BK564 := n3_; have GW564 := n4_; have GE564 := n5_; have NB561_564 := n6_; have NB564_561 := n7_; clear n0_ n1_ n2_ n3_ n4_ n5_ n6_ n7_; clear hb hbox hg; have hnb23 := NB564_561.out; have hnc23 := NB561_564.out; obtain ⟨hcz24_0, hcz24_1, hcz24_2⟩ := cells_3 BK564.out; obtain ⟨hfz24_0, hfz24_1, hfz24_2⟩ := frz_3 BK564.out; obtain ⟨hcz25_0, hcz25_1, hcz25_2⟩ := cells_3 BK561.out; obtain ⟨hfz25_0, hfz25_1, hfz25_2⟩ := frz_3 BK561.out) | ((with_reducible refine gate_builtin (b := .append) (xs := #[.tmp 44, .tmp 48]) rfl ?_); at_builtin; refine Kd.R_append k98 (w0 := w) w.heap.size rfl (.tmp 44) (.tmp 48) 50 98 (.agg #[(.int .i64 0), (.int .i64 0), (.int .i64 0), (.int .i64 0), (.int .i64 0), (.int .i64 0), (.bool false)]) 56 rfl Try.underlying50 info98 rfl (by decide) (by omega) u7 x7_3 (⟨(⟨((rd_T75 l1 x16_1).f0), ((rd_T75 l1 x16_1).f1), ((rd_T75 l1 x16_1).f2)⟩ : S75), (⟨(rd_T75 l2 x35_3).f0, (rd_T75 l2 x35_3).f1, (rd_T75 l2 x35_3).f2⟩ : S75), true⟩ : S98) [.int .i64 ((rd_T75 l1 x16_1).f0), .int .i64 ((rd_T75 l1 x16_1).f1), .int .i64 ((rd_T75 l1 x16_1).f2), .int .i64 ((rd_T75 l2 x35_3).f0), .int .i64 ((rd_T75 l2 x35_3).f1), .int .i64 ((rd_T75 l2 x35_3).f2), .bool true] (fun _ => True) (fun _ => False) rfl (by first | (go_simp; done) | (go_simp; rfl)) ?aP (fun _ hk => hk.elim) ?aF ?aO ?aB ?aS ?aL ?_; (case aP => exact k98_mkM _ _ _ (⟨(⟨((rd_T75 l1 x16_1).f0), ((rd_T75 l1 x16_1).f1), ((rd_T75 l1 x16_1).f2)⟩ : S75), (⟨(rd_T75 l2 x35_3).f0, (rd_T75 l2 x35_3).f1, (rd_T75 l2 x35_3).f2⟩ : S75), true⟩ : S98)); (case aB => exact (by repeat (first | (with_reducible first | exact HB.out | apply below_alloc | apply pw_below_drewN | apply below_drew1 | refine below_set ?_ GE561.out | refine below_set ?_ GE564.out) | exact HB.out))); (case aF => exact (fun _ _ => trivial)); (case aO => exact (by (with_reducible repeat (first | apply Kd.R_alloc | apply Kd.R_drewN | apply Kd.R_drew)); exact Kd.R_mono (Kd.R_far (p := ⟨gb564, 2, none⟩) (Kd.R_far (p := ⟨gb564, 1, none⟩) (Kd.R_far (p := ⟨gb564, 0, none⟩) (Kd.R_types HO_7.out BK564.out (by decide)) (fun _ hk => hk.2) (.int .i64 ((rd_T75 l2 x35_3).f0))) (fun _ hk => hk.2) (.int .i64 ((rd_T75 l2 x35_3).f1))) (fun _ hk => hk.2) (.int .i64 ((rd_T75 l2 x35_3).f2))) (fun _ hk => trivial))); (case aS => exact (below_size (by repeat (first | (with_reducible first | exact HB.out | apply below_alloc | apply pw_below_drewN | apply below_drew1 | refine below_set ?_ GE561.out | refine below_set ?_ GE564.out) | exact HB.out)))); (case aL => have := LMc21.out; omega); intro v566 w26 ho hb hg hat; rw [← Ny565.out] at ho; have n0_ := Aside0.mk (blk_grown (g := gb561) (o := .cells #[.int .i64 ((rd_T75 l1 x16_1).f0), .int .i64 ((rd_T75 l1 x16_1).f1), .int .i64 ((rd_T75 l1 x16_1).f2)] 75 (0, 0)) (by (with_reducible repeat (first | refine blk_drewN ?_ _ | refine blk_drew ?_ | refine blk_alloc ?_ _)); refine blk_far ?_ NB561_564.out _; (with_reducible repeat (first | refine blk_drewN ?_ _ | refine blk_drew ?_ | refine blk_alloc ?_ _)); refine blk_far ?_ NB561_564.out _; (with_reducible repeat (first | refine blk_drewN ?_ _ | refine blk_drew ?_ | refine blk_alloc ?_ _)); refine blk_far ?_ NB561_564.out _; (with_reducible repeat (first | refine blk_drewN ?_ _ | refine blk_drew ?_ | refine blk_alloc ?_ _)); exact BK561.out) hg (Kd.R_ne HO_7.out BK561.out (by decide))); have n1_ := Aside0.mk (blk_grown (g := gb564) (o := .cells #[.int .i64 ((rd_T75 l2 x35_3).f0), .int .i64 ((rd_T75 l2 x35_3).f1), .int .i64 ((rd_T75 l2 x35_3).f2)] 75 (0, 0)) (by (with_reducible repeat (first | refine blk_drewN ?_ _ | refine blk_drew ?_ | refine blk_alloc ?_ _)); refine blk_put (cs := #[.int .i64 ((rd_T75 l2 x35_3).f0), .int .i64 ((rd_T75 l2 x35_3).f1), .int .i64 0]) ?_ 2 _ rfl; (with_reducible repeat (first | refine blk_drewN ?_ _ | refine blk_drew ?_ | refine blk_alloc ?_ _)); refine blk_put (cs := #[.int .i64 ((rd_T75 l2 x35_3).f0), .int .i64 0, .int .i64 0]) ?_ 1 _ rfl; (with_reducible repeat (first | refine blk_drewN ?_ _ | refine blk_drew ?_ | refine blk_alloc ?_ _)); refine blk_put (cs := #[.int .i64 0, .int .i64 0, .int .i64 0]) ?_ 0 _ rfl; (with_reducible repeat (first | refine blk_drewN ?_ _ | refine blk_drew ?_ | refine blk_alloc ?_ _)); exact BK564.out) hg (Kd.R_ne HO_7.out BK564.out (by decide))); have n2_ := Aside0.mk (hb); have n3_ := Aside0.mk (ho); clear BK561; clear BK564; clear HB; clear HO_7; have BK561 := n0_; have BK564 := n1_; have HB := n2_; have HO567 := n3_; clear n0_ n1_ n2_ n3_; clear ho hb hg hat))
                                go_roundg k3
                                case measure => have := HK1.out; have := HJ9.out; have := HK3.out; omega
                                case rel => exact ⟨(y565), (wrap64 (x35_3 + 1)), (by first | rfl | (simp; done) | (simp [*]; done)), H', ⟨by have := HK1.out; have := HJ9.out; have := HK3.out; omega⟩, ⟨by (with_reducible repeat (first | apply Kd.R_alloc | apply Kd.R_drewN | apply Kd.R_drew)); exact HO567.out⟩, ⟨by (with_reducible repeat (first | refine blk_drewN ?_ _ | refine blk_drew ?_ | refine blk_alloc ?_ _)); exact BK561.out⟩, ⟨by repeat (first | (with_reducible first | exact HB.out | apply below_alloc | apply pw_below_drewN | apply below_drew1 | refine below_set ?_ GE561.out | refine below_set ?_ GE564.out) | exact HB.out)⟩⟩
                              · rw [if_neg c21] at H
                                exact absurd H (by simp)
                            · rw [if_neg c20] at H
                              have c20b0 : (((rd_T75 l2 x35_3).f0) == ((rd_T75 l1 x16_1).f0)) = false := beq_eq_false_iff_ne.mpr c20
                              have c20b1 : (((rd_T75 l2 x35_3).f0) != ((rd_T75 l1 x16_1).f0)) = true := bne_iff_ne.mpr c20
                              have H' := Aside0.mk H
                              clear H
                              have p563 : 0 ≤ (x35_3 : Int) := of_decide_eq_true (by first | (with_reducible assumption) | assumption)
                              have q563 : x35_3 < (l2.length : Int) := of_decide_eq_true (by first | (with_reducible assumption) | assumption)
                              obtain ⟨ad563, e563, hx563_0, hx563_1, hx563_2⟩ := at_T75 HR2.out x35_3 p563 q563
                              cases e563
                              replace hx563_0 := (HB.out.cell (World.block_lt_of_cell? w _ hx563_0)).trans hx563_0
                              replace hx563_1 := (HB.out.cell (World.block_lt_of_cell? w _ hx563_1)).trans hx563_1
                              replace hx563_2 := (HB.out.cell (World.block_lt_of_cell? w _ hx563_2)).trans hx563_2
                              replace p563 := eq_true p563
                              replace q563 := eq_true q563
                              go_wp2_with (first | ((with_reducible refine gate_dst (N := 12) rfl ?_); refine box_event ?hg (N := 12) ?hd (cs := #[.int .i64 0, .int .i64 0, .int .i64 0]) (t := 75) ?hr ?_; (case hd => rfl); (case hg => rfl); (case hr => first | (go_simp; done) | (go_simp; rfl)); intro gb564 hg w27 hbox hb; have n0_ := Aside0.mk (Kd.R_below (by (with_reducible repeat (first | apply Kd.R_alloc | apply Kd.R_drewN | apply Kd.R_drew)); exact HO_7.out) hb); have n1_ := Aside0.mk (blk_below (g := gb561) (o := .cells #[.int .i64 ((rd_T75 l1 x16_1).f0), .int .i64 ((rd_T75 l1 x16_1).f1), .int .i64 ((rd_T75 l1 x16_1).f2)] 75 (0, 0)) (by (with_reducible repeat (first | refine blk_drewN ?_ _ | refine blk_drew ?_ | refine blk_alloc ?_ _)); exact BK561.out) hb); have n2_ := Aside0.mk (below_step (by repeat (first | (with_reducible first | exact HB.out | apply below_alloc | apply pw_below_drewN | apply below_drew1 | refine below_set ?_ GE561.out) | exact HB.out)) hb); have n3_ := Aside0.mk (hbox); have n4_ := Aside0.mk ((by rw [hg]; exact (below_size (by repeat (first | (with_reducible first | exact HB.out | apply below_alloc | apply pw_below_drewN | apply below_drew1 | refine below_set ?_ GE561.out) | exact HB.out))) : w.heap.size ≤ gb564)); have n5_ := Aside0.mk ((by rw [hg]; exact (below_size (by repeat (first | (with_reducible first | exact HB.out | apply below_alloc | apply pw_below_drewN | apply below_drew1 | refine below_set ?_ GE561.out) | exact HB.out))) : w.heap.size ≤ gb564)); have n6_ := Aside0.mk ((by rw [hg]; exact Nat.ne_of_lt (blk_lt (g := gb561) (o := .cells #[.int .i64 ((rd_T75 l1 x16_1).f0), .int .i64 ((rd_T75 l1 x16_1).f1), .int .i64 ((rd_T75 l1 x16_1).f2)] 75 (0, 0)) (by (with_reducible repeat (first | refine blk_drewN ?_ _ | refine blk_drew ?_ | refine blk_alloc ?_ _)); exact BK561.out)) : gb561 ≠ gb564)); have n7_ := Aside0.mk ((by rw [hg]; exact Nat.ne_of_gt (blk_lt (g := gb561) (o := .cells #[.int .i64 ((rd_T75 l1 x16_1).f0), .int .i64 ((rd_T75 l1 x16_1).f1), .int .i64 ((rd_T75 l1 x16_1).f2)] 75 (0, 0)) (by (with_reducible repeat (first | refine blk_drewN ?_ _ | refine blk_drew ?_ | refine blk_alloc ?_ _)); exact BK561.out)) : gb564 ≠ gb561)); clear HO_7; clear BK561; clear HB; have HO_7 := n0_; have BK561 := n1_; have HB := n2_; have BK564 := n3_; have GW564 := n4_; have GE564 := n5_; have NB561_564 := n6_; have NB564_561 := n7_; clear n0_ n1_ n2_ n3_ n4_ n5_ n6_ n7_; clear hb hbox hg; have hnb28 := NB564_561.out; have hnc28 := NB561_564.out; obtain ⟨hcz29_0, hcz29_1, hcz29_2⟩ := cells_3 BK564.out; obtain ⟨hfz29_0, hfz29_1, hfz29_2⟩ := frz_3 BK564.out; obtain ⟨hcz30_0, hcz30_1, hcz30_2⟩ := cells_3 BK561.out; obtain ⟨hfz30_0, hfz30_1, hfz30_2⟩ := frz_3 BK561.out))
                              go_roundg k3
                              case measure => have := HK1.out; have := HJ9.out; have := HK3.out; omega
                              case rel => exact ⟨(x7_3), (wrap64 (x35_3 + 1)), (by first | rfl | (simp; done) | (simp [*]; done)), H', ⟨by have := HK1.out; have := HJ9.out; have := HK3.out; omega⟩, ⟨by (with_reducible repeat (first | apply Kd.R_alloc | apply Kd.R_drewN | apply Kd.R_drew)); exact Kd.R_mono (Kd.R_far (p := ⟨gb564, 2, none⟩) (Kd.R_far (p := ⟨gb564, 1, none⟩) (Kd.R_far (p := ⟨gb564, 0, none⟩) (Kd.R_types HO_7.out BK564.out (by decide)) (fun _ hk => hk.2) (.int .i64 ((rd_T75 l2 x35_3).f0))) (fun _ hk => hk.2) (.int .i64 ((rd_T75 l2 x35_3).f1))) (fun _ hk => hk.2) (.int .i64 ((rd_T75 l2 x35_3).f2))) (fun _ hk => trivial)⟩, ⟨by (with_reducible repeat (first | refine blk_drewN ?_ _ | refine blk_drew ?_ | refine blk_alloc ?_ _)); refine blk_far ?_ NB561_564.out _; (with_reducible repeat (first | refine blk_drewN ?_ _ | refine blk_drew ?_ | refine blk_alloc ?_ _)); refine blk_far ?_ NB561_564.out _; (with_reducible repeat (first | refine blk_drewN ?_ _ | refine blk_drew ?_ | refine blk_alloc ?_ _)); refine blk_far ?_ NB561_564.out _; (with_reducible repeat (first | refine blk_drewN ?_ _ | refine blk_drew ?_ | refine blk_alloc ?_ _)); exact BK561.out⟩, ⟨by repeat (first | (with_reducible first | exact HB.out | apply below_alloc | apply pw_below_drewN | apply below_drew1 | refine below_set ?_ GE561.out | refine below_set ?_ GE564.out) | exact HB.out)⟩⟩
                          · rw [if_neg c19] at H
                            exact absurd H (by simp)
                        · rw [if_neg c18] at H
                          exact absurd H (by simp)
                      · rw [if_neg c17] at H
                        have c17b0 : decide (x35_3 < (l2.length : Int)) = false := decide_eq_false c17
                        clear c17
                        by_cases c31 : a0 = 2
                        · rw [if_pos c31] at H
                          have c31b0 : (a0 == 2) = true := beq_iff_eq.mpr c31
                          have c31b1 : (a0 != 2) = false := bne_eq_false_iff_eq.mpr c31
                          clear c31
                          by_cases c32 : t562 > 0
                          · rw [if_pos c32] at H
                            have c32b0 : decide (0 < t562) = true := decide_eq_true c32
                            clear c32
                            by_cases c33 : x7_3.length < 2513169434916
                            · rw [if_pos c33] at H
                              have LMc33 := Aside0.mk c33
                              clear c33
                              obtain ⟨y568, hy568⟩ : ∃ y_ : List (S98), y_ = (x7_3 ++ [(⟨(⟨((rd_T75 l1 x16_1).f0), ((rd_T75 l1 x16_1).f1), ((rd_T75 l1 x16_1).f2)⟩ : S75), (⟨0, 0, 0⟩ : S75), false⟩ : S98)]) := ⟨_, rfl⟩
                              replace H : (impl_ReferenceJoin.l0 k3 a0 l2 y568 l1 (l1.length : Int) (wrap64 (x16_1 + 1))) = some r := by first | (rw [hy568]; with_reducible exact H) | (have H2_ := (Option.bind_some _ _).symm.trans H; rw [hy568]; with_reducible exact H2_) | (have H2_ := (Option.bind_some _ _).symm.trans H; with_reducible exact H2_) | with_reducible exact H | (rw [hy568]; exact H) | exact H
                              have Ny568 := Aside0.mk hy568
                              clear hy568
                              have H' := Aside0.mk H
                              clear H
                              obtain ⟨hcz34_0, hcz34_1, hcz34_2⟩ := cells_3 BK561.out
                              obtain ⟨hfz34_0, hfz34_1, hfz34_2⟩ := frz_3 BK561.out
                              go_wp2_with (first | ((with_reducible refine gate_builtin (b := .append) (xs := #[.tmp 69, .tmp 72]) rfl ?_); at_builtin; refine Kd.R_append k98 (w0 := w) w.heap.size rfl (.tmp 69) (.tmp 72) 50 98 (.agg #[(.int .i64 0), (.int .i64 0), (.int .i64 0), (.int .i64 0), (.int .i64 0), (.int .i64 0), (.bool false)]) 56 rfl Try.underlying50 info98 rfl (by decide) (by omega) u7 x7_3 (⟨(⟨((rd_T75 l1 x16_1).f0), ((rd_T75 l1 x16_1).f1), ((rd_T75 l1 x16_1).f2)⟩ : S75), (⟨0, 0, 0⟩ : S75), false⟩ : S98) [.int .i64 ((rd_T75 l1 x16_1).f0), .int .i64 ((rd_T75 l1 x16_1).f1), .int .i64 ((rd_T75 l1 x16_1).f2), .int .i64 0, .int .i64 0, .int .i64 0, .bool false] (fun _ => True) (fun _ => False) rfl rfl ?aP (fun _ hk => hk.elim) ?aF ?aO ?aB ?aS ?aL ?_; (case aP => exact k98_mkM _ _ _ (⟨(⟨((rd_T75 l1 x16_1).f0), ((rd_T75 l1 x16_1).f1), ((rd_T75 l1 x16_1).f2)⟩ : S75), (⟨0, 0, 0⟩ : S75), false⟩ : S98)); (case aB => exact (by repeat (first | (with_reducible first | exact HB.out | apply below_alloc | apply pw_below_drewN | apply below_drew1 | refine below_set ?_ GE561.out) | exact HB.out))); (case aF => exact (fun _ _ => trivial)); (case aO => exact (by (with_reducible repeat (first | apply Kd.R_alloc | apply Kd.R_drewN | apply Kd.R_drew)); exact HO_7.out)); (case aS => exact (below_size (by repeat (first | (with_reducible first | exact HB.out | apply below_alloc | apply pw_below_drewN | apply below_drew1 | refine below_set ?_ GE561.out) | exact HB.out)))); (case aL => have := LMc33.out; omega); intro v569 w35 ho hb hg hat; rw [← Ny568.out] at ho; have n0_ := Aside0.mk (blk_grown (g := gb561) (o := .cells #[.int .i64 ((rd_T75 l1 x16_1).f0), .int .i64 ((rd_T75 l1 x16_1).f1), .int .i64 ((rd_T75 l1 x16_1).f2)] 75 (0, 0)) (by (with_reducible repeat (first | refine blk_drewN ?_ _ | refine blk_drew ?_ | refine blk_alloc ?_ _)); exact BK561.out) hg (Kd.R_ne HO_7.out BK561.out (by decide))); have n1_ := Aside0.mk (hb); have n2_ := Aside0.mk (ho); clear BK561; clear HB; clear HO_7; have BK561 := n0_; have HB := n1_; have HO570 := n2_; clear n0_ n1_ n2_; clear ho hb hg hat))
                              go_roundg k3
                              case measure => have := HK1.out; have := HJ9.out; have := HK3.out; omega
                              case rel => exact ⟨(y568), (wrap64 (x16_1 + 1)), (by first | rfl | (simp; done) | (simp [*]; done)), H', ⟨by have := HK1.out; have := HJ9.out; have := HK3.out; omega⟩, ⟨by (with_reducible repeat (first | apply Kd.R_alloc | apply Kd.R_drewN | apply Kd.R_drew)); exact HO570.out⟩, ⟨by repeat (first | (with_reducible first | exact HB.out | apply below_alloc | apply pw_below_drewN | apply below_drew1 | refine below_set ?_ GE561.out) | exact HB.out)⟩⟩
                            · rw [if_neg c33] at H
                              exact absurd H (by simp)
                          · rw [if_neg c32] at H
                            have c32b0 : decide (0 < t562) = false := decide_eq_false c32
                            clear c32
                            by_cases c36 : a0 = 3
                            · rw [if_pos c36] at H
                              have c36b0 : (a0 == 3) = true := beq_iff_eq.mpr c36
                              have c36b1 : (a0 != 3) = false := bne_eq_false_iff_eq.mpr c36
                              clear c36
                              by_cases c37 : t562 = 0
                              · rw [if_pos c37] at H
                                have c37b0 : (t562 == 0) = true := beq_iff_eq.mpr c37
                                have c37b1 : (t562 != 0) = false := bne_eq_false_iff_eq.mpr c37
                                clear c37
                                by_cases c38 : x7_3.length < 2513169434916
                                · rw [if_pos c38] at H
                                  have LMc38 := Aside0.mk c38
                                  clear c38
                                  obtain ⟨y571, hy571⟩ : ∃ y_ : List (S98), y_ = (x7_3 ++ [(⟨(⟨((rd_T75 l1 x16_1).f0), ((rd_T75 l1 x16_1).f1), ((rd_T75 l1 x16_1).f2)⟩ : S75), (⟨0, 0, 0⟩ : S75), false⟩ : S98)]) := ⟨_, rfl⟩
                                  replace H : (impl_ReferenceJoin.l0 k3 a0 l2 y571 l1 (l1.length : Int) (wrap64 (x16_1 + 1))) = some r := by first | (rw [hy571]; with_reducible exact H) | (have H2_ := (Option.bind_some _ _).symm.trans H; rw [hy571]; with_reducible exact H2_) | (have H2_ := (Option.bind_some _ _).symm.trans H; with_reducible exact H2_) | with_reducible exact H | (rw [hy571]; exact H) | exact H
                                  have Ny571 := Aside0.mk hy571
                                  clear hy571
                                  have H' := Aside0.mk H
                                  clear H
                                  obtain ⟨hcz39_0, hcz39_1, hcz39_2⟩ := cells_3 BK561.out
                                  obtain ⟨hfz39_0, hfz39_1, hfz39_2⟩ := frz_3 BK561.out
                                  go_wp2_with (first | ((with_reducible refine gate_builtin (b := .append) (xs := #[.tmp 69, .tmp 72]) rfl ?_); at_builtin; refine Kd.R_append k98 (w0 := w) w.heap.size rfl (.tmp 69) (.tmp 72) 50 98 (.agg #[(.int .i64 0), (.int .i64 0), (.int .i64 0), (.int .i64 0), (.int .i64 0), (.int .i64 0), (.bool false)]) 56 rfl Try.underlying50 info98 rfl (by decide) (by omega) u7 x7_3 (⟨(⟨((rd_T75 l1 x16_1).f0), ((rd_T75 l1 x16_1).f1), ((rd_T75 l1 x16_1).f2)⟩ : S75), (⟨0, 0, 0⟩ : S75), false⟩ : S98) [.int .i64 ((rd_T75 l1 x16_1).f0), .int .i64 ((rd_T75 l1 x16_1).f1), .int .i64 ((rd_T75 l1 x16_1).f2), .int .i64 0, .int .i64 0, .int .i64 0, .bool false] (fun _ => True) (fun _ => False) rfl rfl ?aP (fun _ hk => hk.elim) ?aF ?aO ?aB ?aS ?aL ?_; (case aP => exact k98_mkM _ _ _ (⟨(⟨((rd_T75 l1 x16_1).f0), ((rd_T75 l1 x16_1).f1), ((rd_T75 l1 x16_1).f2)⟩ : S75), (⟨0, 0, 0⟩ : S75), false⟩ : S98)); (case aB => exact (by repeat (first | (with_reducible first | exact HB.out | apply below_alloc | apply pw_below_drewN | apply below_drew1 | refine below_set ?_ GE561.out) | exact HB.out))); (case aF => exact (fun _ _ => trivial)); (case aO => exact (by (with_reducible repeat (first | apply Kd.R_alloc | apply Kd.R_drewN | apply Kd.R_drew)); exact HO_7.out)); (case aS => exact (below_size (by repeat (first | (with_reducible first | exact HB.out | apply below_alloc | apply pw_below_drewN | apply below_drew1 | refine below_set ?_ GE561.out) | exact HB.out)))); (case aL => have := LMc38.out; omega); intro v572 w40 ho hb hg hat; rw [← Ny571.out] at ho; have n0_ := Aside0.mk (blk_grown (g := gb561) (o := .cells #[.int .i64 ((rd_T75 l1 x16_1).f0), .int .i64 ((rd_T75 l1 x16_1).f1), .int .i64 ((rd_T75 l1 x16_1).f2)] 75 (0, 0)) (by (with_reducible repeat (first | refine blk_drewN ?_ _ | refine blk_drew ?_ | refine blk_alloc ?_ _)); exact BK561.out) hg (Kd.R_ne HO_7.out BK561.out (by decide))); have n1_ := Aside0.mk (hb); have n2_ := Aside0.mk (ho); clear BK561; clear HB; clear HO_7; have BK561 := n0_; have HB := n1_; have HO573 := n2_; clear n0_ n1_ n2_; clear ho hb hg hat))
                                  go_roundg k3
                                  case measure => have := HK1.out; have := HJ9.out; have := HK3.out; omega
                                  case rel => exact ⟨(y571), (wrap64 (x16_1 + 1)), (by first | rfl | (simp; done) | (simp [*]; done)), H', ⟨by have := HK1.out; have := HJ9.out; have := HK3.out; omega⟩, ⟨by (with_reducible repeat (first | apply Kd.R_alloc | apply Kd.R_drewN | apply Kd.R_drew)); exact HO573.out⟩, ⟨by repeat (first | (with_reducible first | exact HB.out | apply below_alloc | apply pw_below_drewN | apply below_drew1 | refine below_set ?_ GE561.out) | exact HB.out)⟩⟩
                                · rw [if_neg c38] at H
                                  exact absurd H (by simp)
                              · rw [if_neg c37] at H
                                have c37b0 : (t562 == 0) = false := beq_eq_false_iff_ne.mpr c37
                                have c37b1 : (t562 != 0) = true := bne_iff_ne.mpr c37
                                have H' := Aside0.mk H
                                clear H
                                go_wp2
                                go_roundg k3
                                case measure => have := HK1.out; have := HJ9.out; have := HK3.out; omega
                                case rel => exact ⟨(x7_3), (wrap64 (x16_1 + 1)), (by first | rfl | (simp; done) | (simp [*]; done)), H', ⟨by have := HK1.out; have := HJ9.out; have := HK3.out; omega⟩, ⟨by (with_reducible repeat (first | apply Kd.R_alloc | apply Kd.R_drewN | apply Kd.R_drew)); exact HO_7.out⟩, ⟨by repeat (first | (with_reducible first | exact HB.out | apply below_alloc | apply pw_below_drewN | apply below_drew1 | refine below_set ?_ GE561.out) | exact HB.out)⟩⟩
                            · rw [if_neg c36] at H
                              have c36b0 : (a0 == 3) = false := beq_eq_false_iff_ne.mpr c36
                              have c36b1 : (a0 != 3) = true := bne_iff_ne.mpr c36
                              by_cases c41 : a0 = 4
                              · rw [if_pos c41] at H
                                have c41b0 : (a0 == 4) = true := beq_iff_eq.mpr c41
                                have c41b1 : (a0 != 4) = false := bne_eq_false_iff_eq.mpr c41
                                clear c41
                                by_cases c42 : t562 = 0
                                · rw [if_pos c42] at H
                                  have c42b0 : (t562 == 0) = true := beq_iff_eq.mpr c42
                                  have c42b1 : (t562 != 0) = false := bne_eq_false_iff_eq.mpr c42
                                  clear c42
                                  by_cases c43 : x7_3.length < 2513169434916
                                  · rw [if_pos c43] at H
                                    have LMc43 := Aside0.mk c43
                                    clear c43
                                    obtain ⟨y574, hy574⟩ : ∃ y_ : List (S98), y_ = (x7_3 ++ [(⟨(⟨((rd_T75 l1 x16_1).f0), ((rd_T75 l1 x16_1).f1), ((rd_T75 l1 x16_1).f2)⟩ : S75), (⟨0, 0, 0⟩ : S75), false⟩ : S98)]) := ⟨_, rfl⟩
                                    replace H : (impl_ReferenceJoin.l0 k3 a0 l2 y574 l1 (l1.length : Int) (wrap64 (x16_1 + 1))) = some r := by first | (rw [hy574]; with_reducible exact H) | (have H2_ := (Option.bind_some _ _).symm.trans H; rw [hy574]; with_reducible exact H2_) | (have H2_ := (Option.bind_some _ _).symm.trans H; with_reducible exact H2_) | with_reducible exact H | (rw [hy574]; exact H) | exact H
                                    have Ny574 := Aside0.mk hy574
                                    clear hy574
                                    have H' := Aside0.mk H
                                    clear H
                                    obtain ⟨hcz44_0, hcz44_1, hcz44_2⟩ := cells_3 BK561.out
                                    obtain ⟨hfz44_0, hfz44_1, hfz44_2⟩ := frz_3 BK561.out
                                    go_wp2_with (first | ((with_reducible refine gate_builtin (b := .append) (xs := #[.tmp 69, .tmp 72]) rfl ?_); at_builtin; refine Kd.R_append k98 (w0 := w) w.heap.size rfl (.tmp 69) (.tmp 72) 50 98 (.agg #[(.int .i64 0), (.int .i64 0), (.int .i64 0), (.int .i64 0), (.int .i64 0), (.int .i64 0), (.bool false)]) 56 rfl Try.underlying50 info98 rfl (by decide) (by omega) u7 x7_3 (⟨(⟨((rd_T75 l1 x16_1).f0), ((rd_T75 l1 x16_1).f1), ((rd_T75 l1 x16_1).f2)⟩ : S75), (⟨0, 0, 0⟩ : S75), false⟩ : S98) [.int .i64 ((rd_T75 l1 x16_1).f0), .int .i64 ((rd_T75 l1 x16_1).f1), .int .i64 ((rd_T75 l1 x16_1).f2), .int .i64 0, .int .i64 0, .int .i64 0, .bool false] (fun _ => True) (fun _ => False) rfl rfl ?aP (fun _ hk => hk.elim) ?aF ?aO ?aB ?aS ?aL ?_; (case aP => exact k98_mkM _ _ _ (⟨(⟨((rd_T75 l1 x16_1).f0), ((rd_T75 l1 x16_1).f1), ((rd_T75 l1 x16_1).f2)⟩ : S75), (⟨0, 0, 0⟩ : S75), false⟩ : S98)); (case aB => exact (by repeat (first | (with_reducible first | exact HB.out | apply below_alloc | apply pw_below_drewN | apply below_drew1 | refine below_set ?_ GE561.out) | exact HB.out))); (case aF => exact (fun _ _ => trivial)); (case aO => exact (by (with_reducible repeat (first | apply Kd.R_alloc | apply Kd.R_drewN | apply Kd.R_drew)); exact HO_7.out)); (case aS => exact (below_size (by repeat (first | (with_reducible first | exact HB.out | apply below_alloc | apply pw_below_drewN | apply below_drew1 | refine below_set ?_ GE561.out) | exact HB.out)))); (case aL => have := LMc43.out; omega); intro v575 w45 ho hb hg hat; rw [← Ny574.out] at ho; have n0_ := Aside0.mk (blk_grown (g := gb561) (o := .cells #[.int .i64 ((rd_T75 l1 x16_1).f0), .int .i64 ((rd_T75 l1 x16_1).f1), .int .i64 ((rd_T75 l1 x16_1).f2)] 75 (0, 0)) (by (with_reducible repeat (first | refine blk_drewN ?_ _ | refine blk_drew ?_ | refine blk_alloc ?_ _)); exact BK561.out) hg (Kd.R_ne HO_7.out BK561.out (by decide))); have n1_ := Aside0.mk (hb); have n2_ := Aside0.mk (ho); clear BK561; clear HB; clear HO_7; have BK561 := n0_; have HB := n1_; have HO576 := n2_; clear n0_ n1_ n2_; clear ho hb hg hat))
                                    go_roundg k3
                                    case measure => have := HK1.out; have := HJ9.out; have := HK3.out; omega
                                    case rel => exact ⟨(y574), (wrap64 (x16_1 + 1)), (by first | rfl | (simp; done) | (simp [*]; done)), H', ⟨by have := HK1.out; have := HJ9.out; have := HK3.out; omega⟩, ⟨by (with_reducible repeat (first | apply Kd.R_alloc | apply Kd.R_drewN | apply Kd.R_drew)); exact HO576.out⟩, ⟨by repeat (first | (with_reducible first | exact HB.out | apply below_alloc | apply pw_below_drewN | apply below_drew1 | refine below_set ?_ GE561.out) | exact HB.out)⟩⟩
                                  · rw [if_neg c43] at H
                                    exact absurd H (by simp)
                                · rw [if_neg c42] at H
                                  have c42b0 : (t562 == 0) = false := beq_eq_false_iff_ne.mpr c42
                                  have c42b1 : (t562 != 0) = true := bne_iff_ne.mpr c42
                                  have H' := Aside0.mk H
                                  clear H
                                  go_wp2
                                  go_roundg k3
                                  case measure => have := HK1.out; have := HJ9.out; have := HK3.out; omega
                                  case rel => exact ⟨(x7_3), (wrap64 (x16_1 + 1)), (by first | rfl | (simp; done) | (simp [*]; done)), H', ⟨by have := HK1.out; have := HJ9.out; have := HK3.out; omega⟩, ⟨by (with_reducible repeat (first | apply Kd.R_alloc | apply Kd.R_drewN | apply Kd.R_drew)); exact HO_7.out⟩, ⟨by repeat (first | (with_reducible first | exact HB.out | apply below_alloc | apply pw_below_drewN | apply below_drew1 | refine below_set ?_ GE561.out) | exact HB.out)⟩⟩
                              · rw [if_neg c41] at H
                                have c41b0 : (a0 == 4) = false := beq_eq_false_iff_ne.mpr c41
                                have c41b1 : (a0 != 4) = true := bne_iff_ne.mpr c41
                                have H' := Aside0.mk H
                                clear H
                                go_wp2
                                go_roundg k3
                                case measure => have := HK1.out; have := HJ9.out; have := HK3.out; omega
                                case rel => exact ⟨(x7_3), (wrap64 (x16_1 + 1)), (by first | rfl | (simp; done) | (simp [*]; done)), H', ⟨by have := HK1.out; have := HJ9.out; have := HK3.out; omega⟩, ⟨by (with_reducible repeat (first | apply Kd.R_alloc | apply Kd.R_drewN | apply Kd.R_drew)); exact HO_7.out⟩, ⟨by repeat (first | (with_reducible first | exact HB.out | apply below_alloc | apply pw_below_drewN | apply below_drew1 | refine below_set ?_ GE561.out) | exact HB.out)⟩⟩
                        · rw [if_neg c31] at H
                          have c31b0 : (a0 == 2) = false := beq_eq_false_iff_ne.mpr c31
                          have c31b1 : (a0 != 2) = true := bne_iff_ne.mpr c31
                          by_cases c46 : a0 = 3
                          · rw [if_pos c46] at H
                            have c46b0 : (a0 == 3) = true := beq_iff_eq.mpr c46
                            have c46b1 : (a0 != 3) = false := bne_eq_false_iff_eq.mpr c46
                            clear c46
                            by_cases c47 : t562 = 0
                            · rw [if_pos c47] at H
                              have c47b0 : (t562 == 0) = true := beq_iff_eq.mpr c47
                              have c47b1 : (t562 != 0) = false := bne_eq_false_iff_eq.mpr c47
                              clear c47
                              by_cases c48 : x7_3.length < 2513169434916
                              · rw [if_pos c48] at H
                                have LMc48 := Aside0.mk c48
                                clear c48
                                obtain ⟨y577, hy577⟩ : ∃ y_ : List (S98), y_ = (x7_3 ++ [(⟨(⟨((rd_T75 l1 x16_1).f0), ((rd_T75 l1 x16_1).f1), ((rd_T75 l1 x16_1).f2)⟩ : S75), (⟨0, 0, 0⟩ : S75), false⟩ : S98)]) := ⟨_, rfl⟩
                                replace H : (impl_ReferenceJoin.l0 k3 a0 l2 y577 l1 (l1.length : Int) (wrap64 (x16_1 + 1))) = some r := by first | (rw [hy577]; with_reducible exact H) | (have H2_ := (Option.bind_some _ _).symm.trans H; rw [hy577]; with_reducible exact H2_) | (have H2_ := (Option.bind_some _ _).symm.trans H; with_reducible exact H2_) | with_reducible exact H | (rw [hy577]; exact H) | exact H
                                have Ny577 := Aside0.mk hy577
                                clear hy577
                                have H' := Aside0.mk H
                                clear H
                                obtain ⟨hcz49_0, hcz49_1, hcz49_2⟩ := cells_3 BK561.out
                                obtain ⟨hfz49_0, hfz49_1, hfz49_2⟩ := frz_3 BK561.out
                                go_wp2_with (first | ((with_reducible refine gate_builtin (b := .append) (xs := #[.tmp 69, .tmp 72]) rfl ?_); at_builtin; refine Kd.R_append k98 (w0 := w) w.heap.size rfl (.tmp 69) (.tmp 72) 50 98 (.agg #[(.int .i64 0), (.int .i64 0), (.int .i64 0), (.int .i64 0), (.int .i64 0), (.int .i64 0), (.bool false)]) 56 rfl Try.underlying50 info98 rfl (by decide) (by omega) u7 x7_3 (⟨(⟨((rd_T75 l1 x16_1).f0), ((rd_T75 l1 x16_1).f1), ((rd_T75 l1 x16_1).f2)⟩ : S75), (⟨0, 0, 0⟩ : S75), false⟩ : S98) [.int .i64 ((rd_T75 l1 x16_1).f0), .int .i64 ((rd_T75 l1 x16_1).f1), .int .i64 ((rd_T75 l1 x16_1).f2), .int .i64 0, .int .i64 0, .int .i64 0, .bool false] (fun _ => True) (fun _ => False) rfl rfl ?aP (fun _ hk => hk.elim) ?aF ?aO ?aB ?aS ?aL ?_; (case aP => exact k98_mkM _ _ _ (⟨(⟨((rd_T75 l1 x16_1).f0), ((rd_T75 l1 x16_1).f1), ((rd_T75 l1 x16_1).f2)⟩ : S75), (⟨0, 0, 0⟩ : S75), false⟩ : S98)); (case aB => exact (by repeat (first | (with_reducible first | exact HB.out | apply below_alloc | apply pw_below_drewN | apply below_drew1 | refine below_set ?_ GE561.out) | exact HB.out))); (case aF => exact (fun _ _ => trivial)); (case aO => exact (by (with_reducible repeat (first | apply Kd.R_alloc | apply Kd.R_drewN | apply Kd.R_drew)); exact HO_7.out)); (case aS => exact (below_size (by repeat (first | (with_reducible first | exact HB.out | apply below_alloc | apply pw_below_drewN | apply below_drew1 | refine below_set ?_ GE561.out) | exact HB.out)))); (case aL => have := LMc48.out; omega); intro v578 w50 ho hb hg hat; rw [← Ny577.out] at ho; have n0_ := Aside0.mk (blk_grown (g := gb561) (o := .cells #[.int .i64 ((rd_T75 l1 x16_1).f0), .int .i64 ((rd_T75 l1 x16_1).f1), .int .i64 ((rd_T75 l1 x16_1).f2)] 75 (0, 0)) (by (with_reducible repeat (first | refine blk_drewN ?_ _ | refine blk_drew ?_ | refine blk_alloc ?_ _)); exact BK561.out) hg (Kd.R_ne HO_7.out BK561.out (by decide))); have n1_ := Aside0.mk (hb); have n2_ := Aside0.mk (ho); clear BK561; clear HB; clear HO_7; have BK561 := n0_; have HB := n1_; have HO579 := n2_; clear n0_ n1_ n2_; clear ho hb hg hat))
                                go_roundg k3
                                case measure => have := HK1.out; have := HJ9.out; have := HK3.out; omega
                                case rel => exact ⟨(y577), (wrap64 (x16_1 + 1)), (by first | rfl | (simp; done) | (simp [*]; done)), H', ⟨by have := HK1.out; have := HJ9.out; have := HK3.out; omega⟩, ⟨by (with_reducible repeat (first | apply Kd.R_alloc | apply Kd.R_drewN | apply Kd.R_drew)); exact HO579.out⟩, ⟨by repeat (first | (with_reducible first | exact HB.out | apply below_alloc | apply pw_below_drewN | apply below_drew1 | refine below_set ?_ GE561.out) | exact HB.out)⟩⟩
                              · rw [if_neg c48] at H
                                exact absurd H (by simp)
                            · rw [if_neg c47] at H
                              have c47b0 : (t562 == 0) = false := beq_eq_false_iff_ne.mpr c47
                              have c47b1 : (t562 != 0) = true := bne_iff_ne.mpr c47
                              have H' := Aside0.mk H
                              clear H
                              go_wp2
                              go_roundg k3
                              case measure => have := HK1.out; have := HJ9.out; have := HK3.out; omega
                              case rel => exact ⟨(x7_3), (wrap64 (x16_1 + 1)), (by first | rfl | (simp; done) | (simp [*]; done)), H', ⟨by have := HK1.out; have := HJ9.out; have := HK3.out; omega⟩, ⟨by (with_reducible repeat (first | apply Kd.R_alloc | apply Kd.R_drewN | apply Kd.R_drew)); exact HO_7.out⟩, ⟨by repeat (first | (with_reducible first | exact HB.out | apply below_alloc | apply pw_below_drewN | apply below_drew1 | refine below_set ?_ GE561.out) | exact HB.out)⟩⟩
                          · rw [if_neg c46] at H
                            have c46b0 : (a0 == 3) = false := beq_eq_false_iff_ne.mpr c46
                            have c46b1 : (a0 != 3) = true := bne_iff_ne.mpr c46
                            by_cases c51 : a0 = 4
                            · rw [if_pos c51] at H
                              have c51b0 : (a0 == 4) = true := beq_iff_eq.mpr c51
                              have c51b1 : (a0 != 4) = false := bne_eq_false_iff_eq.mpr c51
                              clear c51
                              by_cases c52 : t562 = 0
                              · rw [if_pos c52] at H
                                have c52b0 : (t562 == 0) = true := beq_iff_eq.mpr c52
                                have c52b1 : (t562 != 0) = false := bne_eq_false_iff_eq.mpr c52
                                clear c52
                                by_cases c53 : x7_3.length < 2513169434916
                                · rw [if_pos c53] at H
                                  have LMc53 := Aside0.mk c53
                                  clear c53
                                  obtain ⟨y580, hy580⟩ : ∃ y_ : List (S98), y_ = (x7_3 ++ [(⟨(⟨((rd_T75 l1 x16_1).f0), ((rd_T75 l1 x16_1).f1), ((rd_T75 l1 x16_1).f2)⟩ : S75), (⟨0, 0, 0⟩ : S75), false⟩ : S98)]) := ⟨_, rfl⟩
                                  replace H : (impl_ReferenceJoin.l0 k3 a0 l2 y580 l1 (l1.length : Int) (wrap64 (x16_1 + 1))) = some r := by first | (rw [hy580]; with_reducible exact H) | (have H2_ := (Option.bind_some _ _).symm.trans H; rw [hy580]; with_reducible exact H2_) | (have H2_ := (Option.bind_some _ _).symm.trans H; with_reducible exact H2_) | with_reducible exact H | (rw [hy580]; exact H) | exact H
                                  have Ny580 := Aside0.mk hy580
                                  clear hy580
                                  have H' := Aside0.mk H
                                  clear H
                                  obtain ⟨hcz54_0, hcz54_1, hcz54_2⟩ := cells_3 BK561.out
                                  obtain ⟨hfz54_0, hfz54_1, hfz54_2⟩ := frz_3 BK561.out
                                  go_wp2_with (first | ((with_reducible refine gate_builtin (b := .append) (xs := #[.tmp 69, .tmp 72]) rfl ?_); at_builtin; refine Kd.R_append k98 (w0 := w) w.heap.size rfl (.tmp 69) (.tmp 72) 50 98 (.agg #[(.int .i64 0), (.int .i64 0), (.int .i64 0), (.int .i64 0), (.int .i64 0), (.int .i64 0), (.bool false)]) 56 rfl Try.underlying50 info98 rfl (by decide) (by omega) u7 x7_3 (⟨(⟨((rd_T75 l1 x16_1).f0), ((rd_T75 l1 x16_1).f1), ((rd_T75 l1 x16_1).f2)⟩ : S75), (⟨0, 0, 0⟩ : S75), false⟩ : S98) [.int .i64 ((rd_T75 l1 x16_1).f0), .int .i64 ((rd_T75 l1 x16_1).f1), .int .i64 ((rd_T75 l1 x16_1).f2), .int .i64 0, .int .i64 0, .int .i64 0, .bool false] (fun _ => True) (fun _ => False) rfl rfl ?aP (fun _ hk => hk.elim) ?aF ?aO ?aB ?aS ?aL ?_; (case aP => exact k98_mkM _ _ _ (⟨(⟨((rd_T75 l1 x16_1).f0), ((rd_T75 l1 x16_1).f1), ((rd_T75 l1 x16_1).f2)⟩ : S75), (⟨0, 0, 0⟩ : S75), false⟩ : S98)); (case aB => exact (by repeat (first | (with_reducible first | exact HB.out | apply below_alloc | apply pw_below_drewN | apply below_drew1 | refine below_set ?_ GE561.out) | exact HB.out))); (case aF => exact (fun _ _ => trivial)); (case aO => exact (by (with_reducible repeat (first | apply Kd.R_alloc | apply Kd.R_drewN | apply Kd.R_drew)); exact HO_7.out)); (case aS => exact (below_size (by repeat (first | (with_reducible first | exact HB.out | apply below_alloc | apply pw_below_drewN | apply below_drew1 | refine below_set ?_ GE561.out) | exact HB.out)))); (case aL => have := LMc53.out; omega); intro v581 w55 ho hb hg hat; rw [← Ny580.out] at ho; have n0_ := Aside0.mk (blk_grown (g := gb561) (o := .cells #[.int .i64 ((rd_T75 l1 x16_1).f0), .int .i64 ((rd_T75 l1 x16_1).f1), .int .i64 ((rd_T75 l1 x16_1).f2)] 75 (0, 0)) (by (with_reducible repeat (first | refine blk_drewN ?_ _ | refine blk_drew ?_ | refine blk_alloc ?_ _)); exact BK561.out) hg (Kd.R_ne HO_7.out BK561.out (by decide))); have n1_ := Aside0.mk (hb); have n2_ := Aside0.mk (ho); clear BK561; clear HB; clear HO_7; have BK561 := n0_; have HB := n1_; have HO582 := n2_; clear n0_ n1_ n2_; clear ho hb hg hat))
                                  go_roundg k3
                                  case measure => have := HK1.out; have := HJ9.out; have := HK3.out; omega
                                  case rel => exact ⟨(y580), (wrap64 (x16_1 + 1)), (by first | rfl | (simp; done) | (simp [*]; done)), H', ⟨by have := HK1.out; have := HJ9.out; have := HK3.out; omega⟩, ⟨by (with_reducible repeat (first | apply Kd.R_alloc | apply Kd.R_drewN | apply Kd.R_drew)); exact HO582.out⟩, ⟨by repeat (first | (with_reducible first | exact HB.out | apply below_alloc | apply pw_below_drewN | apply below_drew1 | refine below_set ?_ GE561.out) | exact HB.out)⟩⟩
                                · rw [if_neg c53] at H
                                  exact absurd H (by simp)
                              · rw [if_neg c52] at H
                                have c52b0 : (t562 == 0) = false := beq_eq_false_iff_ne.mpr c52
                                have c52b1 : (t562 != 0) = true := bne_iff_ne.mpr c52
                                have H' := Aside0.mk H
                                clear H
                                go_wp2
                                go_roundg k3
                                case measure => have := HK1.out; have := HJ9.out; have := HK3.out; omega
                                case rel => exact ⟨(x7_3), (wrap64 (x16_1 + 1)), (by first | rfl | (simp; done) | (simp [*]; done)), H', ⟨by have := HK1.out; have := HJ9.out; have := HK3.out; omega⟩, ⟨by (with_reducible repeat (first | apply Kd.R_alloc | apply Kd.R_drewN | apply Kd.R_drew)); exact HO_7.out⟩, ⟨by repeat (first | (with_reducible first | exact HB.out | apply below_alloc | apply pw_below_drewN | apply below_drew1 | refine below_set ?_ GE561.out) | exact HB.out)⟩⟩
                            · rw [if_neg c51] at H
                              have c51b0 : (a0 == 4) = false := beq_eq_false_iff_ne.mpr c51
                              have c51b1 : (a0 != 4) = true := bne_iff_ne.mpr c51
                              have H' := Aside0.mk H
                              clear H
                              go_wp2
                              go_roundg k3
                              case measure => have := HK1.out; have := HJ9.out; have := HK3.out; omega
                              case rel => exact ⟨(x7_3), (wrap64 (x16_1 + 1)), (by first | rfl | (simp; done) | (simp [*]; done)), H', ⟨by have := HK1.out; have := HJ9.out; have := HK3.out; omega⟩, ⟨by (with_reducible repeat (first | apply Kd.R_alloc | apply Kd.R_drewN | apply Kd.R_drew)); exact HO_7.out⟩, ⟨by repeat (first | (with_reducible first | exact HB.out | apply below_alloc | apply pw_below_drewN | apply below_drew1 | refine below_set ?_ GE561.out) | exact HB.out)⟩⟩
                · replace c16 := Bool.eq_false_iff.mpr c16
                  subst c16
                  have H1 : (if a0 = 2 then (if t562 > 0 then (if x7_1.length < 2513169434916 then (impl_ReferenceJoin.l0 kj9 a0 l2 (x7_1 ++ [(⟨(⟨((rd_T75 l1 x16_1).f0), ((rd_T75 l1 x16_1).f1), ((rd_T75 l1 x16_1).f2)⟩ : S75), (⟨0, 0, 0⟩ : S75), false⟩ : S98)]) l1 (l1.length : Int) (wrap64 (x16_1 + 1))) else (none)) else (if a0 = 3 then (if t562 = 0 then (if x7_1.length < 2513169434916 then (impl_ReferenceJoin.l0 kj9 a0 l2 (x7_1 ++ [(⟨(⟨((rd_T75 l1 x16_1).f0), ((rd_T75 l1 x16_1).f1), ((rd_T75 l1 x16_1).f2)⟩ : S75), (⟨0, 0, 0⟩ : S75), false⟩ : S98)]) l1 (l1.length : Int) (wrap64 (x16_1 + 1))) else (none)) else (impl_ReferenceJoin.l0 kj9 a0 l2 x7_1 l1 (l1.length : Int) (wrap64 (x16_1 + 1)))) else (if a0 = 4 then (if t562 = 0 then (if x7_1.length < 2513169434916 then (impl_ReferenceJoin.l0 kj9 a0 l2 (x7_1 ++ [(⟨(⟨((rd_T75 l1 x16_1).f0), ((rd_T75 l1 x16_1).f1), ((rd_T75 l1 x16_1).f2)⟩ : S75), (⟨0, 0, 0⟩ : S75), false⟩ : S98)]) l1 (l1.length : Int) (wrap64 (x16_1 + 1))) else (none)) else (impl_ReferenceJoin.l0 kj9 a0 l2 x7_1 l1 (l1.length : Int) (wrap64 (x16_1 + 1)))) else (impl_ReferenceJoin.l0 kj9 a0 l2 x7_1 l1 (l1.length : Int) (wrap64 (x16_1 + 1)))))) else (if a0 = 3 then (if t562 = 0 then (if x7_1.length < 2513169434916 then (impl_ReferenceJoin.l0 kj9 a0 l2 (x7_1 ++ [(⟨(⟨((rd_T75 l1 x16_1).f0), ((rd_T75 l1 x16_1).f1), ((rd_T75 l1 x16_1).f2)⟩ : S75), (⟨0, 0, 0⟩ : S75), false⟩ : S98)]) l1 (l1.length : Int) (wrap64 (x16_1 + 1))) else (none)) else (impl_ReferenceJoin.l0 kj9 a0 l2 x7_1 l1 (l1.length : Int) (wrap64 (x16_1 + 1)))) else (if a0 = 4 then (if t562 = 0 then (if x7_1.length < 2513169434916 then (impl_ReferenceJoin.l0 kj9 a0 l2 (x7_1 ++ [(⟨(⟨((rd_T75 l1 x16_1).f0), ((rd_T75 l1 x16_1).f1), ((rd_T75 l1 x16_1).f2)⟩ : S75), (⟨0, 0, 0⟩ : S75), false⟩ : S98)]) l1 (l1.length : Int) (wrap64 (x16_1 + 1))) else (none)) else (impl_ReferenceJoin.l0 kj9 a0 l2 x7_1 l1 (l1.length : Int) (wrap64 (x16_1 + 1)))) else (impl_ReferenceJoin.l0 kj9 a0 l2 x7_1 l1 (l1.length : Int) (wrap64 (x16_1 + 1)))))) = some r := by rw [if_neg (show ¬ (false = true) by decide)] at H; exact H
                  clear H
                  have H := H1
                  clear H1
                  by_cases c56 : a0 = 2
                  · rw [if_pos c56] at H
                    have c56b0 : (a0 == 2) = true := beq_iff_eq.mpr c56
                    have c56b1 : (a0 != 2) = false := bne_eq_false_iff_eq.mpr c56
                    clear c56
                    by_cases c57 : t562 > 0
                    · rw [if_pos c57] at H
                      have c57b0 : decide (0 < t562) = true := decide_eq_true c57
                      clear c57
                      by_cases c58 : x7_1.length < 2513169434916
                      · rw [if_pos c58] at H
                        have LMc58 := Aside0.mk c58
                        clear c58
                        obtain ⟨y583, hy583⟩ : ∃ y_ : List (S98), y_ = (x7_1 ++ [(⟨(⟨((rd_T75 l1 x16_1).f0), ((rd_T75 l1 x16_1).f1), ((rd_T75 l1 x16_1).f2)⟩ : S75), (⟨0, 0, 0⟩ : S75), false⟩ : S98)]) := ⟨_, rfl⟩
                        replace H : (impl_ReferenceJoin.l0 kj9 a0 l2 y583 l1 (l1.length : Int) (wrap64 (x16_1 + 1))) = some r := by first | (rw [hy583]; with_reducible exact H) | (have H2_ := (Option.bind_some _ _).symm.trans H; rw [hy583]; with_reducible exact H2_) | (have H2_ := (Option.bind_some _ _).symm.trans H; with_reducible exact H2_) | with_reducible exact H | (rw [hy583]; exact H) | exact H
                        have Ny583 := Aside0.mk hy583
                        clear hy583
                        have H' := Aside0.mk H
                        clear H
                        obtain ⟨hcz59_0, hcz59_1, hcz59_2⟩ := cells_3 BK561.out
                        obtain ⟨hfz59_0, hfz59_1, hfz59_2⟩ := frz_3 BK561.out
                        go_wp2_with (first | ((with_reducible refine gate_builtin (b := .append) (xs := #[.tmp 69, .tmp 72]) rfl ?_); at_builtin; refine Kd.R_append k98 (w0 := w) w.heap.size rfl (.tmp 69) (.tmp 72) 50 98 (.agg #[(.int .i64 0), (.int .i64 0), (.int .i64 0), (.int .i64 0), (.int .i64 0), (.int .i64 0), (.bool false)]) 56 rfl Try.underlying50 info98 rfl (by decide) (by omega) u7 x7_1 (⟨(⟨((rd_T75 l1 x16_1).f0), ((rd_T75 l1 x16_1).f1), ((rd_T75 l1 x16_1).f2)⟩ : S75), (⟨0, 0, 0⟩ : S75), false⟩ : S98) [.int .i64 ((rd_T75 l1 x16_1).f0), .int .i64 ((rd_T75 l1 x16_1).f1), .int .i64 ((rd_T75 l1 x16_1).f2), .int .i64 0, .int .i64 0, .int .i64 0, .bool false] (fun _ => True) (fun _ => False) rfl rfl ?aP (fun _ hk => hk.elim) ?aF ?aO ?aB ?aS ?aL ?_; (case aP => exact k98_mkM _ _ _ (⟨(⟨((rd_T75 l1 x16_1).f0), ((rd_T75 l1 x16_1).f1), ((rd_T75 l1 x16_1).f2)⟩ : S75), (⟨0, 0, 0⟩ : S75), false⟩ : S98)); (case aB => exact (by repeat (first | (with_reducible first | exact HB.out | apply below_alloc | apply pw_below_drewN | apply below_drew1 | refine below_set ?_ GE561.out) | exact HB.out))); (case aF => exact (fun _ _ => trivial)); (case aO => exact (by (with_reducible repeat (first | apply Kd.R_alloc | apply Kd.R_drewN | apply Kd.R_drew)); exact HO_7.out)); (case aS => exact (below_size (by repeat (first | (with_reducible first | exact HB.out | apply below_alloc | apply pw_below_drewN | apply below_drew1 | refine below_set ?_ GE561.out) | exact HB.out)))); (case aL => have := LMc58.out; omega); intro v584 w60 ho hb hg hat; rw [← Ny583.out] at ho; have n0_ := Aside0.mk (blk_grown (g := gb561) (o := .cells #[.int .i64 ((rd_T75 l1 x16_1).f0), .int .i64 ((rd_T75 l1 x16_1).f1), .int .i64 ((rd_T75 l1 x16_1).f2)] 75 (0, 0)) (by (with_reducible repeat (first | refine blk_drewN ?_ _ | refine blk_drew ?_ | refine blk_alloc ?_ _)); exact BK561.out) hg (Kd.R_ne HO_7.out BK561.out (by decide))); have n1_ := Aside0.mk (hb); have n2_ := Aside0.mk (ho); clear BK561; clear HB; clear HO_7; have BK561 := n0_; have HB := n1_; have HO585 := n2_; clear n0_ n1_ n2_; clear ho hb hg hat))
                        go_roundg kj9
                        case measure => have := HK1.out; have := HJ9.out; omega
                        case rel => exact ⟨(y583), (wrap64 (x16_1 + 1)), (by first | rfl | (simp; done) | (simp [*]; done)), H', ⟨by have := HK1.out; have := HJ9.out; omega⟩, ⟨by (with_reducible repeat (first | apply Kd.R_alloc | apply Kd.R_drewN | apply Kd.R_drew)); exact HO585.out⟩, ⟨by repeat (first | (with_reducible first | exact HB.out | apply below_alloc | apply pw_below_drewN | apply below_drew1 | refine below_set ?_ GE561.out) | exact HB.out)⟩⟩
                      · rw [if_neg c58] at H
                        exact absurd H (by simp)
                    · rw [if_neg c57] at H
                      have c57b0 : decide (0 < t562) = false := decide_eq_false c57
                      clear c57
                      by_cases c61 : a0 = 3
                      · rw [if_pos c61] at H
                        have c61b0 : (a0 == 3) = true := beq_iff_eq.mpr c61
                        have c61b1 : (a0 != 3) = false := bne_eq_false_iff_eq.mpr c61
                        clear c61
                        by_cases c62 : t562 = 0
                        · rw [if_pos c62] at H
                          have c62b0 : (t562 == 0) = true := beq_iff_eq.mpr c62
                          have c62b1 : (t562 != 0) = false := bne_eq_false_iff_eq.mpr c62
                          clear c62
                          by_cases c63 : x7_1.length < 2513169434916
                          · rw [if_pos c63] at H
                            have LMc63 := Aside0.mk c63
                            clear c63
                            obtain ⟨y586, hy586⟩ : ∃ y_ : List (S98), y_ = (x7_1 ++ [(⟨(⟨((rd_T75 l1 x16_1).f0), ((rd_T75 l1 x16_1).f1), ((rd_T75 l1 x16_1).f2)⟩ : S75), (⟨0, 0, 0⟩ : S75), false⟩ : S98)]) := ⟨_, rfl⟩
                            replace H : (impl_ReferenceJoin.l0 kj9 a0 l2 y586 l1 (l1.length : Int) (wrap64 (x16_1 + 1))) = some r := by first | (rw [hy586]; with_reducible exact H) | (have H2_ := (Option.bind_some _ _).symm.trans H; rw [hy586]; with_reducible exact H2_) | (have H2_ := (Option.bind_some _ _).symm.trans H; with_reducible exact H2_) | with_reducible exact H | (rw [hy586]; exact H) | exact H
                            have Ny586 := Aside0.mk hy586
                            clear hy586
                            have H' := Aside0.mk H
                            clear H
                            obtain ⟨hcz64_0, hcz64_1, hcz64_2⟩ := cells_3 BK561.out
                            obtain ⟨hfz64_0, hfz64_1, hfz64_2⟩ := frz_3 BK561.out
                            go_wp2_with (first | ((with_reducible refine gate_builtin (b := .append) (xs := #[.tmp 69, .tmp 72]) rfl ?_); at_builtin; refine Kd.R_append k98 (w0 := w) w.heap.size rfl (.tmp 69) (.tmp 72) 50 98 (.agg #[(.int .i64 0), (.int .i64 0), (.int .i64 0), (.int .i64 0), (.int .i64 0), (.int .i64 0), (.bool false)]) 56 rfl Try.underlying50 info98 rfl (by decide) (by omega) u7 x7_1 (⟨(⟨((rd_T75 l1 x16_1).f0), ((rd_T75 l1 x16_1).f1), ((rd_T75 l1 x16_1).f2)⟩ : S75), (⟨0, 0, 0⟩ : S75), false⟩ : S98) [.int .i64 ((rd_T75 l1 x16_1).f0), .int .i64 ((rd_T75 l1 x16_1).f1), .int .i64 ((rd_T75 l1 x16_1).f2), .int .i64 0, .int .i64 0, .int .i64 0, .bool false] (fun _ => True) (fun _ => False) rfl rfl ?aP (fun _ hk => hk.elim) ?aF ?aO ?aB ?aS ?aL ?_; (case aP => exact k98_mkM _ _ _ (⟨(⟨((rd_T75 l1 x16_1).f0), ((rd_T75 l1 x16_1).f1), ((rd_T75 l1 x16_1).f2)⟩ : S75), (⟨0, 0, 0⟩ : S75), false⟩ : S98)); (case aB => exact (by repeat (first | (with_reducible first | exact HB.out | apply below_alloc | apply pw_below_drewN | apply below_drew1 | refine below_set ?_ GE561.out) | exact HB.out))); (case aF => exact (fun _ _ => trivial)); (case aO => exact (by (with_reducible repeat (first | apply Kd.R_alloc | apply Kd.R_drewN | apply Kd.R_drew)); exact HO_7.out)); (case aS => exact (below_size (by repeat (first | (with_reducible first | exact HB.out | apply below_alloc | apply pw_below_drewN | apply below_drew1 | refine below_set ?_ GE561.out) | exact HB.out)))); (case aL => have := LMc63.out; omega); intro v587 w65 ho hb hg hat; rw [← Ny586.out] at ho; have n0_ := Aside0.mk (blk_grown (g := gb561) (o := .cells #[.int .i64 ((rd_T75 l1 x16_1).f0), .int .i64 ((rd_T75 l1 x16_1).f1), .int .i64 ((rd_T75 l1 x16_1).f2)] 75 (0, 0)) (by (with_reducible repeat (first | refine blk_drewN ?_ _ | refine blk_drew ?_ | refine blk_alloc ?_ _)); exact BK561.out) hg (Kd.R_ne HO_7.out BK561.out (by decide))); have n1_ := Aside0.mk (hb); have n2_ := Aside0.mk (ho); clear BK561; clear HB; clear HO_7; have BK561 := n0_; have HB := n1_; have HO588 := n2_; clear n0_ n1_ n2_; clear ho hb hg hat))
                            go_roundg kj9
                            case measure => have := HK1.out; have := HJ9.out; omega
                            case rel => exact ⟨(y586), (wrap64 (x16_1 + 1)), (by first | rfl | (simp; done) | (simp [*]; done)), H', ⟨by have := HK1.out; have := HJ9.out; omega⟩, ⟨by (with_reducible repeat (first | apply Kd.R_alloc | apply Kd.R_drewN | apply Kd.R_drew)); exact HO588.out⟩, ⟨by repeat (first | (with_reducible first | exact HB.out | apply below_alloc | apply pw_below_drewN | apply below_drew1 | refine below_set ?_ GE561.out) | exact HB.out)⟩⟩
                          · rw [if_neg c63] at H
                            exact absurd H (by simp)
                        · rw [if_neg c62] at H
                          have c62b0 : (t562 == 0) = false := beq_eq_false_iff_ne.mpr c62
                          have c62b1 : (t562 != 0) = true := bne_iff_ne.mpr c62
                          have H' := Aside0.mk H
                          clear H
                          go_wp2
                          go_roundg kj9
                          case measure => have := HK1.out; have := HJ9.out; omega
                          case rel => exact ⟨(x7_1), (wrap64 (x16_1 + 1)), (by first | rfl | (simp; done) | (simp [*]; done)), H', ⟨by have := HK1.out; have := HJ9.out; omega⟩, ⟨by (with_reducible repeat (first | apply Kd.R_alloc | apply Kd.R_drewN | apply Kd.R_drew)); exact HO_7.out⟩, ⟨by repeat (first | (with_reducible first | exact HB.out | apply below_alloc | apply pw_below_drewN | apply below_drew1 | refine below_set ?_ GE561.out) | exact HB.out)⟩⟩
                      · rw [if_neg c61] at H
                        have c61b0 : (a0 == 3) = false := beq_eq_false_iff_ne.mpr c61
                        have c61b1 : (a0 != 3) = true := bne_iff_ne.mpr c61
                        by_cases c66 : a0 = 4
                        · rw [if_pos c66] at H
                          have c66b0 : (a0 == 4) = true := beq_iff_eq.mpr c66
                          have c66b1 : (a0 != 4) = false := bne_eq_false_iff_eq.mpr c66
                          clear c66
                          by_cases c67 : t562 = 0
                          · rw [if_pos c67] at H
                            have c67b0 : (t562 == 0) = true := beq_iff_eq.mpr c67
                            have c67b1 : (t562 != 0) = false := bne_eq_false_iff_eq.mpr c67
                            clear c67
                            by_cases c68 : x7_1.length < 2513169434916
                            · rw [if_pos c68] at H
                              have LMc68 := Aside0.mk c68
                              clear c68
                              obtain ⟨y589, hy589⟩ : ∃ y_ : List (S98), y_ = (x7_1 ++ [(⟨(⟨((rd_T75 l1 x16_1).f0), ((rd_T75 l1 x16_1).f1), ((rd_T75 l1 x16_1).f2)⟩ : S75), (⟨0, 0, 0⟩ : S75), false⟩ : S98)]) := ⟨_, rfl⟩
                              replace H : (impl_ReferenceJoin.l0 kj9 a0 l2 y589 l1 (l1.length : Int) (wrap64 (x16_1 + 1))) = some r := by first | (rw [hy589]; with_reducible exact H) | (have H2_ := (Option.bind_some _ _).symm.trans H; rw [hy589]; with_reducible exact H2_) | (have H2_ := (Option.bind_some _ _).symm.trans H; with_reducible exact H2_) | with_reducible exact H | (rw [hy589]; exact H) | exact H
                              have Ny589 := Aside0.mk hy589
                              clear hy589
                              have H' := Aside0.mk H
                              clear H
                              obtain ⟨hcz69_0, hcz69_1, hcz69_2⟩ := cells_3 BK561.out
                              obtain ⟨hfz69_0, hfz69_1, hfz69_2⟩ := frz_3 BK561.out
                              go_wp2_with (first | ((with_reducible refine gate_builtin (b := .append) (xs := #[.tmp 69, .tmp 72]) rfl ?_); at_builtin; refine Kd.R_append k98 (w0 := w) w.heap.size rfl (.tmp 69) (.tmp 72) 50 98 (.agg #[(.int .i64 0), (.int .i64 0), (.int .i64 0), (.int .i64 0), (.int .i64 0), (.int .i64 0), (.bool false)]) 56 rfl Try.underlying50 info98 rfl (by decide) (by omega) u7 x7_1 (⟨(⟨((rd_T75 l1 x16_1).f0), ((rd_T75 l1 x16_1).f1), ((rd_T75 l1 x16_1).f2)⟩ : S75), (⟨0, 0, 0⟩ : S75), false⟩ : S98) [.int .i64 ((rd_T75 l1 x16_1).f0), .int .i64 ((rd_T75 l1 x16_1).f1), .int .i64 ((rd_T75 l1 x16_1).f2), .int .i64 0, .int .i64 0, .int .i64 0, .bool false] (fun _ => True) (fun _ => False) rfl rfl ?aP (fun _ hk => hk.elim) ?aF ?aO ?aB ?aS ?aL ?_; (case aP => exact k98_mkM _ _ _ (⟨(⟨((rd_T75 l1 x16_1).f0), ((rd_T75 l1 x16_1).f1), ((rd_T75 l1 x16_1).f2)⟩ : S75), (⟨0, 0, 0⟩ : S75), false⟩ : S98)); (case aB => exact (by repeat (first | (with_reducible first | exact HB.out | apply below_alloc | apply pw_below_drewN | apply below_drew1 | refine below_set ?_ GE561.out) | exact HB.out))); (case aF => exact (fun _ _ => trivial)); (case aO => exact (by (with_reducible repeat (first | apply Kd.R_alloc | apply Kd.R_drewN | apply Kd.R_drew)); exact HO_7.out)); (case aS => exact (below_size (by repeat (first | (with_reducible first | exact HB.out | apply below_alloc | apply pw_below_drewN | apply below_drew1 | refine below_set ?_ GE561.out) | exact HB.out)))); (case aL => have := LMc68.out; omega); intro v590 w70 ho hb hg hat; rw [← Ny589.out] at ho; have n0_ := Aside0.mk (blk_grown (g := gb561) (o := .cells #[.int .i64 ((rd_T75 l1 x16_1).f0), .int .i64 ((rd_T75 l1 x16_1).f1), .int .i64 ((rd_T75 l1 x16_1).f2)] 75 (0, 0)) (by (with_reducible repeat (first | refine blk_drewN ?_ _ | refine blk_drew ?_ | refine blk_alloc ?_ _)); exact BK561.out) hg (Kd.R_ne HO_7.out BK561.out (by decide))); have n1_ := Aside0.mk (hb); have n2_ := Aside0.mk (ho); clear BK561; clear HB; clear HO_7; have BK561 := n0_; have HB := n1_; have HO591 := n2_; clear n0_ n1_ n2_; clear ho hb hg hat))
                              go_roundg kj9
                              case measure => have := HK1.out; have := HJ9.out; omega
                              case rel => exact ⟨(y589), (wrap64 (x16_1 + 1)), (by first | rfl | (simp; done) | (simp [*]; done)), H', ⟨by have := HK1.out; have := HJ9.out; omega⟩, ⟨by (with_reducible repeat (first | apply Kd.R_alloc | apply Kd.R_drewN | apply Kd.R_drew)); exact HO591.out⟩, ⟨by repeat (first | (with_reducible first | exact HB.out | apply below_alloc | apply pw_below_drewN | apply below_drew1 | refine below_set ?_ GE561.out) | exact HB.out)⟩⟩
                            · rw [if_neg c68] at H
                              exact absurd H (by simp)
                          · rw [if_neg c67] at H
                            have c67b0 : (t562 == 0) = false := beq_eq_false_iff_ne.mpr c67
                            have c67b1 : (t562 != 0) = true := bne_iff_ne.mpr c67
                            have H' := Aside0.mk H
                            clear H
                            go_wp2
                            go_roundg kj9
                            case measure => have := HK1.out; have := HJ9.out; omega
                            case rel => exact ⟨(x7_1), (wrap64 (x16_1 + 1)), (by first | rfl | (simp; done) | (simp [*]; done)), H', ⟨by have := HK1.out; have := HJ9.out; omega⟩, ⟨by (with_reducible repeat (first | apply Kd.R_alloc | apply Kd.R_drewN | apply Kd.R_drew)); exact HO_7.out⟩, ⟨by repeat (first | (with_reducible first | exact HB.out | apply below_alloc | apply pw_below_drewN | apply below_drew1 | refine below_set ?_ GE561.out) | exact HB.out)⟩⟩
                        · rw [if_neg c66] at H
                          have c66b0 : (a0 == 4) = false := beq_eq_false_iff_ne.mpr c66
                          have c66b1 : (a0 != 4) = true := bne_iff_ne.mpr c66
                          have H' := Aside0.mk H
                          clear H
                          go_wp2
                          go_roundg kj9
                          case measure => have := HK1.out; have := HJ9.out; omega
                          case rel => exact ⟨(x7_1), (wrap64 (x16_1 + 1)), (by first | rfl | (simp; done) | (simp [*]; done)), H', ⟨by have := HK1.out; have := HJ9.out; omega⟩, ⟨by (with_reducible repeat (first | apply Kd.R_alloc | apply Kd.R_drewN | apply Kd.R_drew)); exact HO_7.out⟩, ⟨by repeat (first | (with_reducible first | exact HB.out | apply below_alloc | apply pw_below_drewN | apply below_drew1 | refine below_set ?_ GE561.out) | exact HB.out)⟩⟩
                  · rw [if_neg c56] at H
                    have c56b0 : (a0 == 2) = false := beq_eq_false_iff_ne.mpr c56
                    have c56b1 : (a0 != 2) = true := bne_iff_ne.mpr c56
                    by_cases c71 : a0 = 3
                    · rw [if_pos c71] at H
                      have c71b0 : (a0 == 3) = true := beq_iff_eq.mpr c71
                      have c71b1 : (a0 != 3) = false := bne_eq_false_iff_eq.mpr c71
                      clear c71
                      by_cases c72 : t562 = 0
                      · rw [if_pos c72] at H
                        have c72b0 : (t562 == 0) = true := beq_iff_eq.mpr c72
                        have c72b1 : (t562 != 0) = false := bne_eq_false_iff_eq.mpr c72
                        clear c72
                        by_cases c73 : x7_1.length < 2513169434916
                        · rw [if_pos c73] at H
                          have LMc73 := Aside0.mk c73
                          clear c73
                          obtain ⟨y592, hy592⟩ : ∃ y_ : List (S98), y_ = (x7_1 ++ [(⟨(⟨((rd_T75 l1 x16_1).f0), ((rd_T75 l1 x16_1).f1), ((rd_T75 l1 x16_1).f2)⟩ : S75), (⟨0, 0, 0⟩ : S75), false⟩ : S98)]) := ⟨_, rfl⟩
                          replace H : (impl_ReferenceJoin.l0 kj9 a0 l2 y592 l1 (l1.length : Int) (wrap64 (x16_1 + 1))) = some r := by first | (rw [hy592]; with_reducible exact H) | (have H2_ := (Option.bind_some _ _).symm.trans H; rw [hy592]; with_reducible exact H2_) | (have H2_ := (Option.bind_some _ _).symm.trans H; with_reducible exact H2_) | with_reducible exact H | (rw [hy592]; exact H) | exact H
                          have Ny592 := Aside0.mk hy592
                          clear hy592
                          have H' := Aside0.mk H
                          clear H
                          obtain ⟨hcz74_0, hcz74_1, hcz74_2⟩ := cells_3 BK561.out
                          obtain ⟨hfz74_0, hfz74_1, hfz74_2⟩ := frz_3 BK561.out
                          go_wp2_with (first | ((with_reducible refine gate_builtin (b := .append) (xs := #[.tmp 69, .tmp 72]) rfl ?_); at_builtin; refine Kd.R_append k98 (w0 := w) w.heap.size rfl (.tmp 69) (.tmp 72) 50 98 (.agg #[(.int .i64 0), (.int .i64 0), (.int .i64 0), (.int .i64 0), (.int .i64 0), (.int .i64 0), (.bool false)]) 56 rfl Try.underlying50 info98 rfl (by decide) (by omega) u7 x7_1 (⟨(⟨((rd_T75 l1 x16_1).f0), ((rd_T75 l1 x16_1).f1), ((rd_T75 l1 x16_1).f2)⟩ : S75), (⟨0, 0, 0⟩ : S75), false⟩ : S98) [.int .i64 ((rd_T75 l1 x16_1).f0), .int .i64 ((rd_T75 l1 x16_1).f1), .int .i64 ((rd_T75 l1 x16_1).f2), .int .i64 0, .int .i64 0, .int .i64 0, .bool false] (fun _ => True) (fun _ => False) rfl rfl ?aP (fun _ hk => hk.elim) ?aF ?aO ?aB ?aS ?aL ?_; (case aP => exact k98_mkM _ _ _ (⟨(⟨((rd_T75 l1 x16_1).f0), ((rd_T75 l1 x16_1).f1), ((rd_T75 l1 x16_1).f2)⟩ : S75), (⟨0, 0, 0⟩ : S75), false⟩ : S98)); (case aB => exact (by repeat (first | (with_reducible first | exact HB.out | apply below_alloc | apply pw_below_drewN | apply below_drew1 | refine below_set ?_ GE561.out) | exact HB.out))); (case aF => exact (fun _ _ => trivial)); (case aO => exact (by (with_reducible repeat (first | apply Kd.R_alloc | apply Kd.R_drewN | apply Kd.R_drew)); exact HO_7.out)); (case aS => exact (below_size (by repeat (first | (with_reducible first | exact HB.out | apply below_alloc | apply pw_below_drewN | apply below_drew1 | refine below_set ?_ GE561.out) | exact HB.out)))); (case aL => have := LMc73.out; omega); intro v593 w75 ho hb hg hat; rw [← Ny592.out] at ho; have n0_ := Aside0.mk (blk_grown (g := gb561) (o := .cells #[.int .i64 ((rd_T75 l1 x16_1).f0), .int .i64 ((rd_T75 l1 x16_1).f1), .int .i64 ((rd_T75 l1 x16_1).f2)] 75 (0, 0)) (by (with_reducible repeat (first | refine blk_drewN ?_ _ | refine blk_drew ?_ | refine blk_alloc ?_ _)); exact BK561.out) hg (Kd.R_ne HO_7.out BK561.out (by decide))); have n1_ := Aside0.mk (hb); have n2_ := Aside0.mk (ho); clear BK561; clear HB; clear HO_7; have BK561 := n0_; have HB := n1_; have HO594 := n2_; clear n0_ n1_ n2_; clear ho hb hg hat))
                          go_roundg kj9
                          case measure => have := HK1.out; have := HJ9.out; omega
                          case rel => exact ⟨(y592), (wrap64 (x16_1 + 1)), (by first | rfl | (simp; done) | (simp [*]; done)), H', ⟨by have := HK1.out; have := HJ9.out; omega⟩, ⟨by (with_reducible repeat (first | apply Kd.R_alloc | apply Kd.R_drewN | apply Kd.R_drew)); exact HO594.out⟩, ⟨by repeat (first | (with_reducible first | exact HB.out | apply below_alloc | apply pw_below_drewN | apply below_drew1 | refine below_set ?_ GE561.out) | exact HB.out)⟩⟩
                        · rw [if_neg c73] at H
                          exact absurd H (by simp)
                      · rw [if_neg c72] at H
                        have c72b0 : (t562 == 0) = false := beq_eq_false_iff_ne.mpr c72
                        have c72b1 : (t562 != 0) = true := bne_iff_ne.mpr c72
                        have H' := Aside0.mk H
                        clear H
                        go_wp2
                        go_roundg kj9
                        case measure => have := HK1.out; have := HJ9.out; omega
                        case rel => exact ⟨(x7_1), (wrap64 (x16_1 + 1)), (by first | rfl | (simp; done) | (simp [*]; done)), H', ⟨by have := HK1.out; have := HJ9.out; omega⟩, ⟨by (with_reducible repeat (first | apply Kd.R_alloc | apply Kd.R_drewN | apply Kd.R_drew)); exact HO_7.out⟩, ⟨by repeat (first | (with_reducible first | exact HB.out | apply below_alloc | apply pw_below_drewN | apply below_drew1 | refine below_set ?_ GE561.out) | exact HB.out)⟩⟩
                    · rw [if_neg c71] at H
                      have c71b0 : (a0 == 3) = false := beq_eq_false_iff_ne.mpr c71
                      have c71b1 : (a0 != 3) = true := bne_iff_ne.mpr c71
                      by_cases c76 : a0 = 4
                      · rw [if_pos c76] at H
                        have c76b0 : (a0 == 4) = true := beq_iff_eq.mpr c76
                        have c76b1 : (a0 != 4) = false := bne_eq_false_iff_eq.mpr c76
                        clear c76
                        by_cases c77 : t562 = 0
                        · rw [if_pos c77] at H
                          have c77b0 : (t562 == 0) = true := beq_iff_eq.mpr c77
                          have c77b1 : (t562 != 0) = false := bne_eq_false_iff_eq.mpr c77
                          clear c77
                          by_cases c78 : x7_1.length < 2513169434916
                          · rw [if_pos c78] at H
                            have LMc78 := Aside0.mk c78
                            clear c78
                            obtain ⟨y595, hy595⟩ : ∃ y_ : List (S98), y_ = (x7_1 ++ [(⟨(⟨((rd_T75 l1 x16_1).f0), ((rd_T75 l1 x16_1).f1), ((rd_T75 l1 x16_1).f2)⟩ : S75), (⟨0, 0, 0⟩ : S75), false⟩ : S98)]) := ⟨_, rfl⟩
                            replace H : (impl_ReferenceJoin.l0 kj9 a0 l2 y595 l1 (l1.length : Int) (wrap64 (x16_1 + 1))) = some r := by first | (rw [hy595]; with_reducible exact H) | (have H2_ := (Option.bind_some _ _).symm.trans H; rw [hy595]; with_reducible exact H2_) | (have H2_ := (Option.bind_some _ _).symm.trans H; with_reducible exact H2_) | with_reducible exact H | (rw [hy595]; exact H) | exact H
                            have Ny595 := Aside0.mk hy595
                            clear hy595
                            have H' := Aside0.mk H
                            clear H
                            obtain ⟨hcz79_0, hcz79_1, hcz79_2⟩ := cells_3 BK561.out
                            obtain ⟨hfz79_0, hfz79_1, hfz79_2⟩ := frz_3 BK561.out
                            go_wp2_with (first | ((with_reducible refine gate_builtin (b := .append) (xs := #[.tmp 69, .tmp 72]) rfl ?_); at_builtin; refine Kd.R_append k98 (w0 := w) w.heap.size rfl (.tmp 69) (.tmp 72) 50 98 (.agg #[(.int .i64 0), (.int .i64 0), (.int .i64 0), (.int .i64 0), (.int .i64 0), (.int .i64 0), (.bool false)]) 56 rfl Try.underlying50 info98 rfl (by decide) (by omega) u7 x7_1 (⟨(⟨((rd_T75 l1 x16_1).f0), ((rd_T75 l1 x16_1).f1), ((rd_T75 l1 x16_1).f2)⟩ : S75), (⟨0, 0, 0⟩ : S75), false⟩ : S98) [.int .i64 ((rd_T75 l1 x16_1).f0), .int .i64 ((rd_T75 l1 x16_1).f1), .int .i64 ((rd_T75 l1 x16_1).f2), .int .i64 0, .int .i64 0, .int .i64 0, .bool false] (fun _ => True) (fun _ => False) rfl rfl ?aP (fun _ hk => hk.elim) ?aF ?aO ?aB ?aS ?aL ?_; (case aP => exact k98_mkM _ _ _ (⟨(⟨((rd_T75 l1 x16_1).f0), ((rd_T75 l1 x16_1).f1), ((rd_T75 l1 x16_1).f2)⟩ : S75), (⟨0, 0, 0⟩ : S75), false⟩ : S98)); (case aB => exact (by repeat (first | (with_reducible first | exact HB.out | apply below_alloc | apply pw_below_drewN | apply below_drew1 | refine below_set ?_ GE561.out) | exact HB.out))); (case aF => exact (fun _ _ => trivial)); (case aO => exact (by (with_reducible repeat (first | apply Kd.R_alloc | apply Kd.R_drewN | apply Kd.R_drew)); exact HO_7.out)); (case aS => exact (below_size (by repeat (first | (with_reducible first | exact HB.out | apply below_alloc | apply pw_below_drewN | apply below_drew1 | refine below_set ?_ GE561.out) | exact HB.out)))); (case aL => have := LMc78.out; omega); intro v596 w80 ho hb hg hat; rw [← Ny595.out] at ho; have n0_ := Aside0.mk (blk_grown (g := gb561) (o := .cells #[.int .i64 ((rd_T75 l1 x16_1).f0), .int .i64 ((rd_T75 l1 x16_1).f1), .int .i64 ((rd_T75 l1 x16_1).f2)] 75 (0, 0)) (by (with_reducible repeat (first | refine blk_drewN ?_ _ | refine blk_drew ?_ | refine blk_alloc ?_ _)); exact BK561.out) hg (Kd.R_ne HO_7.out BK561.out (by decide))); have n1_ := Aside0.mk (hb); have n2_ := Aside0.mk (ho); clear BK561; clear HB; clear HO_7; have BK561 := n0_; have HB := n1_; have HO597 := n2_; clear n0_ n1_ n2_; clear ho hb hg hat))
                            go_roundg kj9
                            case measure => have := HK1.out; have := HJ9.out; omega
                            case rel => exact ⟨(y595), (wrap64 (x16_1 + 1)), (by first | rfl | (simp; done) | (simp [*]; done)), H', ⟨by have := HK1.out; have := HJ9.out; omega⟩, ⟨by (with_reducible repeat (first | apply Kd.R_alloc | apply Kd.R_drewN | apply Kd.R_drew)); exact HO597.out⟩, ⟨by repeat (first | (with_reducible first | exact HB.out | apply below_alloc | apply pw_below_drewN | apply below_drew1 | refine below_set ?_ GE561.out) | exact HB.out)⟩⟩
                          · rw [if_neg c78] at H
                            exact absurd H (by simp)
                        · rw [if_neg c77] at H
                          have c77b0 : (t562 == 0) = false := beq_eq_false_iff_ne.mpr c77
                          have c77b1 : (t562 != 0) = true := bne_iff_ne.mpr c77
                          have H' := Aside0.mk H
                          clear H
                          go_wp2
                          go_roundg kj9
                          case measure => have := HK1.out; have := HJ9.out; omega
                          case rel => exact ⟨(x7_1), (wrap64 (x16_1 + 1)), (by first | rfl | (simp; done) | (simp [*]; done)), H', ⟨by have := HK1.out; have := HJ9.out; omega⟩, ⟨by (with_reducible repeat (first | apply Kd.R_alloc | apply Kd.R_drewN | apply Kd.R_drew)); exact HO_7.out⟩, ⟨by repeat (first | (with_reducible first | exact HB.out | apply below_alloc | apply pw_below_drewN | apply below_drew1 | refine below_set ?_ GE561.out) | exact HB.out)⟩⟩
                      · rw [if_neg c76] at H
                        have c76b0 : (a0 == 4) = false := beq_eq_false_iff_ne.mpr c76
                        have c76b1 : (a0 != 4) = true := bne_iff_ne.mpr c76
                        have H' := Aside0.mk H
                        clear H
                        go_wp2
                        go_roundg kj9
                        case measure => have := HK1.out; have := HJ9.out; omega
                        case rel => exact ⟨(x7_1), (wrap64 (x16_1 + 1)), (by first | rfl | (simp; done) | (simp [*]; done)), H', ⟨by have := HK1.out; have := HJ9.out; omega⟩, ⟨by (with_reducible repeat (first | apply Kd.R_alloc | apply Kd.R_drewN | apply Kd.R_drew)); exact HO_7.out⟩, ⟨by repeat (first | (with_reducible first | exact HB.out | apply below_alloc | apply pw_below_drewN | apply below_drew1 | refine below_set ?_ GE561.out) | exact HB.out)⟩⟩
          · rw [if_neg c8] at H
            exact absurd H (by simp)
        · rw [if_neg c7] at H
          exact absurd H (by simp)
      · rw [if_neg c6] at H
        have c6b0 : decide (x16_1 < (l1.length : Int)) = false := decide_eq_false c6
        clear c6
        obtain rfl := Option.some.inj H
        go_wp2
        go_ret
        exact ⟨_, by first | rfl | (simp [errW_none, errW_some] <;> rfl) | (simp [*, errW_none, errW_some] <;> rfl), by (with_reducible repeat (first | apply Kd.R_alloc | apply Kd.R_drewN | apply Kd.R_drew)); exact HO_7.out, by repeat (first | (with_reducible first | exact HB.out | apply below_alloc | apply pw_below_drewN | apply below_drew1) | exact HB.out)⟩

end Go.Proofs.Ytngeppmincgebaa.P
