-- merged by pack.py out of Px9 Px10 Px12 (words: printed by the kit's print.sh; what this claim does not use is left out)

import Derived.Test.YtkcicbigpbdjpaaKFnExactExternalSort1
namespace Go.Proofs.Ytkcicbigpbdjpaa
abbrev zq2_0 : Array Bool := #[false, false, false, false, false, false, false, false, false, false, false, false, false, false]
abbrev zq2_1 : Array Bool := #[true, false, false, false, false, false, false, false, false, false, false, false, false, false]
abbrev zq2_2 : Array Bool := #[true, true, false, false, false, false, false, false, false, false, false, false, false, false]
abbrev zq2_3 : Array Bool := #[true, true, true, false, false, false, false, false, false, false, false, false, false, false]
abbrev zq2_4 : Array Bool := #[true, true, true, true, false, false, false, false, false, false, false, false, false, false]
abbrev zq2_5 : Array Bool := #[true, true, true, true, true, false, false, false, false, false, false, false, false, false]
abbrev zq2_6 : Array Bool := #[true, true, true, true, true, true, false, false, false, false, false, false, false, false]
abbrev zq2_7 : Array Bool := #[true, true, true, true, true, true, true, true, true, true, false, false, false, false]
abbrev zq2_8 : Array Bool := #[true, true, true, true, true, true, true, true, true, true, true, false, false, false]
abbrev zq2_9 : Array Bool := #[true, true, true, true, true, true, true, true, true, true, true, true, false, false]
abbrev zq2_10 : Array Bool := #[true, true, true, true, true, true, true, true, true, true, true, true, true, false]
abbrev zq2_11 : Array Bool := #[true, true, true, true, true, true, true, true, true, true, true, true, true, true]
abbrev zt2 : Bool := true
abbrev zf2 : Bool := false
section
open Go.RowKit Go.Proofs.YtkcicbigpbdjpaaW.PrintWords Go.Proofs.YtkcicbigpbdjpaaW.PrintLast Go.Proofs.YtkcicbigpbdjpaaW.PrintMore
abbrev z2a := @Aside0.mk
abbrev z2b := @pw_below_drewN
abbrev z2c := @below_drew1
abbrev z2d := @below_alloc
abbrev z2e := @World.block_lt_of_cell?
abbrev z2f := @of_decide_eq_true
abbrev z2g := @decide_eq_true
abbrev z2h := @blk_drewN
abbrev z2i := @blk_alloc
end
theorem zp2a {α : Type} (l : List α) (i : Nat) (a : α) : l.toArray.setIfInBounds i a = (l.set i a).toArray := List.setIfInBounds_toArray l i a
theorem zp2b {α : Type} (x : α) (l : List α) (a : α) : (x :: l).set 0 a = a :: l := List.set_cons_zero
theorem zp2c {α : Type} (x : α) (l : List α) (n : Nat) (a : α) : (x :: l).set (n + 1) a = x :: l.set n a := List.set_cons_succ
end Go.Proofs.Ytkcicbigpbdjpaa
set_option maxHeartbeats 8000000
set_option maxRecDepth 100000
section
namespace Go.Proofs.Ytkcicbigpbdjpaa.P
open Go.RowKit Go.Proofs.YtkcicbigpbdjpaaW.PrintWords Go.Proofs.YtkcicbigpbdjpaaW.PrintLast Go.Proofs.YtkcicbigpbdjpaaW.PrintMore
attribute [local go_sem] max2_int min2_int max_two min_two max_three min_three max_four min_four
set_option linter.unusedVariables false
set_option linter.unusedSimpArgs false
def y_l.l0 : Nat → List Int → List Int → Int → Option (Int)
 | 0, _, _, _ => none
 | k + 1, x5, x6, x7 => if x7 < 3 then (if 0 ≤ x7 then (if x7 < (x5.length : Int) then (if x7 < (x6.length : Int) then (if (rd x5 x7) < (rd x6 x7) then (some (-1)) else (if (rd x5 x7) > (rd x6 x7) then (some 1) else (y_l.l0 k x5 x6 (wrap64 (x7 + 1))))) else (none)) else (none)) else (none)) else (some 0)
def y_l.f (k : Nat) (a0_0 : Int) (a0_1 : Int) (a0_2 : Int) (a1_0 : Int) (a1_1 : Int) (a1_2 : Int) : Option (Int) := y_l.l0 k (([a0_0, a0_1, a0_2] : List Int)) (([a1_0, a1_1, a1_2] : List Int)) 0
theorem y_l.mono_l : ∀ k, (∀ y0 y1 y2, LeO (y_l.l0 k y0 y1 y2) (y_l.l0 (k + 1) y0 y1 y2))
 | 0 => fun _ _ _ r h => by simp [y_l.l0] at h
 | k + 1 => by
  have ih0 := y_l.mono_l k
  ·intro y0 y1 y2
   unfold y_l.l0
   repeat' first
   | (with_reducible exact ih0 _ _ _)
   | (with_reducible exact LeO.refl _)
   | (with_reducible exact LeO.none _)
   | (with_reducible refine LeO.ite ?_ ?_)
   | (with_reducible refine LeO.bind ?_ (fun _ => ?_))
   | exact ih0 _ _ _
   | exact LeO.none _
   | refine LeO.ite ?_ ?_
   | refine LeO.bind ?_ (fun _ => ?_)
theorem y_l.mono : ∀ a0 a1 a2 a3 a4 a5 k, LeO (y_l.f k a0 a1 a2 a3 a4 a5) (y_l.f (k + 1) a0 a1 a2 a3 a4 a5) := by
 intro a0 a1 a2 a3 a4 a5 k
 have ih0 := y_l.mono_l k
 unfold y_l.f
 repeat' first
   | (with_reducible exact ih0 _ _ _)
   | (with_reducible exact LeO.refl _)
   | (with_reducible exact LeO.none _)
   | (with_reducible refine LeO.ite ?_ ?_)
   | (with_reducible refine LeO.bind ?_ (fun _ => ?_))
   | exact ih0 _ _ _
   | exact LeO.none _
   | refine LeO.ite ?_ ?_
   | refine LeO.bind ?_ (fun _ => ?_)
theorem y_l.calls (k : Nat) (a0_0 : Int) (a0_1 : Int) (a0_2 : Int) (a1_0 : Int) (a1_1 : Int) (a1_2 : Int) (r : Int) (w : World) (h : y_l.f k a0_0 a0_1 a0_2 a1_0 a1_1 a1_2 = some r) :
  Calls Try.prog 116 #[.agg #[.int .i64 a0_0, .int .i64 a0_1, .int .i64 a0_2], .agg #[.int .i64 a1_0, .int .i64 a1_1, .int .i64 a1_2]] w fun e w' => e = .returned (.int .i64 r) ∧ Below w.heap.size w w' := by
 have hu71 := Try.underlying71
 have HB := z2a (Below.refl w.heap.size w)
 have H : (y_l.l0 k (([a0_0, a0_1, a0_2] : List Int)) (([a1_0, a1_1, a1_2] : List Int)) 0) = some r := h
 clear h
 obtain ⟨y332, hy332⟩ : ∃ y_ : List Int, y_ = (([a0_0, a0_1, a0_2] : List Int)) := ⟨_, rfl⟩
 replace H : (y_l.l0 k y332 (([a1_0, a1_1, a1_2] : List Int)) 0) = some r := by first | (rw [hy332]; with_reducible exact H) | (have H2_ := (Option.bind_some _ _).symm.trans H; rw [hy332]; with_reducible exact H2_) | (have H2_ := (Option.bind_some _ _).symm.trans H; with_reducible exact H2_) | with_reducible exact H | (rw [hy332]; exact H) | exact H
 have Ny332 := z2a hy332
 clear hy332
 obtain ⟨y335, hy335⟩ : ∃ y_ : List Int, y_ = (([a1_0, a1_1, a1_2] : List Int)) := ⟨_, rfl⟩
 replace H : (y_l.l0 k y332 y335 0) = some r := by first | (rw [hy335]; with_reducible exact H) | (have H2_ := (Option.bind_some _ _).symm.trans H; rw [hy335]; with_reducible exact H2_) | (have H2_ := (Option.bind_some _ _).symm.trans H; with_reducible exact H2_) | with_reducible exact H | (rw [hy335]; exact H) | exact H
 have Ny335 := z2a hy335
 clear hy335
 have H' := z2a H
 clear H
 go_enter Try.func116, Try.ntmps116
 go_wp2_with (first | ((with_reducible refine gate_dst (N := 2) rfl ?_); refine box_event ?hg (N := 2) ?hd (cs := #[.int .i64 a0_0, .int .i64 a0_1, .int .i64 a0_2]) (t := 71) ?hr ?_; (case hd => rfl); (case hg => rfl); (case hr => first | (go_simp; done) | (go_simp; rfl)); intro gb330 hg w3 hbox hb; have n0_ := z2a (below_step (by repeat (first | (with_reducible first | exact HB.out | apply z2d | apply z2b | apply z2c) | exact HB.out)) hb); have n1_ := z2a (hbox); have n2_ := z2a ((by rw [hg]; exact (below_size (by repeat (first | (with_reducible first | exact HB.out | apply z2d | apply z2b | apply z2c) | exact HB.out))) : w.heap.size ≤ gb330)); have n3_ := z2a ((by rw [hg]; exact (below_size (by repeat (first | (with_reducible first | exact HB.out | apply z2d | apply z2b | apply z2c) | exact HB.out))) : w.heap.size ≤ gb330)); clear HB; have HB := n0_; have BK330 := n1_; have GW330 := n2_; have GE330 := n3_; clear n0_ n1_ n2_ n3_; clear hb hbox hg) | ((with_reducible refine gate_dst (N := 3) rfl ?_); refine box_event ?hg (N := 3) ?hd (cs := #[.int .i64 a1_0, .int .i64 a1_1, .int .i64 a1_2]) (t := 71) ?hr ?_; (case hd => rfl); (case hg => rfl); (case hr => first | (go_simp; done) | (go_simp; rfl)); intro gb331 hg w4 hbox hb; have n0_ := z2a (blk_below (g := gb330) (o := .cells #[.int .i64 a0_0, .int .i64 a0_1, .int .i64 a0_2] 71 (0, 0)) (by (with_reducible repeat (first | refine z2h ?_ _ | refine blk_drew ?_ | refine z2i ?_ _)); exact BK330.out) hb); have n1_ := z2a (below_step (by repeat (first | (with_reducible first | exact HB.out | apply z2d | apply z2b | apply z2c | refine below_set ?_ GE330.out) | exact HB.out)) hb); have n2_ := z2a (hbox); have n3_ := z2a ((by rw [hg]; exact (below_size (by repeat (first | (with_reducible first | exact HB.out | apply z2d | apply z2b | apply z2c | refine below_set ?_ GE330.out) | exact HB.out))) : w.heap.size ≤ gb331)); have n4_ := z2a ((by rw [hg]; exact (below_size (by repeat (first | (with_reducible first | exact HB.out | apply z2d | apply z2b | apply z2c | refine below_set ?_ GE330.out) | exact HB.out))) : w.heap.size ≤ gb331)); have n5_ := z2a ((by rw [hg]; exact Nat.ne_of_lt (blk_lt (g := gb330) (o := .cells #[.int .i64 a0_0, .int .i64 a0_1, .int .i64 a0_2] 71 (0, 0)) (by (with_reducible repeat (first | refine z2h ?_ _ | refine blk_drew ?_ | refine z2i ?_ _)); exact BK330.out)) : gb330 ≠ gb331)); have n6_ := z2a ((by rw [hg]; exact Nat.ne_of_gt (blk_lt (g := gb330) (o := .cells #[.int .i64 a0_0, .int .i64 a0_1, .int .i64 a0_2] 71 (0, 0)) (by (with_reducible repeat (first | refine z2h ?_ _ | refine blk_drew ?_ | refine z2i ?_ _)); exact BK330.out)) : gb331 ≠ gb330)); clear BK330; clear HB; have BK330 := n0_; have HB := n1_; have BK331 := n2_; have GW331 := n3_; have GE331 := n4_; have NB330_331 := n5_; have NB331_330 := n6_; clear n0_ n1_ n2_ n3_ n4_ n5_ n6_; clear hb hbox hg; have hnb5 := NB330_331.out; have hnc5 := NB331_330.out; obtain ⟨hcz6_0, hcz6_1, hcz6_2⟩ := cells_3 BK330.out; obtain ⟨hfz6_0, hfz6_1, hfz6_2⟩ := frz_3 BK330.out) | ((with_reducible refine gate_dst (N := 14) rfl ?_); refine Kd.R_lit (Kd.int .i64) _ 3 ?hg (N := 14) ?hd (xs := ([a0_0, a0_1, a0_2] : List Int)) (inner := [.int .i64 a0_0, .int .i64 a0_1, .int .i64 a0_2]) (ok := fun _ => True) (okp := fun _ => True) ?hr ?hp (fun _ hk => hk) trivial (Below.refl _ _) (Nat.le_refl _) (by simp) ?_; (case hd => rfl); (case hg => rfl); (case hr => first | (go_simp; done) | (go_simp; rfl)); (case hp => exact (Reps.one (show Kd.M (Kd.int .i64) _ _ _ a0_0 [.int .i64 a0_0] from rfl) (Reps.one (show Kd.M (Kd.int .i64) _ _ _ a0_1 [.int .i64 a0_1] from rfl) (Reps.one (show Kd.M (Kd.int .i64) _ _ _ a0_2 [.int .i64 a0_2] from rfl) (Reps.none _ _))))); intro v333 w7 ho8 hb hg_ hnew_; clear hg_ hnew_; (first | rw [← Ny332.out] at ho8 | (simp only [Int.reduceToNat] at ho8; rw [← Ny332.out] at ho8)); have n0_ := z2a (Kd.R_lower ho8 (below_size (by repeat (first | (with_reducible first | exact HB.out | apply z2d | apply z2b | apply z2c | refine below_set ?_ GE330.out | refine below_set ?_ GE331.out) | exact HB.out)))); have n1_ := z2a (blk_below (g := gb330) (o := .cells #[.int .i64 a0_0, .int .i64 a0_1, .int .i64 a0_2] 71 (0, 0)) (by (with_reducible repeat (first | refine z2h ?_ _ | refine blk_drew ?_ | refine z2i ?_ _)); exact BK330.out) hb); have n2_ := z2a (blk_below (g := gb331) (o := .cells #[.int .i64 a1_0, .int .i64 a1_1, .int .i64 a1_2] 71 (0, 0)) (by (with_reducible repeat (first | refine z2h ?_ _ | refine blk_drew ?_ | refine z2i ?_ _)); exact BK331.out) hb); have n3_ := z2a (below_step (by repeat (first | (with_reducible first | exact HB.out | apply z2d | apply z2b | apply z2c | refine below_set ?_ GE330.out | refine below_set ?_ GE331.out) | exact HB.out)) hb); clear BK330; clear BK331; clear HB; have HO334 := n0_; have BK330 := n1_; have BK331 := n2_; have HB := n3_; clear n0_ n1_ n2_ n3_; clear hb ho8; obtain ⟨hcz9_0, hcz9_1, hcz9_2⟩ := cells_3 BK331.out; obtain ⟨hfz9_0, hfz9_1, hfz9_2⟩ := frz_3 BK331.out) | ((with_reducible refine gate_dst (N := 21) rfl ?_); refine Kd.R_lit (Kd.int .i64) _ 3 ?hg (N := 21) ?hd (xs := ([a1_0, a1_1, a1_2] : List Int)) (inner := [.int .i64 a1_0, .int .i64 a1_1, .int .i64 a1_2]) (ok := fun _ => True) (okp := fun _ => True) ?hr ?hp (fun _ hk => hk) trivial (Below.refl _ _) (Nat.le_refl _) (by simp) ?_; (case hd => rfl); (case hg => rfl); (case hr => first | (go_simp; done) | (go_simp; rfl)); (case hp => exact (Reps.one (show Kd.M (Kd.int .i64) _ _ _ a1_0 [.int .i64 a1_0] from rfl) (Reps.one (show Kd.M (Kd.int .i64) _ _ _ a1_1 [.int .i64 a1_1] from rfl) (Reps.one (show Kd.M (Kd.int .i64) _ _ _ a1_2 [.int .i64 a1_2] from rfl) (Reps.none _ _))))); intro v336 w10 ho11 hb hg_ hnew_; clear hg_ hnew_; (first | rw [← Ny335.out] at ho11 | (simp only [Int.reduceToNat] at ho11; rw [← Ny335.out] at ho11)); have n0_ := z2a (Kd.R_elder' (by (with_reducible repeat (first | apply Kd.R_alloc | apply Kd.R_drewN | apply Kd.R_drew)); exact HO334.out) (Kd.R_base ho11) hb); have n1_ := z2a (Kd.R_lower (Kd.R_new' ho11 (Kd.R_lt (by (with_reducible repeat (first | apply Kd.R_alloc | apply Kd.R_drewN | apply Kd.R_drew)); exact HO334.out))) (below_size (by repeat (first | (with_reducible first | exact HB.out | apply z2d | apply z2b | apply z2c | refine below_set ?_ GE330.out | refine below_set ?_ GE331.out) | exact HB.out)))); have n2_ := z2a (blk_below (g := gb330) (o := .cells #[.int .i64 a0_0, .int .i64 a0_1, .int .i64 a0_2] 71 (0, 0)) (by (with_reducible repeat (first | refine z2h ?_ _ | refine blk_drew ?_ | refine z2i ?_ _)); exact BK330.out) hb); have n3_ := z2a (blk_below (g := gb331) (o := .cells #[.int .i64 a1_0, .int .i64 a1_1, .int .i64 a1_2] 71 (0, 0)) (by (with_reducible repeat (first | refine z2h ?_ _ | refine blk_drew ?_ | refine z2i ?_ _)); exact BK331.out) hb); have n4_ := z2a (below_step (by repeat (first | (with_reducible first | exact HB.out | apply z2d | apply z2b | apply z2c | refine below_set ?_ GE330.out | refine below_set ?_ GE331.out) | exact HB.out)) hb); clear HO334; clear BK330; clear BK331; clear HB; have HO334 := n0_; have HO337 := n1_; have BK330 := n2_; have BK331 := n3_; have HB := n4_; clear n0_ n1_ n2_ n3_ n4_; clear hb ho11))
 repeat (go_quiet (first | ((with_reducible refine gate_dst (N := 2) rfl ?_); refine box_event ?hg (N := 2) ?hd (cs := #[.int .i64 a0_0, .int .i64 a0_1, .int .i64 a0_2]) (t := 71) ?hr ?_; (case hd => rfl); (case hg => rfl); (case hr => first | (go_simp; done) | (go_simp; rfl)); intro gb330 hg w3 hbox hb; have n0_ := z2a (below_step (by repeat (first | (with_reducible first | exact HB.out | apply z2d | apply z2b | apply z2c) | exact HB.out)) hb); have n1_ := z2a (hbox); have n2_ := z2a ((by rw [hg]; exact (below_size (by repeat (first | (with_reducible first | exact HB.out | apply z2d | apply z2b | apply z2c) | exact HB.out))) : w.heap.size ≤ gb330)); have n3_ := z2a ((by rw [hg]; exact (below_size (by repeat (first | (with_reducible first | exact HB.out | apply z2d | apply z2b | apply z2c) | exact HB.out))) : w.heap.size ≤ gb330)); clear HB; have HB := n0_; have BK330 := n1_; have GW330 := n2_; have GE330 := n3_; clear n0_ n1_ n2_ n3_; clear hb hbox hg) | ((with_reducible refine gate_dst (N := 3) rfl ?_); refine box_event ?hg (N := 3) ?hd (cs := #[.int .i64 a1_0, .int .i64 a1_1, .int .i64 a1_2]) (t := 71) ?hr ?_; (case hd => rfl); (case hg => rfl); (case hr => first | (go_simp; done) | (go_simp; rfl)); intro gb331 hg w4 hbox hb; have n0_ := z2a (blk_below (g := gb330) (o := .cells #[.int .i64 a0_0, .int .i64 a0_1, .int .i64 a0_2] 71 (0, 0)) (by (with_reducible repeat (first | refine z2h ?_ _ | refine blk_drew ?_ | refine z2i ?_ _)); exact BK330.out) hb); have n1_ := z2a (below_step (by repeat (first | (with_reducible first | exact HB.out | apply z2d | apply z2b | apply z2c | refine below_set ?_ GE330.out) | exact HB.out)) hb); have n2_ := z2a (hbox); have n3_ := z2a ((by rw [hg]; exact (below_size (by repeat (first | (with_reducible first | exact HB.out | apply z2d | apply z2b | apply z2c | refine below_set ?_ GE330.out) | exact HB.out))) : w.heap.size ≤ gb331)); have n4_ := z2a ((by rw [hg]; exact (below_size (by repeat (first | (with_reducible first | exact HB.out | apply z2d | apply z2b | apply z2c | refine below_set ?_ GE330.out) | exact HB.out))) : w.heap.size ≤ gb331)); have n5_ := z2a ((by rw [hg]; exact Nat.ne_of_lt (blk_lt (g := gb330) (o := .cells #[.int .i64 a0_0, .int .i64 a0_1, .int .i64 a0_2] 71 (0, 0)) (by (with_reducible repeat (first | refine z2h ?_ _ | refine blk_drew ?_ | refine z2i ?_ _)); exact BK330.out)) : gb330 ≠ gb331)); have n6_ := z2a ((by rw [hg]; exact Nat.ne_of_gt (blk_lt (g := gb330) (o := .cells #[.int .i64 a0_0, .int .i64 a0_1, .int .i64 a0_2] 71 (0, 0)) (by (with_reducible repeat (first | refine z2h ?_ _ | refine blk_drew ?_ | refine z2i ?_ _)); exact BK330.out)) : gb331 ≠ gb330)); clear BK330; clear HB; have BK330 := n0_; have HB := n1_; have BK331 := n2_; have GW331 := n3_; have GE331 := n4_; have NB330_331 := n5_; have NB331_330 := n6_; clear n0_ n1_ n2_ n3_ n4_ n5_ n6_; clear hb hbox hg; have hnb5 := NB330_331.out; have hnc5 := NB331_330.out; obtain ⟨hcz6_0, hcz6_1, hcz6_2⟩ := cells_3 BK330.out; obtain ⟨hfz6_0, hfz6_1, hfz6_2⟩ := frz_3 BK330.out) | ((with_reducible refine gate_dst (N := 14) rfl ?_); refine Kd.R_lit (Kd.int .i64) _ 3 ?hg (N := 14) ?hd (xs := ([a0_0, a0_1, a0_2] : List Int)) (inner := [.int .i64 a0_0, .int .i64 a0_1, .int .i64 a0_2]) (ok := fun _ => True) (okp := fun _ => True) ?hr ?hp (fun _ hk => hk) trivial (Below.refl _ _) (Nat.le_refl _) (by simp) ?_; (case hd => rfl); (case hg => rfl); (case hr => first | (go_simp; done) | (go_simp; rfl)); (case hp => exact (Reps.one (show Kd.M (Kd.int .i64) _ _ _ a0_0 [.int .i64 a0_0] from rfl) (Reps.one (show Kd.M (Kd.int .i64) _ _ _ a0_1 [.int .i64 a0_1] from rfl) (Reps.one (show Kd.M (Kd.int .i64) _ _ _ a0_2 [.int .i64 a0_2] from rfl) (Reps.none _ _))))); intro v333 w7 ho8 hb hg_ hnew_; clear hg_ hnew_; (first | rw [← Ny332.out] at ho8 | (simp only [Int.reduceToNat] at ho8; rw [← Ny332.out] at ho8)); have n0_ := z2a (Kd.R_lower ho8 (below_size (by repeat (first | (with_reducible first | exact HB.out | apply z2d | apply z2b | apply z2c | refine below_set ?_ GE330.out | refine below_set ?_ GE331.out) | exact HB.out)))); have n1_ := z2a (blk_below (g := gb330) (o := .cells #[.int .i64 a0_0, .int .i64 a0_1, .int .i64 a0_2] 71 (0, 0)) (by (with_reducible repeat (first | refine z2h ?_ _ | refine blk_drew ?_ | refine z2i ?_ _)); exact BK330.out) hb); have n2_ := z2a (blk_below (g := gb331) (o := .cells #[.int .i64 a1_0, .int .i64 a1_1, .int .i64 a1_2] 71 (0, 0)) (by (with_reducible repeat (first | refine z2h ?_ _ | refine blk_drew ?_ | refine z2i ?_ _)); exact BK331.out) hb); have n3_ := z2a (below_step (by repeat (first | (with_reducible first | exact HB.out | apply z2d | apply z2b | apply z2c | refine below_set ?_ GE330.out | refine below_set ?_ GE331.out) | exact HB.out)) hb); clear BK330; clear BK331; clear HB; have HO334 := n0_; have BK330 := n1_; have BK331 := n2_; have HB := n3_; clear n0_ n1_ n2_ n3_; clear hb ho8; obtain ⟨hcz9_0, hcz9_1, hcz9_2⟩ := cells_3 BK331.out; obtain ⟨hfz9_0, hfz9_1, hfz9_2⟩ := frz_3 BK331.out) | ((with_reducible refine gate_dst (N := 21) rfl ?_); refine Kd.R_lit (Kd.int .i64) _ 3 ?hg (N := 21) ?hd (xs := ([a1_0, a1_1, a1_2] : List Int)) (inner := [.int .i64 a1_0, .int .i64 a1_1, .int .i64 a1_2]) (ok := fun _ => True) (okp := fun _ => True) ?hr ?hp (fun _ hk => hk) trivial (Below.refl _ _) (Nat.le_refl _) (by simp) ?_; (case hd => rfl); (case hg => rfl); (case hr => first | (go_simp; done) | (go_simp; rfl)); (case hp => exact (Reps.one (show Kd.M (Kd.int .i64) _ _ _ a1_0 [.int .i64 a1_0] from rfl) (Reps.one (show Kd.M (Kd.int .i64) _ _ _ a1_1 [.int .i64 a1_1] from rfl) (Reps.one (show Kd.M (Kd.int .i64) _ _ _ a1_2 [.int .i64 a1_2] from rfl) (Reps.none _ _))))); intro v336 w10 ho11 hb hg_ hnew_; clear hg_ hnew_; (first | rw [← Ny335.out] at ho11 | (simp only [Int.reduceToNat] at ho11; rw [← Ny335.out] at ho11)); have n0_ := z2a (Kd.R_elder' (by (with_reducible repeat (first | apply Kd.R_alloc | apply Kd.R_drewN | apply Kd.R_drew)); exact HO334.out) (Kd.R_base ho11) hb); have n1_ := z2a (Kd.R_lower (Kd.R_new' ho11 (Kd.R_lt (by (with_reducible repeat (first | apply Kd.R_alloc | apply Kd.R_drewN | apply Kd.R_drew)); exact HO334.out))) (below_size (by repeat (first | (with_reducible first | exact HB.out | apply z2d | apply z2b | apply z2c | refine below_set ?_ GE330.out | refine below_set ?_ GE331.out) | exact HB.out)))); have n2_ := z2a (blk_below (g := gb330) (o := .cells #[.int .i64 a0_0, .int .i64 a0_1, .int .i64 a0_2] 71 (0, 0)) (by (with_reducible repeat (first | refine z2h ?_ _ | refine blk_drew ?_ | refine z2i ?_ _)); exact BK330.out) hb); have n3_ := z2a (blk_below (g := gb331) (o := .cells #[.int .i64 a1_0, .int .i64 a1_1, .int .i64 a1_2] 71 (0, 0)) (by (with_reducible repeat (first | refine z2h ?_ _ | refine blk_drew ?_ | refine z2i ?_ _)); exact BK331.out) hb); have n4_ := z2a (below_step (by repeat (first | (with_reducible first | exact HB.out | apply z2d | apply z2b | apply z2c | refine below_set ?_ GE330.out | refine below_set ?_ GE331.out) | exact HB.out)) hb); clear HO334; clear BK330; clear BK331; clear HB; have HO334 := n0_; have HO337 := n1_; have BK330 := n2_; have BK331 := n3_; have HB := n4_; clear n0_ n1_ n2_ n3_ n4_; clear hb ho11)); try go_wp2_with (first | ((with_reducible refine gate_dst (N := 2) rfl ?_); refine box_event ?hg (N := 2) ?hd (cs := #[.int .i64 a0_0, .int .i64 a0_1, .int .i64 a0_2]) (t := 71) ?hr ?_; (case hd => rfl); (case hg => rfl); (case hr => first | (go_simp; done) | (go_simp; rfl)); intro gb330 hg w3 hbox hb; have n0_ := z2a (below_step (by repeat (first | (with_reducible first | exact HB.out | apply z2d | apply z2b | apply z2c) | exact HB.out)) hb); have n1_ := z2a (hbox); have n2_ := z2a ((by rw [hg]; exact (below_size (by repeat (first | (with_reducible first | exact HB.out | apply z2d | apply z2b | apply z2c) | exact HB.out))) : w.heap.size ≤ gb330)); have n3_ := z2a ((by rw [hg]; exact (below_size (by repeat (first | (with_reducible first | exact HB.out | apply z2d | apply z2b | apply z2c) | exact HB.out))) : w.heap.size ≤ gb330)); clear HB; have HB := n0_; have BK330 := n1_; have GW330 := n2_; have GE330 := n3_; clear n0_ n1_ n2_ n3_; clear hb hbox hg) | ((with_reducible refine gate_dst (N := 3) rfl ?_); refine box_event ?hg (N := 3) ?hd (cs := #[.int .i64 a1_0, .int .i64 a1_1, .int .i64 a1_2]) (t := 71) ?hr ?_; (case hd => rfl); (case hg => rfl); (case hr => first | (go_simp; done) | (go_simp; rfl)); intro gb331 hg w4 hbox hb; have n0_ := z2a (blk_below (g := gb330) (o := .cells #[.int .i64 a0_0, .int .i64 a0_1, .int .i64 a0_2] 71 (0, 0)) (by (with_reducible repeat (first | refine z2h ?_ _ | refine blk_drew ?_ | refine z2i ?_ _)); exact BK330.out) hb); have n1_ := z2a (below_step (by repeat (first | (with_reducible first | exact HB.out | apply z2d | apply z2b | apply z2c | refine below_set ?_ GE330.out) | exact HB.out)) hb); have n2_ := z2a (hbox); have n3_ := z2a ((by rw [hg]; exact (below_size (by repeat (first | (with_reducible first | exact HB.out | apply z2d | apply z2b | apply z2c | refine below_set ?_ GE330.out) | exact HB.out))) : w.heap.size ≤ gb331)); have n4_ := z2a ((by rw [hg]; exact (below_size (by repeat (first | (with_reducible first | exact HB.out | apply z2d | apply z2b | apply z2c | refine below_set ?_ GE330.out) | exact HB.out))) : w.heap.size ≤ gb331)); have n5_ := z2a ((by rw [hg]; exact Nat.ne_of_lt (blk_lt (g := gb330) (o := .cells #[.int .i64 a0_0, .int .i64 a0_1, .int .i64 a0_2] 71 (0, 0)) (by (with_reducible repeat (first | refine z2h ?_ _ | refine blk_drew ?_ | refine z2i ?_ _)); exact BK330.out)) : gb330 ≠ gb331)); have n6_ := z2a ((by rw [hg]; exact Nat.ne_of_gt (blk_lt (g := gb330) (o := .cells #[.int .i64 a0_0, .int .i64 a0_1, .int .i64 a0_2] 71 (0, 0)) (by (with_reducible repeat (first | refine z2h ?_ _ | refine blk_drew ?_ | refine z2i ?_ _)); exact BK330.out)) : gb331 ≠ gb330)); clear BK330; clear HB; have BK330 := n0_; have HB := n1_; have BK331 := n2_; have GW331 := n3_; have GE331 := n4_; have NB330_331 := n5_; have NB331_330 := n6_; clear n0_ n1_ n2_ n3_ n4_ n5_ n6_; clear hb hbox hg; have hnb5 := NB330_331.out; have hnc5 := NB331_330.out; obtain ⟨hcz6_0, hcz6_1, hcz6_2⟩ := cells_3 BK330.out; obtain ⟨hfz6_0, hfz6_1, hfz6_2⟩ := frz_3 BK330.out) | ((with_reducible refine gate_dst (N := 14) rfl ?_); refine Kd.R_lit (Kd.int .i64) _ 3 ?hg (N := 14) ?hd (xs := ([a0_0, a0_1, a0_2] : List Int)) (inner := [.int .i64 a0_0, .int .i64 a0_1, .int .i64 a0_2]) (ok := fun _ => True) (okp := fun _ => True) ?hr ?hp (fun _ hk => hk) trivial (Below.refl _ _) (Nat.le_refl _) (by simp) ?_; (case hd => rfl); (case hg => rfl); (case hr => first | (go_simp; done) | (go_simp; rfl)); (case hp => exact (Reps.one (show Kd.M (Kd.int .i64) _ _ _ a0_0 [.int .i64 a0_0] from rfl) (Reps.one (show Kd.M (Kd.int .i64) _ _ _ a0_1 [.int .i64 a0_1] from rfl) (Reps.one (show Kd.M (Kd.int .i64) _ _ _ a0_2 [.int .i64 a0_2] from rfl) (Reps.none _ _))))); intro v333 w7 ho8 hb hg_ hnew_; clear hg_ hnew_; (first | rw [← Ny332.out] at ho8 | (simp only [Int.reduceToNat] at ho8; rw [← Ny332.out] at ho8)); have n0_ := z2a (Kd.R_lower ho8 (below_size (by repeat (first | (with_reducible first | exact HB.out | apply z2d | apply z2b | apply z2c | refine below_set ?_ GE330.out | refine below_set ?_ GE331.out) | exact HB.out)))); have n1_ := z2a (blk_below (g := gb330) (o := .cells #[.int .i64 a0_0, .int .i64 a0_1, .int .i64 a0_2] 71 (0, 0)) (by (with_reducible repeat (first | refine z2h ?_ _ | refine blk_drew ?_ | refine z2i ?_ _)); exact BK330.out) hb); have n2_ := z2a (blk_below (g := gb331) (o := .cells #[.int .i64 a1_0, .int .i64 a1_1, .int .i64 a1_2] 71 (0, 0)) (by (with_reducible repeat (first | refine z2h ?_ _ | refine blk_drew ?_ | refine z2i ?_ _)); exact BK331.out) hb); have n3_ := z2a (below_step (by repeat (first | (with_reducible first | exact HB.out | apply z2d | apply z2b | apply z2c | refine below_set ?_ GE330.out | refine below_set ?_ GE331.out) | exact HB.out)) hb); clear BK330; clear BK331; clear HB; have HO334 := n0_; have BK330 := n1_; have BK331 := n2_; have HB := n3_; clear n0_ n1_ n2_ n3_; clear hb ho8; obtain ⟨hcz9_0, hcz9_1, hcz9_2⟩ := cells_3 BK331.out; obtain ⟨hfz9_0, hfz9_1, hfz9_2⟩ := frz_3 BK331.out) | ((with_reducible refine gate_dst (N := 21) rfl ?_); refine Kd.R_lit (Kd.int .i64) _ 3 ?hg (N := 21) ?hd (xs := ([a1_0, a1_1, a1_2] : List Int)) (inner := [.int .i64 a1_0, .int .i64 a1_1, .int .i64 a1_2]) (ok := fun _ => True) (okp := fun _ => True) ?hr ?hp (fun _ hk => hk) trivial (Below.refl _ _) (Nat.le_refl _) (by simp) ?_; (case hd => rfl); (case hg => rfl); (case hr => first | (go_simp; done) | (go_simp; rfl)); (case hp => exact (Reps.one (show Kd.M (Kd.int .i64) _ _ _ a1_0 [.int .i64 a1_0] from rfl) (Reps.one (show Kd.M (Kd.int .i64) _ _ _ a1_1 [.int .i64 a1_1] from rfl) (Reps.one (show Kd.M (Kd.int .i64) _ _ _ a1_2 [.int .i64 a1_2] from rfl) (Reps.none _ _))))); intro v336 w10 ho11 hb hg_ hnew_; clear hg_ hnew_; (first | rw [← Ny335.out] at ho11 | (simp only [Int.reduceToNat] at ho11; rw [← Ny335.out] at ho11)); have n0_ := z2a (Kd.R_elder' (by (with_reducible repeat (first | apply Kd.R_alloc | apply Kd.R_drewN | apply Kd.R_drew)); exact HO334.out) (Kd.R_base ho11) hb); have n1_ := z2a (Kd.R_lower (Kd.R_new' ho11 (Kd.R_lt (by (with_reducible repeat (first | apply Kd.R_alloc | apply Kd.R_drewN | apply Kd.R_drew)); exact HO334.out))) (below_size (by repeat (first | (with_reducible first | exact HB.out | apply z2d | apply z2b | apply z2c | refine below_set ?_ GE330.out | refine below_set ?_ GE331.out) | exact HB.out)))); have n2_ := z2a (blk_below (g := gb330) (o := .cells #[.int .i64 a0_0, .int .i64 a0_1, .int .i64 a0_2] 71 (0, 0)) (by (with_reducible repeat (first | refine z2h ?_ _ | refine blk_drew ?_ | refine z2i ?_ _)); exact BK330.out) hb); have n3_ := z2a (blk_below (g := gb331) (o := .cells #[.int .i64 a1_0, .int .i64 a1_1, .int .i64 a1_2] 71 (0, 0)) (by (with_reducible repeat (first | refine z2h ?_ _ | refine blk_drew ?_ | refine z2i ?_ _)); exact BK331.out) hb); have n4_ := z2a (below_step (by repeat (first | (with_reducible first | exact HB.out | apply z2d | apply z2b | apply z2c | refine below_set ?_ GE330.out | refine below_set ?_ GE331.out) | exact HB.out)) hb); clear HO334; clear BK330; clear BK331; clear HB; have HO334 := n0_; have HO337 := n1_; have BK330 := n2_; have BK331 := n3_; have HB := n4_; clear n0_ n1_ n2_ n3_ n4_; clear hb ho11)))
 go_loopg [7] k (fun kq v7 w' => ∃ (x7_1 : Int), v7 = .int .i64 x7_1 ∧ Aside0 (y_l.l0 kq y332 y335 x7_1 = some r) ∧ Aside0 (kq ≤ k) ∧ Aside0 (Kd.R (Kd.int .i64) 3 w' w.heap.size (fun k_ => some k_ ≠ (v336 : Value).ownBlock) v333 y332) ∧ Aside0 (Kd.R (Kd.int .i64) 3 w' w.heap.size (fun k_ => some k_ ≠ (v333 : Value).ownBlock) v336 y335) ∧ Aside0 (w'.heap[gb330]? = some (.cells #[.int .i64 a0_0, .int .i64 a0_1, .int .i64 a0_2] 71 (0, 0))) ∧ Aside0 (w'.heap[gb331]? = some (.cells #[.int .i64 a1_0, .int .i64 a1_1, .int .i64 a1_2] 71 (0, 0))) ∧ Aside0 (Below w.heap.size w w'))
 case atStart => exact ⟨(0), (by first | rfl | (simp; done) | (simp [*]; done)), H', ⟨Nat.le_refl _⟩, ⟨by (with_reducible repeat (first | apply Kd.R_alloc | apply Kd.R_drewN | apply Kd.R_drew)); exact Kd.R_mono HO334.out (fun _ hk => hk.2)⟩, ⟨by (with_reducible repeat (first | apply Kd.R_alloc | apply Kd.R_drewN | apply Kd.R_drew)); exact Kd.R_mono HO337.out (fun _ hk => hk.2)⟩, ⟨by (with_reducible repeat (first | refine z2h ?_ _ | refine blk_drew ?_ | refine z2i ?_ _)); exact BK330.out⟩, ⟨by (with_reducible repeat (first | refine z2h ?_ _ | refine blk_drew ?_ | refine z2i ?_ _)); exact BK331.out⟩, ⟨by repeat (first | (with_reducible first | exact HB.out | apply z2d | apply z2b | apply z2c | refine below_set ?_ GE330.out | refine below_set ?_ GE331.out) | exact HB.out)⟩⟩
 case round =>
  clear H'
  try clear c1
  try clear p2
  try clear c5
  try clear c11
  try clear hcz6_0
  try clear hcz6_1
  try clear hcz6_2
  try clear hcz9_0
  try clear hcz9_1
  try clear hcz9_2
  try clear hfz6_0
  try clear hfz6_1
  try clear hfz6_2
  try clear hfz9_0
  try clear hfz9_1
  try clear hfz9_2
  obtain ⟨x7_1, rfl, HA, HK1, HO_5, HO_6, BK330, BK331, HB⟩ := hrel
  cases gk with
  | zero => exact absurd HA.out (by simp [y_l.l0])
  | succ k1 =>
   have H := HA.out
   clear HA
   simp only [y_l.l0] at H
   by_cases c12 : x7_1 < 3
   ·rw [if_pos c12] at H
    have c12b0 : decide (x7_1 < 3) = true := z2g c12
    clear c12
    by_cases c13 : 0 ≤ x7_1
    ·rw [if_pos c13] at H
     have c13b0 : decide (0 ≤ x7_1) = true := z2g c13
     clear c13
     by_cases c14 : x7_1 < (y332.length : Int)
     ·rw [if_pos c14] at H
      have c14b0 : decide (x7_1 < (y332.length : Int)) = true := z2g c14
      clear c14
      by_cases c15 : x7_1 < (y335.length : Int)
      ·rw [if_pos c15] at H
       have c15b0 : decide (x7_1 < (y335.length : Int)) = true := z2g c15
       clear c15
       by_cases c16 : (rd y332 x7_1) < (rd y335 x7_1)
       ·rw [if_pos c16] at H
        have c16b0 : decide ((rd y332 x7_1) < (rd y335 x7_1)) = true := z2g c16
        clear c16
        obtain rfl := Option.some.inj H
        obtain ⟨Ao17, co17, eo17⟩ := Kd.R_slice HO_5.out
        subst eo17
        have p338 : 0 ≤ (x7_1 : Int) := z2f (by first | (with_reducible assumption) | assumption)
        have q338 : x7_1 < (y332.length : Int) := z2f (by first | (with_reducible assumption) | assumption)
        obtain ⟨ad338, e338, hx338_0⟩ := Kd.at_int (Kd.R_reads' HO_5.out).2.2 x7_1 p338 q338
        cases e338
        replace p338 := eq_true p338
        replace q338 := eq_true q338
        obtain ⟨Ao18, co18, eo18⟩ := Kd.R_slice HO_6.out
        subst eo18
        have p339 : 0 ≤ (x7_1 : Int) := z2f (by first | (with_reducible assumption) | assumption)
        have q339 : x7_1 < (y335.length : Int) := z2f (by first | (with_reducible assumption) | assumption)
        obtain ⟨ad339, e339, hx339_0⟩ := Kd.at_int (Kd.R_reads' HO_6.out).2.2 x7_1 p339 q339
        cases e339
        replace p339 := eq_true p339
        replace q339 := eq_true q339
        go_wp2
        repeat (go_quiet (fail); try go_wp2)
        go_ret
        exact ⟨by first | rfl | (simp [errW_none, errW_some] <;> rfl) | (simp [*, errW_none, errW_some] <;> rfl), by repeat (first | (with_reducible first | exact HB.out | apply z2d | apply z2b | apply z2c | refine below_set ?_ GE330.out | refine below_set ?_ GE331.out) | exact HB.out)⟩
       ·rw [if_neg c16] at H
        have c16b0 : decide ((rd y332 x7_1) < (rd y335 x7_1)) = false := decide_eq_false c16
        clear c16
        by_cases c19 : (rd y332 x7_1) > (rd y335 x7_1)
        ·rw [if_pos c19] at H
         have c19b0 : decide ((rd y335 x7_1) < (rd y332 x7_1)) = true := z2g c19
         clear c19
         obtain rfl := Option.some.inj H
         obtain ⟨Ao20, co20, eo20⟩ := Kd.R_slice HO_5.out
         subst eo20
         have p338 : 0 ≤ (x7_1 : Int) := z2f (by first | (with_reducible assumption) | assumption)
         have q338 : x7_1 < (y332.length : Int) := z2f (by first | (with_reducible assumption) | assumption)
         obtain ⟨ad338, e338, hx338_0⟩ := Kd.at_int (Kd.R_reads' HO_5.out).2.2 x7_1 p338 q338
         cases e338
         replace p338 := eq_true p338
         replace q338 := eq_true q338
         obtain ⟨Ao21, co21, eo21⟩ := Kd.R_slice HO_6.out
         subst eo21
         have p339 : 0 ≤ (x7_1 : Int) := z2f (by first | (with_reducible assumption) | assumption)
         have q339 : x7_1 < (y335.length : Int) := z2f (by first | (with_reducible assumption) | assumption)
         obtain ⟨ad339, e339, hx339_0⟩ := Kd.at_int (Kd.R_reads' HO_6.out).2.2 x7_1 p339 q339
         cases e339
         replace p339 := eq_true p339
         replace q339 := eq_true q339
         have p340 : 0 ≤ (x7_1 : Int) := z2f (by first | (with_reducible assumption) | assumption)
         have q340 : x7_1 < (y332.length : Int) := z2f (by first | (with_reducible assumption) | assumption)
         obtain ⟨ad340, e340, hx340_0⟩ := Kd.at_int (Kd.R_reads' HO_5.out).2.2 x7_1 p340 q340
         obtain rfl : ad338 = ad340 := (by injection e340)
         replace p340 := eq_true p340
         replace q340 := eq_true q340
         have p341 : 0 ≤ (x7_1 : Int) := z2f (by first | (with_reducible assumption) | assumption)
         have q341 : x7_1 < (y335.length : Int) := z2f (by first | (with_reducible assumption) | assumption)
         obtain ⟨ad341, e341, hx341_0⟩ := Kd.at_int (Kd.R_reads' HO_6.out).2.2 x7_1 p341 q341
         obtain rfl : ad339 = ad341 := (by injection e341)
         replace p341 := eq_true p341
         replace q341 := eq_true q341
         go_wp2
         repeat (go_quiet (fail); try go_wp2)
         go_ret
         exact ⟨by first | rfl | (simp [errW_none, errW_some] <;> rfl) | (simp [*, errW_none, errW_some] <;> rfl), by repeat (first | (with_reducible first | exact HB.out | apply z2d | apply z2b | apply z2c | refine below_set ?_ GE330.out | refine below_set ?_ GE331.out) | exact HB.out)⟩
        ·rw [if_neg c19] at H
         have c19b0 : decide ((rd y335 x7_1) < (rd y332 x7_1)) = false := decide_eq_false c19
         clear c19
         have H' := z2a H
         clear H
         obtain ⟨Ao22, co22, eo22⟩ := Kd.R_slice HO_5.out
         subst eo22
         have p338 : 0 ≤ (x7_1 : Int) := z2f (by first | (with_reducible assumption) | assumption)
         have q338 : x7_1 < (y332.length : Int) := z2f (by first | (with_reducible assumption) | assumption)
         obtain ⟨ad338, e338, hx338_0⟩ := Kd.at_int (Kd.R_reads' HO_5.out).2.2 x7_1 p338 q338
         cases e338
         replace p338 := eq_true p338
         replace q338 := eq_true q338
         obtain ⟨Ao23, co23, eo23⟩ := Kd.R_slice HO_6.out
         subst eo23
         have p339 : 0 ≤ (x7_1 : Int) := z2f (by first | (with_reducible assumption) | assumption)
         have q339 : x7_1 < (y335.length : Int) := z2f (by first | (with_reducible assumption) | assumption)
         obtain ⟨ad339, e339, hx339_0⟩ := Kd.at_int (Kd.R_reads' HO_6.out).2.2 x7_1 p339 q339
         cases e339
         replace p339 := eq_true p339
         replace q339 := eq_true q339
         have p340 : 0 ≤ (x7_1 : Int) := z2f (by first | (with_reducible assumption) | assumption)
         have q340 : x7_1 < (y332.length : Int) := z2f (by first | (with_reducible assumption) | assumption)
         obtain ⟨ad340, e340, hx340_0⟩ := Kd.at_int (Kd.R_reads' HO_5.out).2.2 x7_1 p340 q340
         obtain rfl : ad338 = ad340 := (by injection e340)
         replace p340 := eq_true p340
         replace q340 := eq_true q340
         have p341 : 0 ≤ (x7_1 : Int) := z2f (by first | (with_reducible assumption) | assumption)
         have q341 : x7_1 < (y335.length : Int) := z2f (by first | (with_reducible assumption) | assumption)
         obtain ⟨ad341, e341, hx341_0⟩ := Kd.at_int (Kd.R_reads' HO_6.out).2.2 x7_1 p341 q341
         obtain rfl : ad339 = ad341 := (by injection e341)
         replace p341 := eq_true p341
         replace q341 := eq_true q341
         go_wp2
         repeat (go_quiet (fail); try go_wp2)
         go_roundg k1
         case measure => have := HK1.out; omega
         case rel => exact ⟨(wrap64 (x7_1 + 1)), (by first | rfl | (simp; done) | (simp [*]; done)), H', ⟨by have := HK1.out; omega⟩, ⟨by (with_reducible repeat (first | apply Kd.R_alloc | apply Kd.R_drewN | apply Kd.R_drew)); exact HO_5.out⟩, ⟨by (with_reducible repeat (first | apply Kd.R_alloc | apply Kd.R_drewN | apply Kd.R_drew)); exact HO_6.out⟩, ⟨by (with_reducible repeat (first | refine z2h ?_ _ | refine blk_drew ?_ | refine z2i ?_ _)); exact BK330.out⟩, ⟨by (with_reducible repeat (first | refine z2h ?_ _ | refine blk_drew ?_ | refine z2i ?_ _)); exact BK331.out⟩, ⟨by repeat (first | (with_reducible first | exact HB.out | apply z2d | apply z2b | apply z2c | refine below_set ?_ GE330.out | refine below_set ?_ GE331.out) | exact HB.out)⟩⟩
      ·rw [if_neg c15] at H
       exact absurd H (by simp)
     ·rw [if_neg c14] at H
      exact absurd H (by simp)
    ·rw [if_neg c13] at H
     exact absurd H (by simp)
   ·rw [if_neg c12] at H
    have c12b0 : decide (x7_1 < 3) = false := decide_eq_false c12
    clear c12
    obtain rfl := Option.some.inj H
    go_wp2
    repeat (go_quiet (fail); try go_wp2)
    go_ret
    exact ⟨by first | rfl | (simp [errW_none, errW_some] <;> rfl) | (simp [*, errW_none, errW_some] <;> rfl), by repeat (first | (with_reducible first | exact HB.out | apply z2d | apply z2b | apply z2c | refine below_set ?_ GE330.out | refine below_set ?_ GE331.out) | exact HB.out)⟩
def y_m.l0 : Nat → List (S71) → Int → Int → Option (Int)
 | 0, _, _, _ => none
 | k + 1, x0, x3, x4 => if x4 < (x0.length : Int) then (if x3 < 0 then (y_m.l0 k x0 x4 (wrap64 (x4 + 1))) else (if 0 ≤ x4 then (if 0 ≤ x3 then (if x3 < (x0.length : Int) then ((y_l.f k ((rd_T71 x0 x4).f0) ((rd_T71 x0 x4).f1) ((rd_T71 x0 x4).f2) ((rd_T71 x0 x3).f0) ((rd_T71 x0 x3).f1) ((rd_T71 x0 x3).f2)).bind fun t344 => (if t344 < 0 then (y_m.l0 k x0 x4 (wrap64 (x4 + 1))) else (y_m.l0 k x0 x3 (wrap64 (x4 + 1))))) else (none)) else (none)) else (none))) else (some x3)
def y_m.f (k : Nat) (l0 : List (S71)) : Option (Int) := y_m.l0 k l0 (-1) 0
theorem y_m.mono_l : ∀ k, (∀ y0 y1 y2, LeO (y_m.l0 k y0 y1 y2) (y_m.l0 (k + 1) y0 y1 y2))
 | 0 => fun _ _ _ r h => by simp [y_m.l0] at h
 | k + 1 => by
  have ih0 := y_m.mono_l k
  ·intro y0 y1 y2
   unfold y_m.l0
   repeat' first
   | (with_reducible exact ih0 _ _ _)
   | (with_reducible exact y_l.mono _ _ _ _ _ _ _)
   | (with_reducible exact LeO.refl _)
   | (with_reducible exact LeO.none _)
   | (with_reducible refine LeO.ite ?_ ?_)
   | (with_reducible refine LeO.bind ?_ (fun _ => ?_))
   | exact ih0 _ _ _
   | exact y_l.mono _ _ _ _ _ _ _
   | exact LeO.none _
   | refine LeO.ite ?_ ?_
   | refine LeO.bind ?_ (fun _ => ?_)
theorem y_m.mono : ∀ a0 k, LeO (y_m.f k a0) (y_m.f (k + 1) a0) := by
 intro a0 k
 have ih0 := y_m.mono_l k
 unfold y_m.f
 repeat' first
   | (with_reducible exact ih0 _ _ _)
   | (with_reducible exact y_l.mono _ _ _ _ _ _ _)
   | (with_reducible exact LeO.refl _)
   | (with_reducible exact LeO.none _)
   | (with_reducible refine LeO.ite ?_ ?_)
   | (with_reducible refine LeO.bind ?_ (fun _ => ?_))
   | exact ih0 _ _ _
   | exact y_l.mono _ _ _ _ _ _ _
   | exact LeO.none _
   | refine LeO.ite ?_ ?_
   | refine LeO.bind ?_ (fun _ => ?_)
def y_m.T5 : Bool × List (List Nat × List Nat) := (true, [([], []), ([0], [0]), ([1], [1]), ([2], [2]), ([2], [2]), ([3, 4, 2], [2, 3, 4]), ([5, 2], [2, 5]), ([2], [2]), ([2], [2]), ([7, 8, 2], [2, 7, 8]), ([9, 2], [2, 9]), ([6, 10, 2, 2], [2, 6, 10]), ([11, 2], [2, 11]), ([2, 12], [2, 12])])
def y_m.B5 : List Nat := [0, 1, 3, 7, 7, 31, 63, 7, 7, 391, 903, 2047, 4095, 8191]
theorem y_m.tab5 : rtab .any (opsOf Try.f27 5) = y_m.T5 := by kernel_rfl
theorem y_m.bits5 : waitsOk y_m.T5.2 y_m.B5 = true := by kernel_rfl
theorem y_m.calls (k : Nat) (A0 : Option Addr) (c0 : Nat) (l0 : List (S71)) (r : Int) (w : World) (hr0 : Kd.C k71 w A0 l0.length l0) (hc0 : l0.length ≤ c0) (h : y_m.f k l0 = some r) :
  Calls Try.prog 27 #[.slice A0 l0.length c0] w fun e w' => e = .returned (.int .i64 r) ∧ Below w.heap.size w w' := by
 have hu71 := Try.underlying71
 have HR0 := z2a hr0
 have HC0 := z2a hc0
 clear hr0 hc0
 have HB := z2a (Below.refl w.heap.size w)
 have H : (y_m.l0 k l0 (-1) 0) = some r := h
 clear h
 have H' := z2a H
 clear H
 go_enter Try.func27, Try.ntmps27
 go_wp2
 go_loopg [3, 4] k (fun kq v3 v4 w' => ∃ (x3_1 : Int) (x4_1 : Int), v3 = .int .i64 x3_1 ∧ v4 = .int .i64 x4_1 ∧ Aside0 (y_m.l0 kq l0 x3_1 x4_1 = some r) ∧ Aside0 (kq ≤ k) ∧ Aside0 (Below w.heap.size w w'))
 case atStart => exact ⟨((-1)), (0), (by first | rfl | (simp; done) | (simp [*]; done)), (by first | rfl | (simp; done) | (simp [*]; done)), H', ⟨Nat.le_refl _⟩, ⟨by repeat (first | (with_reducible first | exact HB.out | apply z2d | apply z2b | apply z2c) | exact HB.out)⟩⟩
 case round =>
  clear H'
  obtain ⟨x3_1, x4_1, rfl, rfl, HA, HK1, HB⟩ := hrel
  cases gk with
  | zero => exact absurd HA.out (by simp [y_m.l0])
  | succ k1 =>
   have H := HA.out
   clear HA
   simp only [y_m.l0] at H
   by_cases c2 : x4_1 < (l0.length : Int)
   ·rw [if_pos c2] at H
    have c2b0 : decide (x4_1 < (l0.length : Int)) = true := z2g c2
    clear c2
    by_cases c3 : x3_1 < 0
    ·rw [if_pos c3] at H
     have c3b0 : decide (x3_1 < 0) = true := z2g c3
     clear c3
     have H' := z2a H
     clear H
     try go_wp2
     have n0_ := z2a (z2c HB.out)
     clear HB
     have HB := n0_
     clear n0_
     refine start_ (n := 14) (S := fun w' => True) (ds := []) zq2_0 (by kernel_rfl) rfl rfl trivial (fun hHeld => ?_); refine with_tabW y_m.tab5 y_m.bits5 (fun HT_ HW_ => ?_)
     generalize wr.drew = w4 at HB hHeld ⊢
     refine pure_ (i := 0) (N := some 11) (v := ?_) (a' := ?_) zq2_1 rfl rfl (any_of HT_.out (by kernel_rfl)) (fun _ _ _ h => h) (Or.inl ⟨by rfl, ?_⟩) ?_ ?_
     rotate_left
     ·intro w'
      go_simp
      with_reducible rfl
     rotate_left
     ·simp only [Act.put, zp2a, zp2b, zp2c, i64_w, i32_w]
      rfl
     refine pure_ (i := 1) (N := some 12) (v := ?_) (a' := ?_) zq2_2 rfl rfl (any_of HT_.out (by kernel_rfl)) (fun _ _ _ h => h) (Or.inl ⟨by rfl, ?_⟩) ?_ ?_
     rotate_left
     ·intro w'
      go_simp
      with_reducible rfl
     rotate_left
     ·simp only [Act.put, zp2a, zp2b, zp2c, i64_w, i32_w]
      rfl
     refine pure_ (i := 2) (N := some 13) (v := ?_) (a' := ?_) zq2_3 rfl rfl (any_of HT_.out (by kernel_rfl)) (fun _ _ _ h => h) (Or.inl ⟨by rfl, ?_⟩) ?_ ?_
     rotate_left
     ·intro w'
      go_simp
      with_reducible rfl
     rotate_left
     ·simp only [Act.put, zp2a, zp2b, zp2c, i64_w, i32_w]
      rfl
     refine pure_ (i := 3) (N := some 14) (v := undef) (a' := ?_) zq2_4 rfl rfl (any_of HT_.out (by kernel_rfl)) (fun _ _ _ h => h) (Or.inr ⟨by rfl, rfl⟩) ?_ ?_
     rotate_left
     ·simp only [Act.put, zp2a, zp2b, zp2c, i64_w, i32_w]
      rfl
     refine pure_ (i := 4) (N := some 15) (v := undef) (a' := ?_) zq2_5 rfl rfl (any_of HT_.out (by kernel_rfl)) (fun _ _ _ h => h) (Or.inr ⟨by rfl, rfl⟩) ?_ ?_
     rotate_left
     ·simp only [Act.put, zp2a, zp2b, zp2c, i64_w, i32_w]
      rfl
     refine pure_ (i := 5) (N := some 16) (v := undef) (a' := ?_) zq2_6 rfl rfl (any_of HT_.out (by kernel_rfl)) (fun _ _ _ h => h) (Or.inr ⟨by rfl, rfl⟩) ?_ ?_
     rotate_left
     ·simp only [Act.put, zp2a, zp2b, zp2c, i64_w, i32_w]
      rfl
     refine pure_ (i := 6) (N := some 17) (v := undef) (a' := ?_) #[zt2,zt2,zt2,zt2,zt2,zt2,zt2,zf2,zf2,zf2,zf2,zf2,zf2,zf2] rfl rfl (any_of HT_.out (by kernel_rfl)) (fun _ _ _ h => h) (Or.inr ⟨by rfl, rfl⟩) ?_ ?_
     rotate_left
     ·simp only [Act.put, zp2a, zp2b, zp2c, i64_w, i32_w]
      rfl
     refine pure_ (i := 7) (N := some 18) (v := undef) (a' := ?_) #[zt2,zt2,zt2,zt2,zt2,zt2,zt2,zt2,zf2,zf2,zf2,zf2,zf2,zf2] rfl rfl (any_of HT_.out (by kernel_rfl)) (fun _ _ _ h => h) (Or.inr ⟨by rfl, rfl⟩) ?_ ?_
     rotate_left
     ·simp only [Act.put, zp2a, zp2b, zp2c, i64_w, i32_w]
      rfl
     refine pure_ (i := 8) (N := some 19) (v := undef) (a' := ?_) #[zt2,zt2,zt2,zt2,zt2,zt2,zt2,zt2,zt2,zf2,zf2,zf2,zf2,zf2] rfl rfl (any_of HT_.out (by kernel_rfl)) (fun _ _ _ h => h) (Or.inr ⟨by rfl, rfl⟩) ?_ ?_
     rotate_left
     ·simp only [Act.put, zp2a, zp2b, zp2c, i64_w, i32_w]
      rfl
     refine pure_ (i := 9) (N := some 20) (v := undef) (a' := ?_) zq2_7 rfl rfl (any_of HT_.out (by kernel_rfl)) (fun _ _ _ h => h) (Or.inr ⟨by rfl, rfl⟩) ?_ ?_
     rotate_left
     ·simp only [Act.put, zp2a, zp2b, zp2c, i64_w, i32_w]
      rfl
     refine pure_ (i := 10) (N := some 21) (v := undef) (a' := ?_) zq2_8 rfl rfl (any_of HT_.out (by kernel_rfl)) (fun _ _ _ h => h) (Or.inr ⟨by rfl, rfl⟩) ?_ ?_
     rotate_left
     ·simp only [Act.put, zp2a, zp2b, zp2c, i64_w, i32_w]
      rfl
     refine pure_ (i := 11) (N := some 22) (v := undef) (a' := ?_) zq2_9 rfl rfl (any_of HT_.out (by kernel_rfl)) (fun _ _ _ h => h) (Or.inr ⟨by rfl, rfl⟩) ?_ ?_
     rotate_left
     ·simp only [Act.put, zp2a, zp2b, zp2c, i64_w, i32_w]
      rfl
     refine pure_ (i := 12) (N := some 23) (v := undef) (a' := ?_) zq2_10 rfl rfl (any_of HT_.out (by kernel_rfl)) (fun _ _ _ h => h) (Or.inr ⟨by rfl, rfl⟩) ?_ ?_
     rotate_left
     ·simp only [Act.put, zp2a, zp2b, zp2c, i64_w, i32_w]
      rfl
     refine pure_ (i := 13) (N := some 24) (v := ?_) (a' := ?_) zq2_11 rfl rfl (any_of HT_.out (by kernel_rfl)) (fun _ _ _ h => h) (Or.inl ⟨by rfl, ?_⟩) ?_ ?_
     rotate_left
     ·intro w'
      go_simp
      with_reducible rfl
     rotate_left
     ·simp only [Act.put, zp2a, zp2b, zp2c, i64_w, i32_w]
      rfl
     refine done_ (done_of HT_.out (by kernel_rfl)) ?_
     try go_wp2
     go_roundg k1
     case measure => have := HK1.out; omega
     case rel => exact ⟨(x4_1), (wrap64 (x4_1 + 1)), (by first | rfl | (simp; done) | (simp [*]; done)), (by first | rfl | (simp; done) | (simp [*]; done)), H', ⟨by have := HK1.out; omega⟩, ⟨by repeat (first | (with_reducible first | exact HB.out | apply z2d | apply z2b | apply z2c) | exact HB.out)⟩⟩
    ·rw [if_neg c3] at H
     have c3b0 : decide (x3_1 < 0) = false := decide_eq_false c3
     clear c3
     by_cases c5 : 0 ≤ x4_1
     ·rw [if_pos c5] at H
      have c5b0 : decide (0 ≤ x4_1) = true := z2g c5
      clear c5
      by_cases c6 : 0 ≤ x3_1
      ·rw [if_pos c6] at H
       have c6b0 : decide (0 ≤ x3_1) = true := z2g c6
       clear c6
       by_cases c7 : x3_1 < (l0.length : Int)
       ·rw [if_pos c7] at H
        have c7b0 : decide (x3_1 < (l0.length : Int)) = true := z2g c7
        clear c7
        replace H := Option.bind_eq_some_iff.mp H
        obtain ⟨t344, A80, H⟩ := H
        have A8 := z2a A80
        clear A80
        by_cases c9 : t344 < 0
        ·rw [if_pos c9] at H
         have c9b0 : decide (t344 < 0) = true := z2g c9
         clear c9
         have H' := z2a H
         clear H
         try go_wp2
         have n0_ := z2a (z2c HB.out)
         clear HB
         have HB := n0_
         clear n0_
         have p342 : 0 ≤ (x4_1 : Int) := z2f (by first | (with_reducible assumption) | assumption)
         have q342 : x4_1 < (l0.length : Int) := z2f (by first | (with_reducible assumption) | assumption)
         obtain ⟨ad342, e342, hx342_0, hx342_1, hx342_2⟩ := at_T71 HR0.out x4_1 p342 q342
         have hw342_2 := hx342_2
         have hw342_1 := hx342_1
         have hw342_0 := hx342_0
         cases e342
         replace hx342_0 := (HB.out.cell (z2e w _ hx342_0)).trans hx342_0
         replace hx342_1 := (HB.out.cell (z2e w _ hx342_1)).trans hx342_1
         replace hx342_2 := (HB.out.cell (z2e w _ hx342_2)).trans hx342_2
         replace p342 := eq_true p342
         replace q342 := eq_true q342
         have p343 : 0 ≤ (x3_1 : Int) := z2f (by first | (with_reducible assumption) | assumption)
         have q343 : x3_1 < (l0.length : Int) := z2f (by first | (with_reducible assumption) | assumption)
         obtain ⟨ad343, e343, hx343_0, hx343_1, hx343_2⟩ := at_T71 HR0.out x3_1 p343 q343
         have hw343_2 := hx343_2
         have hw343_1 := hx343_1
         have hw343_0 := hx343_0
         obtain rfl : ad342 = ad343 := (by injection e343)
         replace hx343_0 := (HB.out.cell (z2e w _ hx343_0)).trans hx343_0
         replace hx343_1 := (HB.out.cell (z2e w _ hx343_1)).trans hx343_1
         replace hx343_2 := (HB.out.cell (z2e w _ hx343_2)).trans hx343_2
         replace p343 := eq_true p343
         replace q343 := eq_true q343
         refine start_ (n := 14) (S := fun w' => w'.cell? (ad342.add ((x4_1).toNat * 3)) = some (.int .i64 ((rd_T71 l0 x4_1).f0)) ∧ w'.cell? ⟨(ad342.add ((x4_1).toNat * 3)).block, (ad342.add ((x4_1).toNat * 3)).off + 1, none⟩ = some (.int .i64 ((rd_T71 l0 x4_1).f1)) ∧ w'.cell? ⟨(ad342.add ((x4_1).toNat * 3)).block, (ad342.add ((x4_1).toNat * 3)).off + 2, none⟩ = some (.int .i64 ((rd_T71 l0 x4_1).f2)) ∧ w'.cell? (ad342.add ((x3_1).toNat * 3)) = some (.int .i64 ((rd_T71 l0 x3_1).f0)) ∧ w'.cell? ⟨(ad342.add ((x3_1).toNat * 3)).block, (ad342.add ((x3_1).toNat * 3)).off + 1, none⟩ = some (.int .i64 ((rd_T71 l0 x3_1).f1)) ∧ w'.cell? ⟨(ad342.add ((x3_1).toNat * 3)).block, (ad342.add ((x3_1).toNat * 3)).off + 2, none⟩ = some (.int .i64 ((rd_T71 l0 x3_1).f2))) (ds := []) zq2_0 (by kernel_rfl) rfl rfl ⟨((HB.out.cell (z2e w _ hw342_0)).trans hw342_0), ((HB.out.cell (z2e w _ hw342_1)).trans hw342_1), ((HB.out.cell (z2e w _ hw342_2)).trans hw342_2), ((HB.out.cell (z2e w _ hw343_0)).trans hw343_0), ((HB.out.cell (z2e w _ hw343_1)).trans hw343_1), ((HB.out.cell (z2e w _ hw343_2)).trans hw343_2)⟩ (fun hHeld => ?_); refine with_tabW y_m.tab5 y_m.bits5 (fun HT_ HW_ => ?_)
         generalize wr.drew = w10 at HB hx342_0 hx342_1 hx342_2 hx343_0 hx343_1 hx343_2 hHeld ⊢
         refine pure_ (i := 0) (N := some 11) (v := ?_) (a' := ?_) zq2_1 rfl rfl (any_of HT_.out (by kernel_rfl)) (fun _ _ _ h => h) (Or.inl ⟨by rfl, ?_⟩) ?_ ?_
         rotate_left
         ·intro w'
          go_simp
          with_reducible rfl
         rotate_left
         ·simp only [Act.put, zp2a, zp2b, zp2c, i64_w, i32_w]
          rfl
         refine pure_ (i := 1) (N := some 12) (v := ?_) (a' := ?_) zq2_2 rfl rfl (any_of HT_.out (by kernel_rfl)) (fun _ _ _ h => h) (Or.inl ⟨by rfl, ?_⟩) ?_ ?_
         rotate_left
         ·intro w'
          go_simp
          with_reducible rfl
         rotate_left
         ·simp only [Act.put, zp2a, zp2b, zp2c, i64_w, i32_w]
          rfl
         refine pure_ (i := 2) (N := some 13) (v := ?_) (a' := ?_) zq2_3 rfl rfl (any_of HT_.out (by kernel_rfl)) (fun _ _ _ h => h) (Or.inl ⟨by rfl, ?_⟩) ?_ ?_
         rotate_left
         ·intro w'
          go_simp
          with_reducible rfl
         rotate_left
         ·simp only [Act.put, zp2a, zp2b, zp2c, i64_w, i32_w]
          rfl
         refine pure_ (i := 3) (N := some 14) (v := ?_) (a' := ?_) zq2_4 rfl rfl (any_of HT_.out (by kernel_rfl)) (fun _ _ _ h => h) (Or.inl ⟨by rfl, ?_⟩) ?_ ?_
         rotate_left
         ·intro w'
          go_simp
          with_reducible rfl
         rotate_left
         ·simp only [Act.put, zp2a, zp2b, zp2c, i64_w, i32_w]
          rfl
         refine pure_ (i := 4) (N := some 15) (v := ?_) (a' := ?_) zq2_5 rfl rfl (any_of HT_.out (by kernel_rfl)) (fun _ _ _ h => h) (Or.inl ⟨by rfl, ?_⟩) ?_ ?_
         rotate_left
         ·intro w'
          go_simp
          with_reducible rfl
         rotate_left
         ·simp only [Act.put, zp2a, zp2b, zp2c, i64_w, i32_w]
          rfl
         refine pure_ (i := 5) (N := some 16) (v := ?_) (a' := ?_) zq2_6 rfl rfl (any_of HT_.out (by kernel_rfl)) (fun _ _ _ h => h) (Or.inl ⟨by rfl, ?_⟩) ?_ ?_
         rotate_left
         ·intro w'
          go_simp
          with_reducible rfl
         rotate_left
         ·simp only [Act.put, zp2a, zp2b, zp2c, i64_w, i32_w]
          rfl
         refine pure_ (i := 7) (N := some 18) (v := ?_) (a' := ?_) #[zt2,zt2,zt2,zt2,zt2,zt2,zf2,zt2,zf2,zf2,zf2,zf2,zf2,zf2] rfl rfl (any_of HT_.out (by kernel_rfl)) (fun _ _ _ h => h) (Or.inl ⟨by rfl, ?_⟩) ?_ ?_
         rotate_left
         ·intro w'
          go_simp
          with_reducible rfl
         rotate_left
         ·simp only [Act.put, zp2a, zp2b, zp2c, i64_w, i32_w]
          rfl
         refine pure_ (i := 8) (N := some 19) (v := ?_) (a' := ?_) #[zt2,zt2,zt2,zt2,zt2,zt2,zf2,zt2,zt2,zf2,zf2,zf2,zf2,zf2] rfl rfl (any_of HT_.out (by kernel_rfl)) (fun _ _ _ h => h) (Or.inl ⟨by rfl, ?_⟩) ?_ ?_
         rotate_left
         ·intro w'
          go_simp
          with_reducible rfl
         rotate_left
         ·simp only [Act.put, zp2a, zp2b, zp2c, i64_w, i32_w]
          rfl
         refine pure_ (i := 9) (N := some 20) (v := ?_) (a' := ?_) #[zt2,zt2,zt2,zt2,zt2,zt2,zf2,zt2,zt2,zt2,zf2,zf2,zf2,zf2] rfl rfl (any_of HT_.out (by kernel_rfl)) (fun _ _ _ h => h) (Or.inl ⟨by rfl, ?_⟩) ?_ ?_
         rotate_left
         ·intro w'
          go_simp
          with_reducible rfl
         rotate_left
         ·simp only [Act.put, zp2a, zp2b, zp2c, i64_w, i32_w]
          rfl
         refine take_ (i := 6) (N := some 17) (v := ?_) (a' := ?_) zq2_7 rfl rfl (take_ofW HT_.out HW_.out (by kernel_rfl)) (fun _ _ _ h => h) (Or.inl ⟨by rfl, ?_⟩) hHeld ?_ ?_
         rotate_left
         ·rintro w' ⟨s0, s1, s2, s3, s4, s5⟩
          go_simp
          with_reducible rfl
         rotate_left
         ·simp only [Act.put, zp2a, zp2b, zp2c, i64_w, i32_w]
          rfl
         refine take_ (i := 10) (N := some 21) (v := ?_) (a' := ?_) zq2_8 rfl rfl (take_ofW HT_.out HW_.out (by kernel_rfl)) (fun _ _ _ h => h) (Or.inl ⟨by rfl, ?_⟩) hHeld ?_ ?_
         rotate_left
         ·rintro w' ⟨s0, s1, s2, s3, s4, s5⟩
          go_simp
          with_reducible rfl
         rotate_left
         ·simp only [Act.put, zp2a, zp2b, zp2c, i64_w, i32_w]
          rfl
         refine one_ (i := 11) (N := some 22) zq2_9 rfl rfl (one_of HT_.out (by kernel_rfl)) (by decide) (fun K hK => ?_)
         refine goes_ Try.func116 (by kernel_rfl) rfl #[.agg #[.int .i64 ((rd_T71 l0 x4_1).f0), .int .i64 ((rd_T71 l0 x4_1).f1), .int .i64 ((rd_T71 l0 x4_1).f2)], .agg #[.int .i64 ((rd_T71 l0 x3_1).f0), .int .i64 ((rd_T71 l0 x3_1).f1), .int .i64 ((rd_T71 l0 x3_1).f2)]] (by rfl) rfl rfl (by (try simp only [List.map_toArray, List.map_cons, List.map_nil]); first | done | rfl | (simp only [List.length_drop, List.length_take]; rfl)) ?_
         with_reducible refine (y_l.calls k1 ((rd_T71 l0 x4_1).f0) ((rd_T71 l0 x4_1).f1) ((rd_T71 l0 x4_1).f2) ((rd_T71 l0 x3_1).f0) ((rd_T71 l0 x3_1).f1) ((rd_T71 l0 x3_1).f2) t344 _ A8.out).mono ?_
         rintro e w11 ⟨rfl, hb⟩
         refine ⟨_, rfl, ?_⟩
         have n0_ := z2a (below_step (by repeat (first | (with_reducible first | exact HB.out | apply z2d | apply z2b | apply z2c) | exact HB.out)) hb)
         clear HB
         have HB := n0_
         clear n0_
         (try clear hb)
         (try clear hb2)
         (try clear hk)
         (try clear hi)
         refine hK.out _ _ ⟨((HB.out.cell (z2e w _ hw342_0)).trans hw342_0), ((HB.out.cell (z2e w _ hw342_1)).trans hw342_1), ((HB.out.cell (z2e w _ hw342_2)).trans hw342_2), ((HB.out.cell (z2e w _ hw343_0)).trans hw343_0), ((HB.out.cell (z2e w _ hw343_1)).trans hw343_1), ((HB.out.cell (z2e w _ hw343_2)).trans hw343_2)⟩ (fun hHeld => ?_)
         clear hK K
         refine norm_ (a' := ?_) ?_ ?_
         rotate_left
         ·show Act.put _ (some 22) _ = _
          simp only [Act.put, zp2a, zp2b, zp2c, i64_w, i32_w]
          rfl
         refine pure_ (i := 12) (N := some 23) (v := ?_) (a' := ?_) zq2_10 rfl rfl (any_of HT_.out (by kernel_rfl)) (fun _ _ _ h => h) (Or.inl ⟨by rfl, ?_⟩) ?_ ?_
         rotate_left
         ·intro w'
          go_simp
          with_reducible rfl
         rotate_left
         ·simp only [Act.put, zp2a, zp2b, zp2c, i64_w, i32_w]
          rfl
         refine pure_ (i := 13) (N := some 24) (v := ?_) (a' := ?_) zq2_11 rfl rfl (any_of HT_.out (by kernel_rfl)) (fun _ _ _ h => h) (Or.inl ⟨by rfl, ?_⟩) ?_ ?_
         rotate_left
         ·intro w'
          go_simp
          with_reducible rfl
         rotate_left
         ·simp only [Act.put, zp2a, zp2b, zp2c, i64_w, i32_w]
          rfl
         refine done_ (done_of HT_.out (by kernel_rfl)) ?_
         try go_wp2
         go_roundg k1
         case measure => have := HK1.out; omega
         case rel => exact ⟨(x4_1), (wrap64 (x4_1 + 1)), (by first | rfl | (simp; done) | (simp [*]; done)), (by first | rfl | (simp; done) | (simp [*]; done)), H', ⟨by have := HK1.out; omega⟩, ⟨by repeat (first | (with_reducible first | exact HB.out | apply z2d | apply z2b | apply z2c) | exact HB.out)⟩⟩
        ·rw [if_neg c9] at H
         have c9b0 : decide (t344 < 0) = false := decide_eq_false c9
         clear c9
         have H' := z2a H
         clear H
         try go_wp2
         have n0_ := z2a (z2c HB.out)
         clear HB
         have HB := n0_
         clear n0_
         have p342 : 0 ≤ (x4_1 : Int) := z2f (by first | (with_reducible assumption) | assumption)
         have q342 : x4_1 < (l0.length : Int) := z2f (by first | (with_reducible assumption) | assumption)
         obtain ⟨ad342, e342, hx342_0, hx342_1, hx342_2⟩ := at_T71 HR0.out x4_1 p342 q342
         have hw342_2 := hx342_2
         have hw342_1 := hx342_1
         have hw342_0 := hx342_0
         cases e342
         replace hx342_0 := (HB.out.cell (z2e w _ hx342_0)).trans hx342_0
         replace hx342_1 := (HB.out.cell (z2e w _ hx342_1)).trans hx342_1
         replace hx342_2 := (HB.out.cell (z2e w _ hx342_2)).trans hx342_2
         replace p342 := eq_true p342
         replace q342 := eq_true q342
         have p343 : 0 ≤ (x3_1 : Int) := z2f (by first | (with_reducible assumption) | assumption)
         have q343 : x3_1 < (l0.length : Int) := z2f (by first | (with_reducible assumption) | assumption)
         obtain ⟨ad343, e343, hx343_0, hx343_1, hx343_2⟩ := at_T71 HR0.out x3_1 p343 q343
         have hw343_2 := hx343_2
         have hw343_1 := hx343_1
         have hw343_0 := hx343_0
         obtain rfl : ad342 = ad343 := (by injection e343)
         replace hx343_0 := (HB.out.cell (z2e w _ hx343_0)).trans hx343_0
         replace hx343_1 := (HB.out.cell (z2e w _ hx343_1)).trans hx343_1
         replace hx343_2 := (HB.out.cell (z2e w _ hx343_2)).trans hx343_2
         replace p343 := eq_true p343
         replace q343 := eq_true q343
         refine start_ (n := 14) (S := fun w' => w'.cell? (ad342.add ((x4_1).toNat * 3)) = some (.int .i64 ((rd_T71 l0 x4_1).f0)) ∧ w'.cell? ⟨(ad342.add ((x4_1).toNat * 3)).block, (ad342.add ((x4_1).toNat * 3)).off + 1, none⟩ = some (.int .i64 ((rd_T71 l0 x4_1).f1)) ∧ w'.cell? ⟨(ad342.add ((x4_1).toNat * 3)).block, (ad342.add ((x4_1).toNat * 3)).off + 2, none⟩ = some (.int .i64 ((rd_T71 l0 x4_1).f2)) ∧ w'.cell? (ad342.add ((x3_1).toNat * 3)) = some (.int .i64 ((rd_T71 l0 x3_1).f0)) ∧ w'.cell? ⟨(ad342.add ((x3_1).toNat * 3)).block, (ad342.add ((x3_1).toNat * 3)).off + 1, none⟩ = some (.int .i64 ((rd_T71 l0 x3_1).f1)) ∧ w'.cell? ⟨(ad342.add ((x3_1).toNat * 3)).block, (ad342.add ((x3_1).toNat * 3)).off + 2, none⟩ = some (.int .i64 ((rd_T71 l0 x3_1).f2))) (ds := []) zq2_0 (by kernel_rfl) rfl rfl ⟨((HB.out.cell (z2e w _ hw342_0)).trans hw342_0), ((HB.out.cell (z2e w _ hw342_1)).trans hw342_1), ((HB.out.cell (z2e w _ hw342_2)).trans hw342_2), ((HB.out.cell (z2e w _ hw343_0)).trans hw343_0), ((HB.out.cell (z2e w _ hw343_1)).trans hw343_1), ((HB.out.cell (z2e w _ hw343_2)).trans hw343_2)⟩ (fun hHeld => ?_); refine with_tabW y_m.tab5 y_m.bits5 (fun HT_ HW_ => ?_)
         generalize wr.drew = w12 at HB hx342_0 hx342_1 hx342_2 hx343_0 hx343_1 hx343_2 hHeld ⊢
         refine pure_ (i := 0) (N := some 11) (v := ?_) (a' := ?_) zq2_1 rfl rfl (any_of HT_.out (by kernel_rfl)) (fun _ _ _ h => h) (Or.inl ⟨by rfl, ?_⟩) ?_ ?_
         rotate_left
         ·intro w'
          go_simp
          with_reducible rfl
         rotate_left
         ·simp only [Act.put, zp2a, zp2b, zp2c, i64_w, i32_w]
          rfl
         refine pure_ (i := 1) (N := some 12) (v := ?_) (a' := ?_) zq2_2 rfl rfl (any_of HT_.out (by kernel_rfl)) (fun _ _ _ h => h) (Or.inl ⟨by rfl, ?_⟩) ?_ ?_
         rotate_left
         ·intro w'
          go_simp
          with_reducible rfl
         rotate_left
         ·simp only [Act.put, zp2a, zp2b, zp2c, i64_w, i32_w]
          rfl
         refine pure_ (i := 2) (N := some 13) (v := ?_) (a' := ?_) zq2_3 rfl rfl (any_of HT_.out (by kernel_rfl)) (fun _ _ _ h => h) (Or.inl ⟨by rfl, ?_⟩) ?_ ?_
         rotate_left
         ·intro w'
          go_simp
          with_reducible rfl
         rotate_left
         ·simp only [Act.put, zp2a, zp2b, zp2c, i64_w, i32_w]
          rfl
         refine pure_ (i := 3) (N := some 14) (v := ?_) (a' := ?_) zq2_4 rfl rfl (any_of HT_.out (by kernel_rfl)) (fun _ _ _ h => h) (Or.inl ⟨by rfl, ?_⟩) ?_ ?_
         rotate_left
         ·intro w'
          go_simp
          with_reducible rfl
         rotate_left
         ·simp only [Act.put, zp2a, zp2b, zp2c, i64_w, i32_w]
          rfl
         refine pure_ (i := 4) (N := some 15) (v := ?_) (a' := ?_) zq2_5 rfl rfl (any_of HT_.out (by kernel_rfl)) (fun _ _ _ h => h) (Or.inl ⟨by rfl, ?_⟩) ?_ ?_
         rotate_left
         ·intro w'
          go_simp
          with_reducible rfl
         rotate_left
         ·simp only [Act.put, zp2a, zp2b, zp2c, i64_w, i32_w]
          rfl
         refine pure_ (i := 5) (N := some 16) (v := ?_) (a' := ?_) zq2_6 rfl rfl (any_of HT_.out (by kernel_rfl)) (fun _ _ _ h => h) (Or.inl ⟨by rfl, ?_⟩) ?_ ?_
         rotate_left
         ·intro w'
          go_simp
          with_reducible rfl
         rotate_left
         ·simp only [Act.put, zp2a, zp2b, zp2c, i64_w, i32_w]
          rfl
         refine pure_ (i := 7) (N := some 18) (v := ?_) (a' := ?_) #[zt2,zt2,zt2,zt2,zt2,zt2,zf2,zt2,zf2,zf2,zf2,zf2,zf2,zf2] rfl rfl (any_of HT_.out (by kernel_rfl)) (fun _ _ _ h => h) (Or.inl ⟨by rfl, ?_⟩) ?_ ?_
         rotate_left
         ·intro w'
          go_simp
          with_reducible rfl
         rotate_left
         ·simp only [Act.put, zp2a, zp2b, zp2c, i64_w, i32_w]
          rfl
         refine pure_ (i := 8) (N := some 19) (v := ?_) (a' := ?_) #[zt2,zt2,zt2,zt2,zt2,zt2,zf2,zt2,zt2,zf2,zf2,zf2,zf2,zf2] rfl rfl (any_of HT_.out (by kernel_rfl)) (fun _ _ _ h => h) (Or.inl ⟨by rfl, ?_⟩) ?_ ?_
         rotate_left
         ·intro w'
          go_simp
          with_reducible rfl
         rotate_left
         ·simp only [Act.put, zp2a, zp2b, zp2c, i64_w, i32_w]
          rfl
         refine pure_ (i := 9) (N := some 20) (v := ?_) (a' := ?_) #[zt2,zt2,zt2,zt2,zt2,zt2,zf2,zt2,zt2,zt2,zf2,zf2,zf2,zf2] rfl rfl (any_of HT_.out (by kernel_rfl)) (fun _ _ _ h => h) (Or.inl ⟨by rfl, ?_⟩) ?_ ?_
         rotate_left
         ·intro w'
          go_simp
          with_reducible rfl
         rotate_left
         ·simp only [Act.put, zp2a, zp2b, zp2c, i64_w, i32_w]
          rfl
         refine take_ (i := 6) (N := some 17) (v := ?_) (a' := ?_) zq2_7 rfl rfl (take_ofW HT_.out HW_.out (by kernel_rfl)) (fun _ _ _ h => h) (Or.inl ⟨by rfl, ?_⟩) hHeld ?_ ?_
         rotate_left
         ·rintro w' ⟨s0, s1, s2, s3, s4, s5⟩
          go_simp
          with_reducible rfl
         rotate_left
         ·simp only [Act.put, zp2a, zp2b, zp2c, i64_w, i32_w]
          rfl
         refine take_ (i := 10) (N := some 21) (v := ?_) (a' := ?_) zq2_8 rfl rfl (take_ofW HT_.out HW_.out (by kernel_rfl)) (fun _ _ _ h => h) (Or.inl ⟨by rfl, ?_⟩) hHeld ?_ ?_
         rotate_left
         ·rintro w' ⟨s0, s1, s2, s3, s4, s5⟩
          go_simp
          with_reducible rfl
         rotate_left
         ·simp only [Act.put, zp2a, zp2b, zp2c, i64_w, i32_w]
          rfl
         refine one_ (i := 11) (N := some 22) zq2_9 rfl rfl (one_of HT_.out (by kernel_rfl)) (by decide) (fun K hK => ?_)
         refine goes_ Try.func116 (by kernel_rfl) rfl #[.agg #[.int .i64 ((rd_T71 l0 x4_1).f0), .int .i64 ((rd_T71 l0 x4_1).f1), .int .i64 ((rd_T71 l0 x4_1).f2)], .agg #[.int .i64 ((rd_T71 l0 x3_1).f0), .int .i64 ((rd_T71 l0 x3_1).f1), .int .i64 ((rd_T71 l0 x3_1).f2)]] (by rfl) rfl rfl (by (try simp only [List.map_toArray, List.map_cons, List.map_nil]); first | done | rfl | (simp only [List.length_drop, List.length_take]; rfl)) ?_
         with_reducible refine (y_l.calls k1 ((rd_T71 l0 x4_1).f0) ((rd_T71 l0 x4_1).f1) ((rd_T71 l0 x4_1).f2) ((rd_T71 l0 x3_1).f0) ((rd_T71 l0 x3_1).f1) ((rd_T71 l0 x3_1).f2) t344 _ A8.out).mono ?_
         rintro e w13 ⟨rfl, hb⟩
         refine ⟨_, rfl, ?_⟩
         have n0_ := z2a (below_step (by repeat (first | (with_reducible first | exact HB.out | apply z2d | apply z2b | apply z2c) | exact HB.out)) hb)
         clear HB
         have HB := n0_
         clear n0_
         (try clear hb)
         (try clear hb2)
         (try clear hk)
         (try clear hi)
         refine hK.out _ _ ⟨((HB.out.cell (z2e w _ hw342_0)).trans hw342_0), ((HB.out.cell (z2e w _ hw342_1)).trans hw342_1), ((HB.out.cell (z2e w _ hw342_2)).trans hw342_2), ((HB.out.cell (z2e w _ hw343_0)).trans hw343_0), ((HB.out.cell (z2e w _ hw343_1)).trans hw343_1), ((HB.out.cell (z2e w _ hw343_2)).trans hw343_2)⟩ (fun hHeld => ?_)
         clear hK K
         refine norm_ (a' := ?_) ?_ ?_
         rotate_left
         ·show Act.put _ (some 22) _ = _
          simp only [Act.put, zp2a, zp2b, zp2c, i64_w, i32_w]
          rfl
         refine pure_ (i := 12) (N := some 23) (v := ?_) (a' := ?_) zq2_10 rfl rfl (any_of HT_.out (by kernel_rfl)) (fun _ _ _ h => h) (Or.inl ⟨by rfl, ?_⟩) ?_ ?_
         rotate_left
         ·intro w'
          go_simp
          with_reducible rfl
         rotate_left
         ·simp only [Act.put, zp2a, zp2b, zp2c, i64_w, i32_w]
          rfl
         refine pure_ (i := 13) (N := some 24) (v := ?_) (a' := ?_) zq2_11 rfl rfl (any_of HT_.out (by kernel_rfl)) (fun _ _ _ h => h) (Or.inl ⟨by rfl, ?_⟩) ?_ ?_
         rotate_left
         ·intro w'
          go_simp
          with_reducible rfl
         rotate_left
         ·simp only [Act.put, zp2a, zp2b, zp2c, i64_w, i32_w]
          rfl
         refine done_ (done_of HT_.out (by kernel_rfl)) ?_
         try go_wp2
         go_roundg k1
         case measure => have := HK1.out; omega
         case rel => exact ⟨(x3_1), (wrap64 (x4_1 + 1)), (by first | rfl | (simp; done) | (simp [*]; done)), (by first | rfl | (simp; done) | (simp [*]; done)), H', ⟨by have := HK1.out; omega⟩, ⟨by repeat (first | (with_reducible first | exact HB.out | apply z2d | apply z2b | apply z2c) | exact HB.out)⟩⟩
       ·rw [if_neg c7] at H
        exact absurd H (by simp)
      ·rw [if_neg c6] at H
       exact absurd H (by simp)
     ·rw [if_neg c5] at H
      exact absurd H (by simp)
   ·rw [if_neg c2] at H
    have c2b0 : decide (x4_1 < (l0.length : Int)) = false := decide_eq_false c2
    clear c2
    obtain rfl := Option.some.inj H
    go_wp2
    go_ret
    exact ⟨by first | rfl | (simp [errW_none, errW_some] <;> rfl) | (simp [*, errW_none, errW_some] <;> rfl), by repeat (first | (with_reducible first | exact HB.out | apply z2d | apply z2b | apply z2c) | exact HB.out)⟩
def y_hb.f (l0 : List (S71)) (a1 : Int) : Option ((List (S71))) := (some (([] : List (S71)) : List (S71))).bind fun y355 => (if 0 ≤ a1 then (if a1 ≤ (l0.length : Int) then ((some (l0.take (a1 : Int).toNat : List (S71))).bind fun y358 => (if y355.length + y358.length < 5864062014805 then ((some (y355 ++ y358 : List (S71))).bind fun y362 => (if 0 ≤ (wrap64 (a1 + 1)) then (if (wrap64 (a1 + 1)) ≤ (l0.length : Int) then ((some (l0.drop ((wrap64 (a1 + 1)) : Int).toNat : List (S71))).bind fun y365 => (if y362.length + y365.length < 5864062014805 then (some (y362 ++ y365)) else (none))) else (none)) else (none))) else (none))) else (none)) else (none))
def y_hb.T1 : Bool × List (List Nat × List Nat) := (true, [([], []), ([], []), ([], []), ([1, 2], [1, 2]), ([0, 3], [0, 3]), ([], []), ([], []), ([6], [6]), ([5, 7], [5, 7]), ([4, 8, 4], [4, 8]), ([9, 9, 0, 1, 2, 3, 4, 5, 6, 7, 8, 9], [9])])
def y_hb.B1 : List Nat := [0, 0, 0, 6, 15, 0, 0, 64, 224, 511, 1023]
theorem y_hb.tab1 : rtab .any (opsOf Try.f117 1) = y_hb.T1 := by kernel_rfl
theorem y_hb.bits1 : waitsOk y_hb.T1.2 y_hb.B1 = true := by kernel_rfl
theorem y_hb.calls (A0 : Option Addr) (c0 : Nat) (l0 : List (S71)) (a1 : Int) (r : List (S71)) (w : World) (hr0 : Kd.C k71 w A0 l0.length l0) (hc0 : l0.length ≤ c0) (h : y_hb.f l0 a1 = some r) :
  Calls Try.prog 117 #[.slice A0 l0.length c0, .int .i64 a1] w fun e w' => ∃ v0_ : Value, e = .returned (v0_) ∧ Kd.R k71 71 w' w.heap.size (fun _ => True) v0_ r ∧ Below w.heap.size w w' := by
 have HR0 := z2a hr0
 have HC0 := z2a hc0
 clear hr0 hc0
 have HB := z2a (Below.refl w.heap.size w)
 have H := h
 unfold y_hb.f at H
 clear h
 obtain ⟨y355, hy355⟩ : ∃ y_ : List (S71), y_ = (([] : List (S71))) := ⟨_, rfl⟩
 replace H : (if 0 ≤ a1 then (if a1 ≤ (l0.length : Int) then ((some (l0.take (a1 : Int).toNat : List (S71))).bind fun y358 => (if y355.length + y358.length < 5864062014805 then ((some (y355 ++ y358 : List (S71))).bind fun y362 => (if 0 ≤ (wrap64 (a1 + 1)) then (if (wrap64 (a1 + 1)) ≤ (l0.length : Int) then ((some (l0.drop ((wrap64 (a1 + 1)) : Int).toNat : List (S71))).bind fun y365 => (if y362.length + y365.length < 5864062014805 then (some (y362 ++ y365)) else (none))) else (none)) else (none))) else (none))) else (none)) else (none)) = some r := by first | (rw [hy355]; with_reducible exact H) | (have H2_ := (Option.bind_some _ _).symm.trans H; rw [hy355]; with_reducible exact H2_) | (have H2_ := (Option.bind_some _ _).symm.trans H; with_reducible exact H2_) | with_reducible exact H | (rw [hy355]; exact H) | exact H
 have Ny355 := z2a hy355
 clear hy355
 by_cases c3 : 0 ≤ a1
 ·rw [if_pos c3] at H
  have c3b0 := eq_true c3
  have c3b1 : decide (0 ≤ a1) = true := z2g c3
  clear c3
  by_cases c4 : a1 ≤ (l0.length : Int)
  ·rw [if_pos c4] at H
   have c4b0 := eq_true c4
   have c4b1 : decide (a1 ≤ (l0.length : Int)) = true := z2g c4
   clear c4
   obtain ⟨y358, hy358⟩ : ∃ y_ : List (S71), y_ = (l0.take (a1 : Int).toNat) := ⟨_, rfl⟩
   replace H : (if y355.length + y358.length < 5864062014805 then ((some (y355 ++ y358 : List (S71))).bind fun y362 => (if 0 ≤ (wrap64 (a1 + 1)) then (if (wrap64 (a1 + 1)) ≤ (l0.length : Int) then ((some (l0.drop ((wrap64 (a1 + 1)) : Int).toNat : List (S71))).bind fun y365 => (if y362.length + y365.length < 5864062014805 then (some (y362 ++ y365)) else (none))) else (none)) else (none))) else (none)) = some r := by first | (rw [hy358]; with_reducible exact H) | (have H2_ := (Option.bind_some _ _).symm.trans H; rw [hy358]; with_reducible exact H2_) | (have H2_ := (Option.bind_some _ _).symm.trans H; with_reducible exact H2_) | with_reducible exact H | (rw [hy358]; exact H) | exact H
   have Ny358 := z2a hy358
   clear hy358
   by_cases c5 : y355.length + y358.length < 5864062014805
   ·rw [if_pos c5] at H
    have LMc5 := z2a c5
    clear c5
    obtain ⟨y362, hy362⟩ : ∃ y_ : List (S71), y_ = (y355 ++ y358) := ⟨_, rfl⟩
    replace H : (if 0 ≤ (wrap64 (a1 + 1)) then (if (wrap64 (a1 + 1)) ≤ (l0.length : Int) then ((some (l0.drop ((wrap64 (a1 + 1)) : Int).toNat : List (S71))).bind fun y365 => (if y362.length + y365.length < 5864062014805 then (some (y362 ++ y365)) else (none))) else (none)) else (none)) = some r := by first | (rw [hy362]; with_reducible exact H) | (have H2_ := (Option.bind_some _ _).symm.trans H; rw [hy362]; with_reducible exact H2_) | (have H2_ := (Option.bind_some _ _).symm.trans H; with_reducible exact H2_) | with_reducible exact H | (rw [hy362]; exact H) | exact H
    have Ny362 := z2a hy362
    clear hy362
    obtain ⟨ji6, hji6⟩ : ∃ j_ : Int, (wrap64 (a1 + 1)) = j_ := ⟨_, rfl⟩
    replace H : (if 0 ≤ (ji6) then (if (ji6) ≤ (l0.length : Int) then ((some (l0.drop ((ji6) : Int).toNat : List (S71))).bind fun y365 => (if y362.length + y365.length < 5864062014805 then (some (y362 ++ y365)) else (none))) else (none)) else (none)) = some r := by first | (rw [hji6] at H; exact H) | (simp only [hji6] at H ⊢; exact H)
    have hji6w : (IntKind.i64.wrap (a1 + 1)) = ji6 := (i64_w _).trans hji6
    by_cases c7 : 0 ≤ (ji6)
    ·rw [if_pos c7] at H
     have c7b0 := eq_true c7
     have c7b1 : decide (0 ≤ (ji6)) = true := z2g c7
     clear c7
     by_cases c8 : (ji6) ≤ (l0.length : Int)
     ·rw [if_pos c8] at H
      have c8b0 := eq_true c8
      have c8b1 : decide ((ji6) ≤ (l0.length : Int)) = true := z2g c8
      clear c8
      obtain ⟨y365, hy365⟩ : ∃ y_ : List (S71), y_ = (l0.drop ((ji6) : Int).toNat) := ⟨_, rfl⟩
      replace H : (if y362.length + y365.length < 5864062014805 then (some (y362 ++ y365)) else (none)) = some r := by first | (rw [hy365]; with_reducible exact H) | (have H2_ := (Option.bind_some _ _).symm.trans H; rw [hy365]; with_reducible exact H2_) | (have H2_ := (Option.bind_some _ _).symm.trans H; with_reducible exact H2_) | with_reducible exact H | (rw [hy365]; exact H) | exact H
      have Ny365 := z2a hy365
      clear hy365
      by_cases c9 : y362.length + y365.length < 5864062014805
      ·rw [if_pos c9] at H
       have LMc9 := z2a c9
       clear c9
       obtain ⟨y369, hy369⟩ : ∃ y_ : List (S71), y_ = (y362 ++ y365) := ⟨_, rfl⟩
       replace H : (some y369) = some r := by first | (rw [hy369]; with_reducible exact H) | (have H2_ := (Option.bind_some _ _).symm.trans H; rw [hy369]; with_reducible exact H2_) | (have H2_ := (Option.bind_some _ _).symm.trans H; with_reducible exact H2_) | with_reducible exact H | (rw [hy369]; exact H) | exact H
       have Ny369 := z2a hy369
       clear hy369
       obtain rfl := Option.some.inj H
       go_enter Try.func117, Try.ntmps117
       try go_wp2
       have n0_ := z2a (z2c HB.out)
       clear HB
       have HB := n0_
       clear n0_
       have q11 : (a1 : Int) ≤ ((l0.length : Int) : Int) := z2f (by first | (with_reducible assumption) | assumption)
       obtain ⟨i011, hi011, _, hsz11, _⟩ := info_parts info71
       have hroom11 : l0.length ≤ c0 := HC0.out
       have hC11 : Kd.C k71 _ A0 l0.length l0 := HR0.out
       have hcut11 := cut_to (P := Try.prog) 24 71 .i64 Try.underlying24 hi011 A0 l0.length c0 a1 (z2f (by first | (with_reducible assumption) | assumption)) q11 hroom11
       have hr11 := Kd.C_take (m := (a1 : Int).toNat) hC11 (by omega)
       have hy11 : y358.length = (a1 : Int).toNat := (by rw [Ny358.out, List.length_take]; omega)
       rw [← Ny358.out] at hr11
       rw [← hy11] at hcut11
       have HR361 := z2a hr11
       have HC361 := z2a (show y358.length ≤ c0 from by omega)
       clear hr11 hC11 hroom11 hi011 hsz11
       have KY11 := z2a hy11
       clear hy11
       replace q11 := eq_true q11
       have q12 : ((ji6) : Int) ≤ ((l0.length : Int) : Int) := z2f (by first | (with_reducible assumption) | assumption)
       obtain ⟨i012, hi012, _, hsz12, _⟩ := info_parts info71
       have hroom12 : l0.length ≤ c0 := HC0.out
       have hC12 : Kd.C k71 _ A0 l0.length l0 := HR0.out
       have q012 : (0 : Int) ≤ ((ji6) : Int) := z2f (by first | (with_reducible assumption) | assumption)
       have hcut12 := cut_from (P := Try.prog) 24 71 .i64 Try.underlying24 hi012 3 hsz12 A0 l0.length c0 (ji6) q012 q12
       have hr12 := Kd.C_drop (m := ((ji6) : Int).toNat) (c := c0) hC12 (by omega) hroom12
       obtain ⟨A12, hA12⟩ : ∃ A1, A1 = (if c0 = ((ji6) : Int).toNat then A0 else (A0 : Option Addr).map (·.add (((ji6) : Int).toNat * 3))) := ⟨_, rfl⟩
       obtain ⟨c12, hc12⟩ : ∃ c1, c1 = c0 - ((ji6) : Int).toNat := ⟨_, rfl⟩
       have hy12 : y365.length = l0.length - ((ji6) : Int).toNat := (by rw [Ny365.out, List.length_drop] <;> omega)
       rw [show (l0).drop ((ji6) : Int).toNat = y365 from Ny365.out.symm] at hr12
       replace hr12 : Kd.C k71 _ A12 y365.length y365 := (by rw [hA12]; exact hr12)
       rw [← hy12, ← hA12, ← hc12] at hcut12
       have HR368 := z2a hr12
       have HC368 := z2a (show y365.length ≤ c12 from by rw [hy12, hc12]; exact Nat.sub_le_sub_right hroom12 _)
       clear hr12 hC12 hroom12 hi012 hsz12 hc12
       have KY12 := z2a hy12
       have KA12 := z2a hA12
       clear hy12 hA12
       replace q12 := eq_true q12
       refine start_ (n := 11) (S := fun w' => True) (ds := []) #[zf2,zf2,zf2,zf2,zf2,zf2,zf2,zf2,zf2,zf2,zf2] (by kernel_rfl) rfl rfl trivial (fun hHeld => ?_); refine with_tabW y_hb.tab1 y_hb.bits1 (fun HT_ HW_ => ?_)
       generalize w.drew = w10 at HB HR361 HR368 hHeld ⊢
       refine pure_ (i := 1) (N := some 6) (v := ?_) (a' := ?_) #[zf2,zt2,zf2,zf2,zf2,zf2,zf2,zf2,zf2,zf2,zf2] rfl rfl (any_of HT_.out (by kernel_rfl)) (fun _ _ _ h => h) (Or.inl ⟨by rfl, ?_⟩) ?_ ?_
       rotate_left
       ·intro w'
        go_simp
        with_reducible rfl
       rotate_left
       ·simp only [Act.put, zp2a, zp2b, zp2c, i64_w, i32_w]
        rfl
       refine pure_ (i := 2) (N := some 7) (v := ?_) (a' := ?_) #[zf2,zt2,zt2,zf2,zf2,zf2,zf2,zf2,zf2,zf2,zf2] rfl rfl (any_of HT_.out (by kernel_rfl)) (fun _ _ _ h => h) (Or.inl ⟨by rfl, ?_⟩) ?_ ?_
       rotate_left
       ·intro w'
        go_simp
        with_reducible rfl
       rotate_left
       ·simp only [Act.put, zp2a, zp2b, zp2c, i64_w, i32_w]
        rfl
       refine pure_ (i := 3) (N := some 8) (v := ?_) (a' := ?_) #[zf2,zt2,zt2,zt2,zf2,zf2,zf2,zf2,zf2,zf2,zf2] rfl rfl (any_of HT_.out (by kernel_rfl)) (fun _ _ _ h => h) (Or.inl ⟨by rfl, ?_⟩) ?_ ?_
       rotate_left
       ·intro w'
        go_simp
        with_reducible rfl
       rotate_left
       ·simp only [Act.put, zp2a, zp2b, zp2c, i64_w, i32_w]
        rfl
       refine pure_ (i := 5) (N := some 10) (v := ?_) (a' := ?_) #[zf2,zt2,zt2,zt2,zf2,zt2,zf2,zf2,zf2,zf2,zf2] rfl rfl (any_of HT_.out (by kernel_rfl)) (fun _ _ _ h => h) (Or.inl ⟨by rfl, ?_⟩) ?_ ?_
       rotate_left
       ·intro w'
        go_simp
        with_reducible rfl
       rotate_left
       ·simp only [Act.put, zp2a, zp2b, zp2c, i64_w, i32_w]
        rfl
       refine pure_ (i := 6) (N := some 11) (v := ?_) (a' := ?_) #[zf2,zt2,zt2,zt2,zf2,zt2,zt2,zf2,zf2,zf2,zf2] rfl rfl (any_of HT_.out (by kernel_rfl)) (fun _ _ _ h => h) (Or.inl ⟨by rfl, ?_⟩) ?_ ?_
       rotate_left
       ·intro w'
        go_simp
        with_reducible rfl
       rotate_left
       ·simp only [Act.put, zp2a, zp2b, zp2c, i64_w, i32_w]
        rfl
       refine pure_ (i := 7) (N := some 12) (v := ?_) (a' := ?_) #[zf2,zt2,zt2,zt2,zf2,zt2,zt2,zt2,zf2,zf2,zf2] rfl rfl (any_of HT_.out (by kernel_rfl)) (fun _ _ _ h => h) (Or.inl ⟨by rfl, ?_⟩) ?_ ?_
       rotate_left
       ·intro w'
        go_simp
        with_reducible rfl
       rotate_left
       ·simp only [Act.put, zp2a, zp2b, zp2c, i64_w, i32_w]
        rfl
       refine pure_ (i := 8) (N := some 13) (v := ?_) (a' := ?_) #[zf2,zt2,zt2,zt2,zf2,zt2,zt2,zt2,zt2,zf2,zf2] rfl rfl (any_of HT_.out (by kernel_rfl)) (fun _ _ _ h => h) (Or.inl ⟨by rfl, ?_⟩) ?_ ?_
       rotate_left
       ·intro w'
        go_simp
        with_reducible rfl
       rotate_left
       ·simp only [Act.put, zp2a, zp2b, zp2c, i64_w, i32_w]
        rfl
       refine one_ (i := 0) (N := some 5) #[zt2,zt2,zt2,zt2,zf2,zt2,zt2,zt2,zt2,zf2,zf2] rfl rfl (one_of HT_.out (by kernel_rfl)) (by decide) (fun K hK => ?_)
       refine Kd.R_lit_step k71 _ 71 ?hg (N := 5) ?hd (xs := ([] : List (S71))) (inner := []) (ok := fun _ => True) (okp := fun _ => True) ?hr ?hp (fun _ hk => hk) trivial (Below.refl _ _) (Nat.le_refl _) (by simp) ?_; (case hd => rfl); (case hg => rfl); (case hr => first | (go_simp; done) | (go_simp; rfl)); (case hp => exact (Reps.none _ _))
       intro v356 w13 ho14 hb hg_ hnew_
       clear hg_ hnew_
       (first | rw [← Ny355.out] at ho14 | (simp only [Int.reduceToNat] at ho14; rw [← Ny355.out] at ho14))
       have n0_ := z2a (Kd.R_lower ho14 (below_size (by repeat (first | (with_reducible first | exact HB.out | apply z2d | apply z2b | apply z2c) | exact HB.out))))
       have n1_ := z2a (below_step (by repeat (first | (with_reducible first | exact HB.out | apply z2d | apply z2b | apply z2c) | exact HB.out)) hb)
       clear HB
       have HO357 := n0_
       have HB := n1_
       clear n0_ n1_
       clear hb ho14
       refine hK.out _ _ trivial (fun hHeld => ?_)
       clear hK K
       refine norm_ (a' := ?_) ?_ ?_
       rotate_left
       ·show Act.put _ (some 5) _ = _
        simp only [Act.put, zp2a, zp2b, zp2c, i64_w, i32_w]
        rfl
       refine one_ (i := 4) (N := some 9) #[zt2,zt2,zt2,zt2,zt2,zt2,zt2,zt2,zt2,zf2,zf2] rfl rfl (one_of HT_.out (by kernel_rfl)) (by decide) (fun K hK => ?_)
       refine Kd.R_append_rows_step k71 (w0 := w) w.heap.size (by rfl) (.tmp 5) (.tmp 8) 24 71 (.agg #[(.int .i64 0), (.int .i64 0), (.int .i64 0)]) 24 rfl Try.underlying24 info71 rfl (by decide) (by omega) v356 y355 y358 _ _ _ (fun _ => True) (fun _ => False) rfl rfl ?aO ?aR (fun _ _ h => h) (fun _ h => h.elim) ?aF ?aB ?aS ?aL ?_
       (case aR => repeat (first | exact (Kd.C_below HR361.out HB.out) | (with_reducible refine Kd.C_alloc ?_ _) | (with_reducible refine Kd.C_drewN ?_ _) | (with_reducible refine Kd.C_drew ?_)))
       (case aB => exact (by repeat (first | (with_reducible first | exact HB.out | apply z2d | apply z2b | apply z2c) | exact HB.out)))
       (case aF => exact (fun _ _ => trivial))
       (case aO => exact (by (with_reducible repeat (first | apply Kd.R_alloc | apply Kd.R_drewN | apply Kd.R_drew)); exact HO357.out))
       (case aS => exact (below_size (by repeat (first | (with_reducible first | exact HB.out | apply z2d | apply z2b | apply z2c) | exact HB.out))))
       (case aL => have := LMc5.out; omega)
       intro v363 w15 ho hb hg hat
       rw [← Ny362.out] at ho
       have n0_ := z2a (hb)
       have n1_ := z2a (ho)
       clear HB
       clear HO357
       have HB := n0_
       have HO364 := n1_
       clear n0_ n1_
       clear ho hb hg hat
       refine hK.out _ _ trivial (fun hHeld => ?_)
       clear hK K
       refine norm_ (a' := ?_) ?_ ?_
       rotate_left
       ·show Act.put _ (some 9) _ = _
        simp only [Act.put, zp2a, zp2b, zp2c, i64_w, i32_w]
        rfl
       refine one_ (i := 9) (N := some 14) #[zt2,zt2,zt2,zt2,zt2,zt2,zt2,zt2,zt2,zt2,zf2] rfl rfl (one_of HT_.out (by kernel_rfl)) (by decide) (fun K hK => ?_)
       refine Kd.R_append_rows_step k71 (w0 := w) w.heap.size (by rfl) (.tmp 9) (.tmp 13) 24 71 (.agg #[(.int .i64 0), (.int .i64 0), (.int .i64 0)]) 24 rfl Try.underlying24 info71 rfl (by decide) (by omega) v363 y362 y365 _ _ _ (fun _ => True) (fun _ => False) rfl rfl ?aO ?aR (fun _ _ h => h) (fun _ h => h.elim) ?aF ?aB ?aS ?aL ?_
       (case aR => repeat (first | exact (Kd.C_below HR368.out HB.out) | (with_reducible refine Kd.C_alloc ?_ _) | (with_reducible refine Kd.C_drewN ?_ _) | (with_reducible refine Kd.C_drew ?_)))
       (case aB => exact (by repeat (first | (with_reducible first | exact HB.out | apply z2d | apply z2b | apply z2c) | exact HB.out)))
       (case aF => exact (fun _ _ => trivial))
       (case aO => exact (by (with_reducible repeat (first | apply Kd.R_alloc | apply Kd.R_drewN | apply Kd.R_drew)); exact HO364.out))
       (case aS => exact (below_size (by repeat (first | (with_reducible first | exact HB.out | apply z2d | apply z2b | apply z2c) | exact HB.out))))
       (case aL => have := LMc9.out; omega)
       intro v370 w16 ho hb hg hat
       rw [← Ny369.out] at ho
       have n0_ := z2a (hb)
       have n1_ := z2a (ho)
       clear HB
       clear HO364
       have HB := n0_
       have HO371 := n1_
       clear n0_ n1_
       clear ho hb hg hat
       refine hK.out _ _ trivial (fun hHeld => ?_)
       clear hK K
       refine norm_ (a' := ?_) ?_ ?_
       rotate_left
       ·show Act.put _ (some 14) _ = _
        simp only [Act.put, zp2a, zp2b, zp2c, i64_w, i32_w]
        rfl
       refine pure_ (i := 10) (N := some 4) (v := ?_) (a' := ?_) #[zt2,zt2,zt2,zt2,zt2,zt2,zt2,zt2,zt2,zt2,zt2] rfl rfl (any_of HT_.out (by kernel_rfl)) (fun _ _ _ h => h) (Or.inl ⟨by rfl, ?_⟩) ?_ ?_
       rotate_left
       ·intro w'
        go_simp
        with_reducible rfl
       rotate_left
       ·simp only [Act.put, zp2a, zp2b, zp2c, i64_w, i32_w]
        rfl
       refine done_ (done_of HT_.out (by kernel_rfl)) ?_
       try go_wp2
       go_ret
       exact ⟨_, by first | rfl | (simp [errW_none, errW_some] <;> rfl) | (simp only [← hji6]; first | rfl | (simp [errW_none, errW_some] <;> rfl)) | (simp [*, errW_none, errW_some] <;> rfl), by (with_reducible repeat (first | apply Kd.R_alloc | apply Kd.R_drewN | apply Kd.R_drew)); exact HO371.out, by repeat (first | (with_reducible first | exact HB.out | apply z2d | apply z2b | apply z2c) | exact HB.out)⟩
      ·rw [if_neg c9] at H
       exact absurd H (by simp)
     ·rw [if_neg c8] at H
      exact absurd H (by simp)
    ·rw [if_neg c7] at H
     exact absurd H (by simp)
   ·rw [if_neg c5] at H
    exact absurd H (by simp)
  ·rw [if_neg c4] at H
   exact absurd H (by simp)
 ·rw [if_neg c3] at H
  exact absurd H (by simp)
end Go.Proofs.Ytkcicbigpbdjpaa.P
end
