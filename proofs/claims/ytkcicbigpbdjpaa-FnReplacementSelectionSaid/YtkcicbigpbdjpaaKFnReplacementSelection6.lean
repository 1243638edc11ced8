-- merged by pack.py out of Px9 Px10 Px11 (words: printed by the kit's print.sh; what this claim does not use is left out)

import Derived.Test.YtkcicbigpbdjpaaKFnReplacementSelection1
namespace Go.Proofs.Ytkcicbigpbdjpaa
abbrev zq6_0 : Array Bool := #[false, false, false, false, false, false, false, false, false, false, false, false, false, false]
abbrev zq6_1 : Array Bool := #[true, false, false, false, false, false, false, false, false, false, false, false, false, false]
abbrev zq6_2 : Array Bool := #[true, true, false, false, false, false, false, false, false, false, false, false, false, false]
abbrev zq6_3 : Array Bool := #[true, true, true, false, false, false, false, false, false, false, false, false, false, false]
abbrev zq6_4 : Array Bool := #[true, true, true, true, false, false, false, false, false, false, false, false, false, false]
abbrev zq6_5 : Array Bool := #[true, true, true, true, true, false, false, false, false, false, false, false, false, false]
abbrev zq6_6 : Array Bool := #[true, true, true, true, true, true, false, false, false, false, false, false, false, false]
abbrev zq6_7 : Array Bool := #[true, true, true, true, true, true, true, true, true, true, false, false, false, false]
abbrev zq6_8 : Array Bool := #[true, true, true, true, true, true, true, true, true, true, true, false, false, false]
abbrev zq6_9 : Array Bool := #[true, true, true, true, true, true, true, true, true, true, true, true, false, false]
abbrev zq6_10 : Array Bool := #[true, true, true, true, true, true, true, true, true, true, true, true, true, false]
abbrev zq6_11 : Array Bool := #[true, true, true, true, true, true, true, true, true, true, true, true, true, true]
abbrev zt6 : Bool := true
abbrev zf6 : Bool := false
section
open Go.RowKit Go.Proofs.YtkcicbigpbdjpaaW.PrintWords Go.Proofs.YtkcicbigpbdjpaaW.PrintLast Go.Proofs.YtkcicbigpbdjpaaW.PrintMore
abbrev z6a := @Aside0.mk
abbrev z6b := @pw_below_drewN
abbrev z6c := @below_drew1
abbrev z6d := @below_alloc
abbrev z6e := @World.block_lt_of_cell?
abbrev z6f := @of_decide_eq_true
abbrev z6g := @decide_eq_true
abbrev z6h := @blk_drewN
abbrev z6i := @blk_alloc
end
theorem zm6a {α β : Type} (f : α → β) (l : List α) : l.toArray.map f = (l.map f).toArray := by simp
theorem zm6b {α β : Type} (f : α → β) (a : α) (l : List α) : (a :: l).map f = f a :: l.map f := rfl
theorem zm6c {α β : Type} (f : α → β) : ([] : List α).map f = [] := rfl
theorem zm6d {α : Type} (n : Nat) (l : List α) : (l.drop n).length = l.length - n := List.length_drop
theorem zm6e {α : Type} (n : Nat) (l : List α) : (l.take n).length = min n l.length := List.length_take
theorem zp6a {α : Type} (l : List α) (i : Nat) (a : α) : l.toArray.setIfInBounds i a = (l.set i a).toArray := List.setIfInBounds_toArray l i a
theorem zp6b {α : Type} (x : α) (l : List α) (a : α) : (x :: l).set 0 a = a :: l := List.set_cons_zero
theorem zp6c {α : Type} (x : α) (l : List α) (n : Nat) (a : α) : (x :: l).set (n + 1) a = x :: l.set n a := List.set_cons_succ
end Go.Proofs.Ytkcicbigpbdjpaa
set_option maxHeartbeats 8000000
set_option maxRecDepth 100000
section
namespace Go.Proofs.Ytkcicbigpbdjpaa.P
open Go.RowKit Go.Proofs.YtkcicbigpbdjpaaW.PrintWords Go.Proofs.YtkcicbigpbdjpaaW.PrintLast Go.Proofs.YtkcicbigpbdjpaaW.PrintMore
attribute [local go_sem] max2_int min2_int max_two min_two max_three min_three max_four min_four
set_option linter.unusedVariables false
set_option linter.unusedSimpArgs false
def y_g.l0 : Nat → List Int → List Int → Int → Option (Int)
 | 0, _, _, _ => none
 | k + 1, x5, x6, x7 => if x7 < 3 then (if 0 ≤ x7 then (if x7 < (x5.length : Int) then (if x7 < (x6.length : Int) then (if (rd x5 x7) < (rd x6 x7) then (some (-1)) else (if (rd x5 x7) > (rd x6 x7) then (some 1) else (y_g.l0 k x5 x6 (wrap64 (x7 + 1))))) else (none)) else (none)) else (none)) else (some 0)
def y_g.f (k : Nat) (a0_0 : Int) (a0_1 : Int) (a0_2 : Int) (a1_0 : Int) (a1_1 : Int) (a1_2 : Int) : Option (Int) := y_g.l0 k (([a0_0, a0_1, a0_2] : List Int)) (([a1_0, a1_1, a1_2] : List Int)) 0
theorem y_g.mono_l : ∀ k, (∀ y0 y1 y2, LeO (y_g.l0 k y0 y1 y2) (y_g.l0 (k + 1) y0 y1 y2))
 | 0 => fun _ _ _ r h => by simp [y_g.l0] at h
 | k + 1 => by
  have ih0 := y_g.mono_l k
  ·intro y0 y1 y2
   unfold y_g.l0
   repeat' first
   | (with_reducible exact ih0 _ _ _)
   | (with_reducible exact LeO.refl _)
   | (with_reducible exact LeO.none _)
   | (with_reducible refine LeO.ite ?_ ?_)
   | (with_reducible refine LeO.bind ?_ (fun _ => ?_))
   | exact ih0 _ _ _
   | exact LeO.none _
   | refine LeO.ite ?_ ?_
   | refine LeO.bind ?_ (fun _ => ?_)
theorem y_g.mono : ∀ a0 a1 a2 a3 a4 a5 k, LeO (y_g.f k a0 a1 a2 a3 a4 a5) (y_g.f (k + 1) a0 a1 a2 a3 a4 a5) := by
 intro a0 a1 a2 a3 a4 a5 k
 have ih0 := y_g.mono_l k
 unfold y_g.f
 repeat' first
   | (with_reducible exact ih0 _ _ _)
   | (with_reducible exact LeO.refl _)
   | (with_reducible exact LeO.none _)
   | (with_reducible refine LeO.ite ?_ ?_)
   | (with_reducible refine LeO.bind ?_ (fun _ => ?_))
   | exact ih0 _ _ _
   | exact LeO.none _
   | refine LeO.ite ?_ ?_
   | refine LeO.bind ?_ (fun _ => ?_)
theorem y_g.calls (k : Nat) (a0_0 : Int) (a0_1 : Int) (a0_2 : Int) (a1_0 : Int) (a1_1 : Int) (a1_2 : Int) (r : Int) (w : World) (h : y_g.f k a0_0 a0_1 a0_2 a1_0 a1_1 a1_2 = some r) :
  Calls Try.prog 116 #[.agg #[.int .i64 a0_0, .int .i64 a0_1, .int .i64 a0_2], .agg #[.int .i64 a1_0, .int .i64 a1_1, .int .i64 a1_2]] w fun e w' => e = .returned (.int .i64 r) ∧ Below w.heap.size w w' := by
 have hu71 := Try.underlying71
 have HB := z6a (Below.refl w.heap.size w)
 have H : (y_g.l0 k (([a0_0, a0_1, a0_2] : List Int)) (([a1_0, a1_1, a1_2] : List Int)) 0) = some r := h
 clear h
 obtain ⟨y332, hy332⟩ : ∃ y_ : List Int, y_ = (([a0_0, a0_1, a0_2] : List Int)) := ⟨_, rfl⟩
 replace H : (y_g.l0 k y332 (([a1_0, a1_1, a1_2] : List Int)) 0) = some r := by first | (rw [hy332]; with_reducible exact H) | (have H2_ := (Option.bind_some _ _).symm.trans H; rw [hy332]; with_reducible exact H2_) | (have H2_ := (Option.bind_some _ _).symm.trans H; with_reducible exact H2_) | with_reducible exact H | (rw [hy332]; exact H) | exact H
 have Ny332 := z6a hy332
 clear hy332
 obtain ⟨y335, hy335⟩ : ∃ y_ : List Int, y_ = (([a1_0, a1_1, a1_2] : List Int)) := ⟨_, rfl⟩
 replace H : (y_g.l0 k y332 y335 0) = some r := by first | (rw [hy335]; with_reducible exact H) | (have H2_ := (Option.bind_some _ _).symm.trans H; rw [hy335]; with_reducible exact H2_) | (have H2_ := (Option.bind_some _ _).symm.trans H; with_reducible exact H2_) | with_reducible exact H | (rw [hy335]; exact H) | exact H
 have Ny335 := z6a hy335
 clear hy335
 have H' := z6a H
 clear H
 go_enter Try.func116, Try.ntmps116
 go_wp2_with (first | ((with_reducible refine gate_dst (N := 2) rfl ?_); refine box_event ?hg (N := 2) ?hd (cs := #[.int .i64 a0_0, .int .i64 a0_1, .int .i64 a0_2]) (t := 71) ?hr ?_; (case hd => rfl); (case hg => rfl); (case hr => first | (go_simp; done) | (go_simp; rfl)); intro gb330 hg w3 hbox hb; have n0_ := z6a (below_step (by repeat (first | (with_reducible first | exact HB.out | apply z6d | apply z6b | apply z6c) | exact HB.out)) hb); have n1_ := z6a (hbox); have n2_ := z6a ((by rw [hg]; exact (below_size (by repeat (first | (with_reducible first | exact HB.out | apply z6d | apply z6b | apply z6c) | exact HB.out))) : w.heap.size ≤ gb330)); have n3_ := z6a ((by rw [hg]; exact (below_size (by repeat (first | (with_reducible first | exact HB.out | apply z6d | apply z6b | apply z6c) | exact HB.out))) : w.heap.size ≤ gb330)); clear HB; have HB := n0_; have BK330 := n1_; have GW330 := n2_; have GE330 := n3_; clear n0_ n1_ n2_ n3_; clear hb hbox hg) | ((with_reducible refine gate_dst (N := 3) rfl ?_); refine box_event ?hg (N := 3) ?hd (cs := #[.int .i64 a1_0, .int .i64 a1_1, .int .i64 a1_2]) (t := 71) ?hr ?_; (case hd => rfl); (case hg => rfl); (case hr => first | (go_simp; done) | (go_simp; rfl)); intro gb331 hg w4 hbox hb; have n0_ := z6a (blk_below (g := gb330) (o := .cells #[.int .i64 a0_0, .int .i64 a0_1, .int .i64 a0_2] 71 (0, 0)) (by (with_reducible repeat (first | refine z6h ?_ _ | refine blk_drew ?_ | refine z6i ?_ _)); exact BK330.out) hb); have n1_ := z6a (below_step (by repeat (first | (with_reducible first | exact HB.out | apply z6d | apply z6b | apply z6c | refine below_set ?_ GE330.out) | exact HB.out)) hb); have n2_ := z6a (hbox); have n3_ := z6a ((by rw [hg]; exact (below_size (by repeat (first | (with_reducible first | exact HB.out | apply z6d | apply z6b | apply z6c | refine below_set ?_ GE330.out) | exact HB.out))) : w.heap.size ≤ gb331)); have n4_ := z6a ((by rw [hg]; exact (below_size (by repeat (first | (with_reducible first | exact HB.out | apply z6d | apply z6b | apply z6c | refine below_set ?_ GE330.out) | exact HB.out))) : w.heap.size ≤ gb331)); have n5_ := z6a ((by rw [hg]; exact Nat.ne_of_lt (blk_lt (g := gb330) (o := .cells #[.int .i64 a0_0, .int .i64 a0_1, .int .i64 a0_2] 71 (0, 0)) (by (with_reducible repeat (first | refine z6h ?_ _ | refine blk_drew ?_ | refine z6i ?_ _)); exact BK330.out)) : gb330 ≠ gb331)); have n6_ := z6a ((by rw [hg]; exact Nat.ne_of_gt (blk_lt (g := gb330) (o := .cells #[.int .i64 a0_0, .int .i64 a0_1, .int .i64 a0_2] 71 (0, 0)) (by (with_reducible repeat (first | refine z6h ?_ _ | refine blk_drew ?_ | refine z6i ?_ _)); exact BK330.out)) : gb331 ≠ gb330)); clear BK330; clear HB; have BK330 := n0_; have HB := n1_; have BK331 := n2_; have GW331 := n3_; have GE331 := n4_; have NB330_331 := n5_; have NB331_330 := n6_; clear n0_ n1_ n2_ n3_ n4_ n5_ n6_; clear hb hbox hg; have hnb5 := NB330_331.out; have hnc5 := NB331_330.out; obtain ⟨hcz6_0, hcz6_1, hcz6_2⟩ := cells_3 BK330.out; obtain ⟨hfz6_0, hfz6_1, hfz6_2⟩ := frz_3 BK330.out) | ((with_reducible refine gate_dst (N := 14) rfl ?_); refine Kd.R_lit (Kd.int .i64) _ 3 ?hg (N := 14) ?hd (xs := ([a0_0, a0_1, a0_2] : List Int)) (inner := [.int .i64 a0_0, .int .i64 a0_1, .int .i64 a0_2]) (ok := fun _ => True) (okp := fun _ => True) ?hr ?hp (fun _ hk => hk) trivial (Below.refl _ _) (Nat.le_refl _) (by simp) ?_; (case hd => rfl); (case hg => rfl); (case hr => first | (go_simp; done) | (go_simp; rfl)); (case hp => exact (Reps.one (show Kd.M (Kd.int .i64) _ _ _ a0_0 [.int .i64 a0_0] from rfl) (Reps.one (show Kd.M (Kd.int .i64) _ _ _ a0_1 [.int .i64 a0_1] from rfl) (Reps.one (show Kd.M (Kd.int .i64) _ _ _ a0_2 [.int .i64 a0_2] from rfl) (Reps.none _ _))))); intro v333 w7 ho8 hb hg_ hnew_; clear hg_ hnew_; (first | rw [← Ny332.out] at ho8 | (simp only [Int.reduceToNat] at ho8; rw [← Ny332.out] at ho8)); have n0_ := z6a (Kd.R_lower ho8 (below_size (by repeat (first | (with_reducible first | exact HB.out | apply z6d | apply z6b | apply z6c | refine below_set ?_ GE330.out | refine below_set ?_ GE331.out) | exact HB.out)))); have n1_ := z6a (blk_below (g := gb330) (o := .cells #[.int .i64 a0_0, .int .i64 a0_1, .int .i64 a0_2] 71 (0, 0)) (by (with_reducible repeat (first | refine z6h ?_ _ | refine blk_drew ?_ | refine z6i ?_ _)); exact BK330.out) hb); have n2_ := z6a (blk_below (g := gb331) (o := .cells #[.int .i64 a1_0, .int .i64 a1_1, .int .i64 a1_2] 71 (0, 0)) (by (with_reducible repeat (first | refine z6h ?_ _ | refine blk_drew ?_ | refine z6i ?_ _)); exact BK331.out) hb); have n3_ := z6a (below_step (by repeat (first | (with_reducible first | exact HB.out | apply z6d | apply z6b | apply z6c | refine below_set ?_ GE330.out | refine below_set ?_ GE331.out) | exact HB.out)) hb); clear BK330; clear BK331; clear HB; have HO334 := n0_; have BK330 := n1_; have BK331 := n2_; have HB := n3_; clear n0_ n1_ n2_ n3_; clear hb ho8; obtain ⟨hcz9_0, hcz9_1, hcz9_2⟩ := cells_3 BK331.out; obtain ⟨hfz9_0, hfz9_1, hfz9_2⟩ := frz_3 BK331.out) | ((with_reducible refine gate_dst (N := 21) rfl ?_); refine Kd.R_lit (Kd.int .i64) _ 3 ?hg (N := 21) ?hd (xs := ([a1_0, a1_1, a1_2] : List Int)) (inner := [.int .i64 a1_0, .int .i64 a1_1, .int .i64 a1_2]) (ok := fun _ => True) (okp := fun _ => True) ?hr ?hp (fun _ hk => hk) trivial (Below.refl _ _) (Nat.le_refl _) (by simp) ?_; (case hd => rfl); (case hg => rfl); (case hr => first | (go_simp; done) | (go_simp; rfl)); (case hp => exact (Reps.one (show Kd.M (Kd.int .i64) _ _ _ a1_0 [.int .i64 a1_0] from rfl) (Reps.one (show Kd.M (Kd.int .i64) _ _ _ a1_1 [.int .i64 a1_1] from rfl) (Reps.one (show Kd.M (Kd.int .i64) _ _ _ a1_2 [.int .i64 a1_2] from rfl) (Reps.none _ _))))); intro v336 w10 ho11 hb hg_ hnew_; clear hg_ hnew_; (first | rw [← Ny335.out] at ho11 | (simp only [Int.reduceToNat] at ho11; rw [← Ny335.out] at ho11)); have n0_ := z6a (Kd.R_elder' (by (with_reducible repeat (first | apply Kd.R_alloc | apply Kd.R_drewN | apply Kd.R_drew)); exact HO334.out) (Kd.R_base ho11) hb); have n1_ := z6a (Kd.R_lower (Kd.R_new' ho11 (Kd.R_lt (by (with_reducible repeat (first | apply Kd.R_alloc | apply Kd.R_drewN | apply Kd.R_drew)); exact HO334.out))) (below_size (by repeat (first | (with_reducible first | exact HB.out | apply z6d | apply z6b | apply z6c | refine below_set ?_ GE330.out | refine below_set ?_ GE331.out) | exact HB.out)))); have n2_ := z6a (blk_below (g := gb330) (o := .cells #[.int .i64 a0_0, .int .i64 a0_1, .int .i64 a0_2] 71 (0, 0)) (by (with_reducible repeat (first | refine z6h ?_ _ | refine blk_drew ?_ | refine z6i ?_ _)); exact BK330.out) hb); have n3_ := z6a (blk_below (g := gb331) (o := .cells #[.int .i64 a1_0, .int .i64 a1_1, .int .i64 a1_2] 71 (0, 0)) (by (with_reducible repeat (first | refine z6h ?_ _ | refine blk_drew ?_ | refine z6i ?_ _)); exact BK331.out) hb); have n4_ := z6a (below_step (by repeat (first | (with_reducible first | exact HB.out | apply z6d | apply z6b | apply z6c | refine below_set ?_ GE330.out | refine below_set ?_ GE331.out) | exact HB.out)) hb); clear HO334; clear BK330; clear BK331; clear HB; have HO334 := n0_; have HO337 := n1_; have BK330 := n2_; have BK331 := n3_; have HB := n4_; clear n0_ n1_ n2_ n3_ n4_; clear hb ho11))
 repeat (go_quiet (first | ((with_reducible refine gate_dst (N := 2) rfl ?_); refine box_event ?hg (N := 2) ?hd (cs := #[.int .i64 a0_0, .int .i64 a0_1, .int .i64 a0_2]) (t := 71) ?hr ?_; (case hd => rfl); (case hg => rfl); (case hr => first | (go_simp; done) | (go_simp; rfl)); intro gb330 hg w3 hbox hb; have n0_ := z6a (below_step (by repeat (first | (with_reducible first | exact HB.out | apply z6d | apply z6b | apply z6c) | exact HB.out)) hb); have n1_ := z6a (hbox); have n2_ := z6a ((by rw [hg]; exact (below_size (by repeat (first | (with_reducible first | exact HB.out | apply z6d | apply z6b | apply z6c) | exact HB.out))) : w.heap.size ≤ gb330)); have n3_ := z6a ((by rw [hg]; exact (below_size (by repeat (first | (with_reducible first | exact HB.out | apply z6d | apply z6b | apply z6c) | exact HB.out))) : w.heap.size ≤ gb330)); clear HB; have HB := n0_; have BK330 := n1_; have GW330 := n2_; have GE330 := n3_; clear n0_ n1_ n2_ n3_; clear hb hbox hg) | ((with_reducible refine gate_dst (N := 3) rfl ?_); refine box_event ?hg (N := 3) ?hd (cs := #[.int .i64 a1_0, .int .i64 a1_1, .int .i64 a1_2]) (t := 71) ?hr ?_; (case hd => rfl); (case hg => rfl); (case hr => first | (go_simp; done) | (go_simp; rfl)); intro gb331 hg w4 hbox hb; have n0_ := z6a (blk_below (g := gb330) (o := .cells #[.int .i64 a0_0, .int .i64 a0_1, .int .i64 a0_2] 71 (0, 0)) (by (with_reducible repeat (first | refine z6h ?_ _ | refine blk_drew ?_ | refine z6i ?_ _)); exact BK330.out) hb); have n1_ := z6a (below_step (by repeat (first | (with_reducible first | exact HB.out | apply z6d | apply z6b | apply z6c | refine below_set ?_ GE330.out) | exact HB.out)) hb); have n2_ := z6a (hbox); have n3_ := z6a ((by rw [hg]; exact (below_size (by repeat (first | (with_reducible first | exact HB.out | apply z6d | apply z6b | apply z6c | refine below_set ?_ GE330.out) | exact HB.out))) : w.heap.size ≤ gb331)); have n4_ := z6a ((by rw [hg]; exact (below_size (by repeat (first | (with_reducible first | exact HB.out | apply z6d | apply z6b | apply z6c | refine below_set ?_ GE330.out) | exact HB.out))) : w.heap.size ≤ gb331)); have n5_ := z6a ((by rw [hg]; exact Nat.ne_of_lt (blk_lt (g := gb330) (o := .cells #[.int .i64 a0_0, .int .i64 a0_1, .int .i64 a0_2] 71 (0, 0)) (by (with_reducible repeat (first | refine z6h ?_ _ | refine blk_drew ?_ | refine z6i ?_ _)); exact BK330.out)) : gb330 ≠ gb331)); have n6_ := z6a ((by rw [hg]; exact Nat.ne_of_gt (blk_lt (g := gb330) (o := .cells #[.int .i64 a0_0, .int .i64 a0_1, .int .i64 a0_2] 71 (0, 0)) (by (with_reducible repeat (first | refine z6h ?_ _ | refine blk_drew ?_ | refine z6i ?_ _)); exact BK330.out)) : gb331 ≠ gb330)); clear BK330; clear HB; have BK330 := n0_; have HB := n1_; have BK331 := n2_; have GW331 := n3_; have GE331 := n4_; have NB330_331 := n5_; have NB331_330 := n6_; clear n0_ n1_ n2_ n3_ n4_ n5_ n6_; clear hb hbox hg; have hnb5 := NB330_331.out; have hnc5 := NB331_330.out; obtain ⟨hcz6_0, hcz6_1, hcz6_2⟩ := cells_3 BK330.out; obtain ⟨hfz6_0, hfz6_1, hfz6_2⟩ := frz_3 BK330.out) | ((with_reducible refine gate_dst (N := 14) rfl ?_); refine Kd.R_lit (Kd.int .i64) _ 3 ?hg (N := 14) ?hd (xs := ([a0_0, a0_1, a0_2] : List Int)) (inner := [.int .i64 a0_0, .int .i64 a0_1, .int .i64 a0_2]) (ok := fun _ => True) (okp := fun _ => True) ?hr ?hp (fun _ hk => hk) trivial (Below.refl _ _) (Nat.le_refl _) (by simp) ?_; (case hd => rfl); (case hg => rfl); (case hr => first | (go_simp; done) | (go_simp; rfl)); (case hp => exact (Reps.one (show Kd.M (Kd.int .i64) _ _ _ a0_0 [.int .i64 a0_0] from rfl) (Reps.one (show Kd.M (Kd.int .i64) _ _ _ a0_1 [.int .i64 a0_1] from rfl) (Reps.one (show Kd.M (Kd.int .i64) _ _ _ a0_2 [.int .i64 a0_2] from rfl) (Reps.none _ _))))); intro v333 w7 ho8 hb hg_ hnew_; clear hg_ hnew_; (first | rw [← Ny332.out] at ho8 | (simp only [Int.reduceToNat] at ho8; rw [← Ny332.out] at ho8)); have n0_ := z6a (Kd.R_lower ho8 (below_size (by repeat (first | (with_reducible first | exact HB.out | apply z6d | apply z6b | apply z6c | refine below_set ?_ GE330.out | refine below_set ?_ GE331.out) | exact HB.out)))); have n1_ := z6a (blk_below (g := gb330) (o := .cells #[.int .i64 a0_0, .int .i64 a0_1, .int .i64 a0_2] 71 (0, 0)) (by (with_reducible repeat (first | refine z6h ?_ _ | refine blk_drew ?_ | refine z6i ?_ _)); exact BK330.out) hb); have n2_ := z6a (blk_below (g := gb331) (o := .cells #[.int .i64 a1_0, .int .i64 a1_1, .int .i64 a1_2] 71 (0, 0)) (by (with_reducible repeat (first | refine z6h ?_ _ | refine blk_drew ?_ | refine z6i ?_ _)); exact BK331.out) hb); have n3_ := z6a (below_step (by repeat (first | (with_reducible first | exact HB.out | apply z6d | apply z6b | apply z6c | refine below_set ?_ GE330.out | refine below_set ?_ GE331.out) | exact HB.out)) hb); clear BK330; clear BK331; clear HB; have HO334 := n0_; have BK330 := n1_; have BK331 := n2_; have HB := n3_; clear n0_ n1_ n2_ n3_; clear hb ho8; obtain ⟨hcz9_0, hcz9_1, hcz9_2⟩ := cells_3 BK331.out; obtain ⟨hfz9_0, hfz9_1, hfz9_2⟩ := frz_3 BK331.out) | ((with_reducible refine gate_dst (N := 21) rfl ?_); refine Kd.R_lit (Kd.int .i64) _ 3 ?hg (N := 21) ?hd (xs := ([a1_0, a1_1, a1_2] : List Int)) (inner := [.int .i64 a1_0, .int .i64 a1_1, .int .i64 a1_2]) (ok := fun _ => True) (okp := fun _ => True) ?hr ?hp (fun _ hk => hk) trivial (Below.refl _ _) (Nat.le_refl _) (by simp) ?_; (case hd => rfl); (case hg => rfl); (case hr => first | (go_simp; done) | (go_simp; rfl)); (case hp => exact (Reps.one (show Kd.M (Kd.int .i64) _ _ _ a1_0 [.int .i64 a1_0] from rfl) (Reps.one (show Kd.M (Kd.int .i64) _ _ _ a1_1 [.int .i64 a1_1] from rfl) (Reps.one (show Kd.M (Kd.int .i64) _ _ _ a1_2 [.int .i64 a1_2] from rfl) (Reps.none _ _))))); intro v336 w10 ho11 hb hg_ hnew_; clear hg_ hnew_; (first | rw [← Ny335.out] at ho11 | (simp only [Int.reduceToNat] at ho11; rw [← Ny335.out] at ho11)); have n0_ := z6a (Kd.R_elder' (by (with_reducible repeat (first | apply Kd.R_alloc | apply Kd.R_drewN | apply Kd.R_drew)); exact HO334.out) (Kd.R_base ho11) hb); have n1_ := z6a (Kd.R_lower (Kd.R_new' ho11 (Kd.R_lt (by (with_reducible repeat (first | apply Kd.R_alloc | apply Kd.R_drewN | apply Kd.R_drew)); exact HO334.out))) (below_size (by repeat (first | (with_reducible first | exact HB.out | apply z6d | apply z6b | apply z6c | refine below_set ?_ GE330.out | refine below_set ?_ GE331.out) | exact HB.out)))); have n2_ := z6a (blk_below (g := gb330) (o := .cells #[.int .i64 a0_0, .int .i64 a0_1, .int .i64 a0_2] 71 (0, 0)) (by (with_reducible repeat (first | refine z6h ?_ _ | refine blk_drew ?_ | refine z6i ?_ _)); exact BK330.out) hb); have n3_ := z6a (blk_below (g := gb331) (o := .cells #[.int .i64 a1_0, .int .i64 a1_1, .int .i64 a1_2] 71 (0, 0)) (by (with_reducible repeat (first | refine z6h ?_ _ | refine blk_drew ?_ | refine z6i ?_ _)); exact BK331.out) hb); have n4_ := z6a (below_step (by repeat (first | (with_reducible first | exact HB.out | apply z6d | apply z6b | apply z6c | refine below_set ?_ GE330.out | refine below_set ?_ GE331.out) | exact HB.out)) hb); clear HO334; clear BK330; clear BK331; clear HB; have HO334 := n0_; have HO337 := n1_; have BK330 := n2_; have BK331 := n3_; have HB := n4_; clear n0_ n1_ n2_ n3_ n4_; clear hb ho11)); try go_wp2_with (first | ((with_reducible refine gate_dst (N := 2) rfl ?_); refine box_event ?hg (N := 2) ?hd (cs := #[.int .i64 a0_0, .int .i64 a0_1, .int .i64 a0_2]) (t := 71) ?hr ?_; (case hd => rfl); (case hg => rfl); (case hr => first | (go_simp; done) | (go_simp; rfl)); intro gb330 hg w3 hbox hb; have n0_ := z6a (below_step (by repeat (first | (with_reducible first | exact HB.out | apply z6d | apply z6b | apply z6c) | exact HB.out)) hb); have n1_ := z6a (hbox); have n2_ := z6a ((by rw [hg]; exact (below_size (by repeat (first | (with_reducible first | exact HB.out | apply z6d | apply z6b | apply z6c) | exact HB.out))) : w.heap.size ≤ gb330)); have n3_ := z6a ((by rw [hg]; exact (below_size (by repeat (first | (with_reducible first | exact HB.out | apply z6d | apply z6b | apply z6c) | exact HB.out))) : w.heap.size ≤ gb330)); clear HB; have HB := n0_; have BK330 := n1_; have GW330 := n2_; have GE330 := n3_; clear n0_ n1_ n2_ n3_; clear hb hbox hg) | ((with_reducible refine gate_dst (N := 3) rfl ?_); refine box_event ?hg (N := 3) ?hd (cs := #[.int .i64 a1_0, .int .i64 a1_1, .int .i64 a1_2]) (t := 71) ?hr ?_; (case hd => rfl); (case hg => rfl); (case hr => first | (go_simp; done) | (go_simp; rfl)); intro gb331 hg w4 hbox hb; have n0_ := z6a (blk_below (g := gb330) (o := .cells #[.int .i64 a0_0, .int .i64 a0_1, .int .i64 a0_2] 71 (0, 0)) (by (with_reducible repeat (first | refine z6h ?_ _ | refine blk_drew ?_ | refine z6i ?_ _)); exact BK330.out) hb); have n1_ := z6a (below_step (by repeat (first | (with_reducible first | exact HB.out | apply z6d | apply z6b | apply z6c | refine below_set ?_ GE330.out) | exact HB.out)) hb); have n2_ := z6a (hbox); have n3_ := z6a ((by rw [hg]; exact (below_size (by repeat (first | (with_reducible first | exact HB.out | apply z6d | apply z6b | apply z6c | refine below_set ?_ GE330.out) | exact HB.out))) : w.heap.size ≤ gb331)); have n4_ := z6a ((by rw [hg]; exact (below_size (by repeat (first | (with_reducible first | exact HB.out | apply z6d | apply z6b | apply z6c | refine below_set ?_ GE330.out) | exact HB.out))) : w.heap.size ≤ gb331)); have n5_ := z6a ((by rw [hg]; exact Nat.ne_of_lt (blk_lt (g := gb330) (o := .cells #[.int .i64 a0_0, .int .i64 a0_1, .int .i64 a0_2] 71 (0, 0)) (by (with_reducible repeat (first | refine z6h ?_ _ | refine blk_drew ?_ | refine z6i ?_ _)); exact BK330.out)) : gb330 ≠ gb331)); have n6_ := z6a ((by rw [hg]; exact Nat.ne_of_gt (blk_lt (g := gb330) (o := .cells #[.int .i64 a0_0, .int .i64 a0_1, .int .i64 a0_2] 71 (0, 0)) (by (with_reducible repeat (first | refine z6h ?_ _ | refine blk_drew ?_ | refine z6i ?_ _)); exact BK330.out)) : gb331 ≠ gb330)); clear BK330; clear HB; have BK330 := n0_; have HB := n1_; have BK331 := n2_; have GW331 := n3_; have GE331 := n4_; have NB330_331 := n5_; have NB331_330 := n6_; clear n0_ n1_ n2_ n3_ n4_ n5_ n6_; clear hb hbox hg; have hnb5 := NB330_331.out; have hnc5 := NB331_330.out; obtain ⟨hcz6_0, hcz6_1, hcz6_2⟩ := cells_3 BK330.out; obtain ⟨hfz6_0, hfz6_1, hfz6_2⟩ := frz_3 BK330.out) | ((with_reducible refine gate_dst (N := 14) rfl ?_); refine Kd.R_lit (Kd.int .i64) _ 3 ?hg (N := 14) ?hd (xs := ([a0_0, a0_1, a0_2] : List Int)) (inner := [.int .i64 a0_0, .int .i64 a0_1, .int .i64 a0_2]) (ok := fun _ => True) (okp := fun _ => True) ?hr ?hp (fun _ hk => hk) trivial (Below.refl _ _) (Nat.le_refl _) (by simp) ?_; (case hd => rfl); (case hg => rfl); (case hr => first | (go_simp; done) | (go_simp; rfl)); (case hp => exact (Reps.one (show Kd.M (Kd.int .i64) _ _ _ a0_0 [.int .i64 a0_0] from rfl) (Reps.one (show Kd.M (Kd.int .i64) _ _ _ a0_1 [.int .i64 a0_1] from rfl) (Reps.one (show Kd.M (Kd.int .i64) _ _ _ a0_2 [.int .i64 a0_2] from rfl) (Reps.none _ _))))); intro v333 w7 ho8 hb hg_ hnew_; clear hg_ hnew_; (first | rw [← Ny332.out] at ho8 | (simp only [Int.reduceToNat] at ho8; rw [← Ny332.out] at ho8)); have n0_ := z6a (Kd.R_lower ho8 (below_size (by repeat (first | (with_reducible first | exact HB.out | apply z6d | apply z6b | apply z6c | refine below_set ?_ GE330.out | refine below_set ?_ GE331.out) | exact HB.out)))); have n1_ := z6a (blk_below (g := gb330) (o := .cells #[.int .i64 a0_0, .int .i64 a0_1, .int .i64 a0_2] 71 (0, 0)) (by (with_reducible repeat (first | refine z6h ?_ _ | refine blk_drew ?_ | refine z6i ?_ _)); exact BK330.out) hb); have n2_ := z6a (blk_below (g := gb331) (o := .cells #[.int .i64 a1_0, .int .i64 a1_1, .int .i64 a1_2] 71 (0, 0)) (by (with_reducible repeat (first | refine z6h ?_ _ | refine blk_drew ?_ | refine z6i ?_ _)); exact BK331.out) hb); have n3_ := z6a (below_step (by repeat (first | (with_reducible first | exact HB.out | apply z6d | apply z6b | apply z6c | refine below_set ?_ GE330.out | refine below_set ?_ GE331.out) | exact HB.out)) hb); clear BK330; clear BK331; clear HB; have HO334 := n0_; have BK330 := n1_; have BK331 := n2_; have HB := n3_; clear n0_ n1_ n2_ n3_; clear hb ho8; obtain ⟨hcz9_0, hcz9_1, hcz9_2⟩ := cells_3 BK331.out; obtain ⟨hfz9_0, hfz9_1, hfz9_2⟩ := frz_3 BK331.out) | ((with_reducible refine gate_dst (N := 21) rfl ?_); refine Kd.R_lit (Kd.int .i64) _ 3 ?hg (N := 21) ?hd (xs := ([a1_0, a1_1, a1_2] : List Int)) (inner := [.int .i64 a1_0, .int .i64 a1_1, .int .i64 a1_2]) (ok := fun _ => True) (okp := fun _ => True) ?hr ?hp (fun _ hk => hk) trivial (Below.refl _ _) (Nat.le_refl _) (by simp) ?_; (case hd => rfl); (case hg => rfl); (case hr => first | (go_simp; done) | (go_simp; rfl)); (case hp => exact (Reps.one (show Kd.M (Kd.int .i64) _ _ _ a1_0 [.int .i64 a1_0] from rfl) (Reps.one (show Kd.M (Kd.int .i64) _ _ _ a1_1 [.int .i64 a1_1] from rfl) (Reps.one (show Kd.M (Kd.int .i64) _ _ _ a1_2 [.int .i64 a1_2] from rfl) (Reps.none _ _))))); intro v336 w10 ho11 hb hg_ hnew_; clear hg_ hnew_; (first | rw [← Ny335.out] at ho11 | (simp only [Int.reduceToNat] at ho11; rw [← Ny335.out] at ho11)); have n0_ := z6a (Kd.R_elder' (by (with_reducible repeat (first | apply Kd.R_alloc | apply Kd.R_drewN | apply Kd.R_drew)); exact HO334.out) (Kd.R_base ho11) hb); have n1_ := z6a (Kd.R_lower (Kd.R_new' ho11 (Kd.R_lt (by (with_reducible repeat (first | apply Kd.R_alloc | apply Kd.R_drewN | apply Kd.R_drew)); exact HO334.out))) (below_size (by repeat (first | (with_reducible first | exact HB.out | apply z6d | apply z6b | apply z6c | refine below_set ?_ GE330.out | refine below_set ?_ GE331.out) | exact HB.out)))); have n2_ := z6a (blk_below (g := gb330) (o := .cells #[.int .i64 a0_0, .int .i64 a0_1, .int .i64 a0_2] 71 (0, 0)) (by (with_reducible repeat (first | refine z6h ?_ _ | refine blk_drew ?_ | refine z6i ?_ _)); exact BK330.out) hb); have n3_ := z6a (blk_below (g := gb331) (o := .cells #[.int .i64 a1_0, .int .i64 a1_1, .int .i64 a1_2] 71 (0, 0)) (by (with_reducible repeat (first | refine z6h ?_ _ | refine blk_drew ?_ | refine z6i ?_ _)); exact BK331.out) hb); have n4_ := z6a (below_step (by repeat (first | (with_reducible first | exact HB.out | apply z6d | apply z6b | apply z6c | refine below_set ?_ GE330.out | refine below_set ?_ GE331.out) | exact HB.out)) hb); clear HO334; clear BK330; clear BK331; clear HB; have HO334 := n0_; have HO337 := n1_; have BK330 := n2_; have BK331 := n3_; have HB := n4_; clear n0_ n1_ n2_ n3_ n4_; clear hb ho11)))
 go_loopg [7] k (fun kq v7 w' => ∃ (x7_1 : Int), v7 = .int .i64 x7_1 ∧ Aside0 (y_g.l0 kq y332 y335 x7_1 = some r) ∧ Aside0 (kq ≤ k) ∧ Aside0 (Kd.R (Kd.int .i64) 3 w' w.heap.size (fun k_ => some k_ ≠ (v336 : Value).ownBlock) v333 y332) ∧ Aside0 (Kd.R (Kd.int .i64) 3 w' w.heap.size (fun k_ => some k_ ≠ (v333 : Value).ownBlock) v336 y335) ∧ Aside0 (w'.heap[gb330]? = some (.cells #[.int .i64 a0_0, .int .i64 a0_1, .int .i64 a0_2] 71 (0, 0))) ∧ Aside0 (w'.heap[gb331]? = some (.cells #[.int .i64 a1_0, .int .i64 a1_1, .int .i64 a1_2] 71 (0, 0))) ∧ Aside0 (Below w.heap.size w w'))
 case atStart => exact ⟨(0), (by first | rfl | (simp; done) | (simp [*]; done)), H', ⟨Nat.le_refl _⟩, ⟨by (with_reducible repeat (first | apply Kd.R_alloc | apply Kd.R_drewN | apply Kd.R_drew)); exact Kd.R_mono HO334.out (fun _ hk => hk.2)⟩, ⟨by (with_reducible repeat (first | apply Kd.R_alloc | apply Kd.R_drewN | apply Kd.R_drew)); exact Kd.R_mono HO337.out (fun _ hk => hk.2)⟩, ⟨by (with_reducible repeat (first | refine z6h ?_ _ | refine blk_drew ?_ | refine z6i ?_ _)); exact BK330.out⟩, ⟨by (with_reducible repeat (first | refine z6h ?_ _ | refine blk_drew ?_ | refine z6i ?_ _)); exact BK331.out⟩, ⟨by repeat (first | (with_reducible first | exact HB.out | apply z6d | apply z6b | apply z6c | refine below_set ?_ GE330.out | refine below_set ?_ GE331.out) | exact HB.out)⟩⟩
 case round =>
  clear H'
  try clear c1
  try clear p2
  try clear c5
  try clear c11
  try clear hcz6_0
  try clear hcz6_1
  try clear hcz6_2
  try clear hcz9_0
  try clear hcz9_1
  try clear hcz9_2
  try clear hfz6_0
  try clear hfz6_1
  try clear hfz6_2
  try clear hfz9_0
  try clear hfz9_1
  try clear hfz9_2
  obtain ⟨x7_1, rfl, HA, HK1, HO_5, HO_6, BK330, BK331, HB⟩ := hrel
  cases gk with
  | zero => exact absurd HA.out (by simp [y_g.l0])
  | succ k1 =>
   have H := HA.out
   clear HA
   simp only [y_g.l0] at H
   by_cases c12 : x7_1 < 3
   ·rw [if_pos c12] at H
    have c12b0 : decide (x7_1 < 3) = true := z6g c12
    clear c12
    by_cases c13 : 0 ≤ x7_1
    ·rw [if_pos c13] at H
     have c13b0 : decide (0 ≤ x7_1) = true := z6g c13
     clear c13
     by_cases c14 : x7_1 < (y332.length : Int)
     ·rw [if_pos c14] at H
      have c14b0 : decide (x7_1 < (y332.length : Int)) = true := z6g c14
      clear c14
      by_cases c15 : x7_1 < (y335.length : Int)
      ·rw [if_pos c15] at H
       have c15b0 : decide (x7_1 < (y335.length : Int)) = true := z6g c15
       clear c15
       by_cases c16 : (rd y332 x7_1) < (rd y335 x7_1)
       ·rw [if_pos c16] at H
        have c16b0 : decide ((rd y332 x7_1) < (rd y335 x7_1)) = true := z6g c16
        clear c16
        obtain rfl := Option.some.inj H
        obtain ⟨Ao17, co17, eo17⟩ := Kd.R_slice HO_5.out
        subst eo17
        have p338 : 0 ≤ (x7_1 : Int) := z6f (by first | (with_reducible assumption) | assumption)
        have q338 : x7_1 < (y332.length : Int) := z6f (by first | (with_reducible assumption) | assumption)
        obtain ⟨ad338, e338, hx338_0⟩ := Kd.at_int (Kd.R_reads' HO_5.out).2.2 x7_1 p338 q338
        cases e338
        replace p338 := eq_true p338
        replace q338 := eq_true q338
        obtain ⟨Ao18, co18, eo18⟩ := Kd.R_slice HO_6.out
        subst eo18
        have p339 : 0 ≤ (x7_1 : Int) := z6f (by first | (with_reducible assumption) | assumption)
        have q339 : x7_1 < (y335.length : Int) := z6f (by first | (with_reducible assumption) | assumption)
        obtain ⟨ad339, e339, hx339_0⟩ := Kd.at_int (Kd.R_reads' HO_6.out).2.2 x7_1 p339 q339
        cases e339
        replace p339 := eq_true p339
        replace q339 := eq_true q339
        go_wp2
        repeat (go_quiet (fail); try go_wp2)
        go_ret
        exact ⟨by first | rfl | (simp [errW_none, errW_some] <;> rfl) | (simp [*, errW_none, errW_some] <;> rfl), by repeat (first | (with_reducible first | exact HB.out | apply z6d | apply z6b | apply z6c | refine below_set ?_ GE330.out | refine below_set ?_ GE331.out) | exact HB.out)⟩
       ·rw [if_neg c16] at H
        have c16b0 : decide ((rd y332 x7_1) < (rd y335 x7_1)) = false := decide_eq_false c16
        clear c16
        by_cases c19 : (rd y332 x7_1) > (rd y335 x7_1)
        ·rw [if_pos c19] at H
         have c19b0 : decide ((rd y335 x7_1) < (rd y332 x7_1)) = true := z6g c19
         clear c19
         obtain rfl := Option.some.inj H
         obtain ⟨Ao20, co20, eo20⟩ := Kd.R_slice HO_5.out
         subst eo20
         have p338 : 0 ≤ (x7_1 : Int) := z6f (by first | (with_reducible assumption) | assumption)
         have q338 : x7_1 < (y332.length : Int) := z6f (by first | (with_reducible assumption) | assumption)
         obtain ⟨ad338, e338, hx338_0⟩ := Kd.at_int (Kd.R_reads' HO_5.out).2.2 x7_1 p338 q338
         cases e338
         replace p338 := eq_true p338
         replace q338 := eq_true q338
         obtain ⟨Ao21, co21, eo21⟩ := Kd.R_slice HO_6.out
         subst eo21
         have p339 : 0 ≤ (x7_1 : Int) := z6f (by first | (with_reducible assumption) | assumption)
         have q339 : x7_1 < (y335.length : Int) := z6f (by first | (with_reducible assumption) | assumption)
         obtain ⟨ad339, e339, hx339_0⟩ := Kd.at_int (Kd.R_reads' HO_6.out).2.2 x7_1 p339 q339
         cases e339
         replace p339 := eq_true p339
         replace q339 := eq_true q339
         have p340 : 0 ≤ (x7_1 : Int) := z6f (by first | (with_reducible assumption) | assumption)
         have q340 : x7_1 < (y332.length : Int) := z6f (by first | (with_reducible assumption) | assumption)
         obtain ⟨ad340, e340, hx340_0⟩ := Kd.at_int (Kd.R_reads' HO_5.out).2.2 x7_1 p340 q340
         obtain rfl : ad338 = ad340 := (by injection e340)
         replace p340 := eq_true p340
         replace q340 := eq_true q340
         have p341 : 0 ≤ (x7_1 : Int) := z6f (by first | (with_reducible assumption) | assumption)
         have q341 : x7_1 < (y335.length : Int) := z6f (by first | (with_reducible assumption) | assumption)
         obtain ⟨ad341, e341, hx341_0⟩ := Kd.at_int (Kd.R_reads' HO_6.out).2.2 x7_1 p341 q341
         obtain rfl : ad339 = ad341 := (by injection e341)
         replace p341 := eq_true p341
         replace q341 := eq_true q341
         go_wp2
         repeat (go_quiet (fail); try go_wp2)
         go_ret
         exact ⟨by first | rfl | (simp [errW_none, errW_some] <;> rfl) | (simp [*, errW_none, errW_some] <;> rfl), by repeat (first | (with_reducible first | exact HB.out | apply z6d | apply z6b | apply z6c | refine below_set ?_ GE330.out | refine below_set ?_ GE331.out) | exact HB.out)⟩
        ·rw [if_neg c19] at H
         have c19b0 : decide ((rd y335 x7_1) < (rd y332 x7_1)) = false := decide_eq_false c19
         clear c19
         have H' := z6a H
         clear H
         obtain ⟨Ao22, co22, eo22⟩ := Kd.R_slice HO_5.out
         subst eo22
         have p338 : 0 ≤ (x7_1 : Int) := z6f (by first | (with_reducible assumption) | assumption)
         have q338 : x7_1 < (y332.length : Int) := z6f (by first | (with_reducible assumption) | assumption)
         obtain ⟨ad338, e338, hx338_0⟩ := Kd.at_int (Kd.R_reads' HO_5.out).2.2 x7_1 p338 q338
         cases e338
         replace p338 := eq_true p338
         replace q338 := eq_true q338
         obtain ⟨Ao23, co23, eo23⟩ := Kd.R_slice HO_6.out
         subst eo23
         have p339 : 0 ≤ (x7_1 : Int) := z6f (by first | (with_reducible assumption) | assumption)
         have q339 : x7_1 < (y335.length : Int) := z6f (by first | (with_reducible assumption) | assumption)
         obtain ⟨ad339, e339, hx339_0⟩ := Kd.at_int (Kd.R_reads' HO_6.out).2.2 x7_1 p339 q339
         cases e339
         replace p339 := eq_true p339
         replace q339 := eq_true q339
         have p340 : 0 ≤ (x7_1 : Int) := z6f (by first | (with_reducible assumption) | assumption)
         have q340 : x7_1 < (y332.length : Int) := z6f (by first | (with_reducible assumption) | assumption)
         obtain ⟨ad340, e340, hx340_0⟩ := Kd.at_int (Kd.R_reads' HO_5.out).2.2 x7_1 p340 q340
         obtain rfl : ad338 = ad340 := (by injection e340)
         replace p340 := eq_true p340
         replace q340 := eq_true q340
         have p341 : 0 ≤ (x7_1 : Int) := z6f (by first | (with_reducible assumption) | assumption)
         have q341 : x7_1 < (y335.length : Int) := z6f (by first | (with_reducible assumption) | assumption)
         obtain ⟨ad341, e341, hx341_0⟩ := Kd.at_int (Kd.R_reads' HO_6.out).2.2 x7_1 p341 q341
         obtain rfl : ad339 = ad341 := (by injection e341)
         replace p341 := eq_true p341
         replace q341 := eq_true q341
         go_wp2
         repeat (go_quiet (fail); try go_wp2)
         go_roundg k1
         case measure => have := HK1.out; omega
         case rel => exact ⟨(wrap64 (x7_1 + 1)), (by first | rfl | (simp; done) | (simp [*]; done)), H', ⟨by have := HK1.out; omega⟩, ⟨by (with_reducible repeat (first | apply Kd.R_alloc | apply Kd.R_drewN | apply Kd.R_drew)); exact HO_5.out⟩, ⟨by (with_reducible repeat (first | apply Kd.R_alloc | apply Kd.R_drewN | apply Kd.R_drew)); exact HO_6.out⟩, ⟨by (with_reducible repeat (first | refine z6h ?_ _ | refine blk_drew ?_ | refine z6i ?_ _)); exact BK330.out⟩, ⟨by (with_reducible repeat (first | refine z6h ?_ _ | refine blk_drew ?_ | refine z6i ?_ _)); exact BK331.out⟩, ⟨by repeat (first | (with_reducible first | exact HB.out | apply z6d | apply z6b | apply z6c | refine below_set ?_ GE330.out | refine below_set ?_ GE331.out) | exact HB.out)⟩⟩
      ·rw [if_neg c15] at H
       exact absurd H (by simp)
     ·rw [if_neg c14] at H
      exact absurd H (by simp)
    ·rw [if_neg c13] at H
     exact absurd H (by simp)
   ·rw [if_neg c12] at H
    have c12b0 : decide (x7_1 < 3) = false := decide_eq_false c12
    clear c12
    obtain rfl := Option.some.inj H
    go_wp2
    repeat (go_quiet (fail); try go_wp2)
    go_ret
    exact ⟨by first | rfl | (simp [errW_none, errW_some] <;> rfl) | (simp [*, errW_none, errW_some] <;> rfl), by repeat (first | (with_reducible first | exact HB.out | apply z6d | apply z6b | apply z6c | refine below_set ?_ GE330.out | refine below_set ?_ GE331.out) | exact HB.out)⟩
def y_e.l0 : Nat → List (S71) → Int → Int → Option (Int)
 | 0, _, _, _ => none
 | k + 1, x0, x3, x4 => if x4 < (x0.length : Int) then (if x3 < 0 then (y_e.l0 k x0 x4 (wrap64 (x4 + 1))) else (if 0 ≤ x4 then (if 0 ≤ x3 then (if x3 < (x0.length : Int) then ((y_g.f k ((rd_T71 x0 x4).f0) ((rd_T71 x0 x4).f1) ((rd_T71 x0 x4).f2) ((rd_T71 x0 x3).f0) ((rd_T71 x0 x3).f1) ((rd_T71 x0 x3).f2)).bind fun t344 => (if t344 < 0 then (y_e.l0 k x0 x4 (wrap64 (x4 + 1))) else (y_e.l0 k x0 x3 (wrap64 (x4 + 1))))) else (none)) else (none)) else (none))) else (some x3)
def y_e.f (k : Nat) (l0 : List (S71)) : Option (Int) := y_e.l0 k l0 (-1) 0
theorem y_e.mono_l : ∀ k, (∀ y0 y1 y2, LeO (y_e.l0 k y0 y1 y2) (y_e.l0 (k + 1) y0 y1 y2))
 | 0 => fun _ _ _ r h => by simp [y_e.l0] at h
 | k + 1 => by
  have ih0 := y_e.mono_l k
  ·intro y0 y1 y2
   unfold y_e.l0
   repeat' first
   | (with_reducible exact ih0 _ _ _)
   | (with_reducible exact y_g.mono _ _ _ _ _ _ _)
   | (with_reducible exact LeO.refl _)
   | (with_reducible exact LeO.none _)
   | (with_reducible refine LeO.ite ?_ ?_)
   | (with_reducible refine LeO.bind ?_ (fun _ => ?_))
   | exact ih0 _ _ _
   | exact y_g.mono _ _ _ _ _ _ _
   | exact LeO.none _
   | refine LeO.ite ?_ ?_
   | refine LeO.bind ?_ (fun _ => ?_)
theorem y_e.mono : ∀ a0 k, LeO (y_e.f k a0) (y_e.f (k + 1) a0) := by
 intro a0 k
 have ih0 := y_e.mono_l k
 unfold y_e.f
 repeat' first
   | (with_reducible exact ih0 _ _ _)
   | (with_reducible exact y_g.mono _ _ _ _ _ _ _)
   | (with_reducible exact LeO.refl _)
   | (with_reducible exact LeO.none _)
   | (with_reducible refine LeO.ite ?_ ?_)
   | (with_reducible refine LeO.bind ?_ (fun _ => ?_))
   | exact ih0 _ _ _
   | exact y_g.mono _ _ _ _ _ _ _
   | exact LeO.none _
   | refine LeO.ite ?_ ?_
   | refine LeO.bind ?_ (fun _ => ?_)
def y_e.T5 : Bool × List (List Nat × List Nat) := (true, [([], []), ([0], [0]), ([1], [1]), ([2], [2]), ([2], [2]), ([3, 4, 2], [2, 3, 4]), ([5, 2], [2, 5]), ([2], [2]), ([2], [2]), ([7, 8, 2], [2, 7, 8]), ([9, 2], [2, 9]), ([6, 10, 2, 2], [2, 6, 10]), ([11, 2], [2, 11]), ([2, 12], [2, 12])])
def y_e.B5 : List Nat := [0, 1, 3, 7, 7, 31, 63, 7, 7, 391, 903, 2047, 4095, 8191]
theorem y_e.tab5 : rtab .any (opsOf Try.f27 5) = y_e.T5 := by kernel_rfl
theorem y_e.bits5 : waitsOk y_e.T5.2 y_e.B5 = true := by kernel_rfl
theorem y_e.calls (k : Nat) (A0 : Option Addr) (c0 : Nat) (l0 : List (S71)) (r : Int) (w : World) (hr0 : Kd.C k71 w A0 l0.length l0) (hc0 : l0.length ≤ c0) (h : y_e.f k l0 = some r) :
  Calls Try.prog 27 #[.slice A0 l0.length c0] w fun e w' => e = .returned (.int .i64 r) ∧ Below w.heap.size w w' := by
 have hu71 := Try.underlying71
 have HR0 := z6a hr0
 have HC0 := z6a hc0
 clear hr0 hc0
 have HB := z6a (Below.refl w.heap.size w)
 have H : (y_e.l0 k l0 (-1) 0) = some r := h
 clear h
 have H' := z6a H
 clear H
 go_enter Try.func27, Try.ntmps27
 go_wp2
 go_loopg [3, 4] k (fun kq v3 v4 w' => ∃ (x3_1 : Int) (x4_1 : Int), v3 = .int .i64 x3_1 ∧ v4 = .int .i64 x4_1 ∧ Aside0 (y_e.l0 kq l0 x3_1 x4_1 = some r) ∧ Aside0 (kq ≤ k) ∧ Aside0 (Below w.heap.size w w'))
 case atStart => exact ⟨((-1)), (0), (by first | rfl | (simp; done) | (simp [*]; done)), (by first | rfl | (simp; done) | (simp [*]; done)), H', ⟨Nat.le_refl _⟩, ⟨by repeat (first | (with_reducible first | exact HB.out | apply z6d | apply z6b | apply z6c) | exact HB.out)⟩⟩
 case round =>
  clear H'
  obtain ⟨x3_1, x4_1, rfl, rfl, HA, HK1, HB⟩ := hrel
  cases gk with
  | zero => exact absurd HA.out (by simp [y_e.l0])
  | succ k1 =>
   have H := HA.out
   clear HA
   simp only [y_e.l0] at H
   by_cases c2 : x4_1 < (l0.length : Int)
   ·rw [if_pos c2] at H
    have c2b0 : decide (x4_1 < (l0.length : Int)) = true := z6g c2
    clear c2
    by_cases c3 : x3_1 < 0
    ·rw [if_pos c3] at H
     have c3b0 : decide (x3_1 < 0) = true := z6g c3
     clear c3
     have H' := z6a H
     clear H
     try go_wp2
     have n0_ := z6a (z6c HB.out)
     clear HB
     have HB := n0_
     clear n0_
     refine start_ (n := 14) (S := fun w' => True) (ds := []) zq6_0 (by kernel_rfl) rfl rfl trivial (fun hHeld => ?_); refine with_tabW y_e.tab5 y_e.bits5 (fun HT_ HW_ => ?_)
     generalize wr.drew = w4 at HB hHeld ⊢
     refine pure_ (i := 0) (N := some 11) (v := ?_) (a' := ?_) zq6_1 rfl rfl (any_of HT_.out (by kernel_rfl)) (fun _ _ _ h => h) (Or.inl ⟨by rfl, ?_⟩) ?_ ?_
     rotate_left
     ·intro w'
      go_simp
      with_reducible rfl
     rotate_left
     ·simp only [Act.put, zp6a, zp6b, zp6c, i64_w, i32_w]
      rfl
     refine pure_ (i := 1) (N := some 12) (v := ?_) (a' := ?_) zq6_2 rfl rfl (any_of HT_.out (by kernel_rfl)) (fun _ _ _ h => h) (Or.inl ⟨by rfl, ?_⟩) ?_ ?_
     rotate_left
     ·intro w'
      go_simp
      with_reducible rfl
     rotate_left
     ·simp only [Act.put, zp6a, zp6b, zp6c, i64_w, i32_w]
      rfl
     refine pure_ (i := 2) (N := some 13) (v := ?_) (a' := ?_) zq6_3 rfl rfl (any_of HT_.out (by kernel_rfl)) (fun _ _ _ h => h) (Or.inl ⟨by rfl, ?_⟩) ?_ ?_
     rotate_left
     ·intro w'
      go_simp
      with_reducible rfl
     rotate_left
     ·simp only [Act.put, zp6a, zp6b, zp6c, i64_w, i32_w]
      rfl
     refine pure_ (i := 3) (N := some 14) (v := undef) (a' := ?_) zq6_4 rfl rfl (any_of HT_.out (by kernel_rfl)) (fun _ _ _ h => h) (Or.inr ⟨by rfl, rfl⟩) ?_ ?_
     rotate_left
     ·simp only [Act.put, zp6a, zp6b, zp6c, i64_w, i32_w]
      rfl
     refine pure_ (i := 4) (N := some 15) (v := undef) (a' := ?_) zq6_5 rfl rfl (any_of HT_.out (by kernel_rfl)) (fun _ _ _ h => h) (Or.inr ⟨by rfl, rfl⟩) ?_ ?_
     rotate_left
     ·simp only [Act.put, zp6a, zp6b, zp6c, i64_w, i32_w]
      rfl
     refine pure_ (i := 5) (N := some 16) (v := undef) (a' := ?_) zq6_6 rfl rfl (any_of HT_.out (by kernel_rfl)) (fun _ _ _ h => h) (Or.inr ⟨by rfl, rfl⟩) ?_ ?_
     rotate_left
     ·simp only [Act.put, zp6a, zp6b, zp6c, i64_w, i32_w]
      rfl
     refine pure_ (i := 6) (N := some 17) (v := undef) (a' := ?_) #[zt6,zt6,zt6,zt6,zt6,zt6,zt6,zf6,zf6,zf6,zf6,zf6,zf6,zf6] rfl rfl (any_of HT_.out (by kernel_rfl)) (fun _ _ _ h => h) (Or.inr ⟨by rfl, rfl⟩) ?_ ?_
     rotate_left
     ·simp only [Act.put, zp6a, zp6b, zp6c, i64_w, i32_w]
      rfl
     refine pure_ (i := 7) (N := some 18) (v := undef) (a' := ?_) #[zt6,zt6,zt6,zt6,zt6,zt6,zt6,zt6,zf6,zf6,zf6,zf6,zf6,zf6] rfl rfl (any_of HT_.out (by kernel_rfl)) (fun _ _ _ h => h) (Or.inr ⟨by rfl, rfl⟩) ?_ ?_
     rotate_left
     ·simp only [Act.put, zp6a, zp6b, zp6c, i64_w, i32_w]
      rfl
     refine pure_ (i := 8) (N := some 19) (v := undef) (a' := ?_) #[zt6,zt6,zt6,zt6,zt6,zt6,zt6,zt6,zt6,zf6,zf6,zf6,zf6,zf6] rfl rfl (any_of HT_.out (by kernel_rfl)) (fun _ _ _ h => h) (Or.inr ⟨by rfl, rfl⟩) ?_ ?_
     rotate_left
     ·simp only [Act.put, zp6a, zp6b, zp6c, i64_w, i32_w]
      rfl
     refine pure_ (i := 9) (N := some 20) (v := undef) (a' := ?_) zq6_7 rfl rfl (any_of HT_.out (by kernel_rfl)) (fun _ _ _ h => h) (Or.inr ⟨by rfl, rfl⟩) ?_ ?_
     rotate_left
     ·simp only [Act.put, zp6a, zp6b, zp6c, i64_w, i32_w]
      rfl
     refine pure_ (i := 10) (N := some 21) (v := undef) (a' := ?_) zq6_8 rfl rfl (any_of HT_.out (by kernel_rfl)) (fun _ _ _ h => h) (Or.inr ⟨by rfl, rfl⟩) ?_ ?_
     rotate_left
     ·simp only [Act.put, zp6a, zp6b, zp6c, i64_w, i32_w]
      rfl
     refine pure_ (i := 11) (N := some 22) (v := undef) (a' := ?_) zq6_9 rfl rfl (any_of HT_.out (by kernel_rfl)) (fun _ _ _ h => h) (Or.inr ⟨by rfl, rfl⟩) ?_ ?_
     rotate_left
     ·simp only [Act.put, zp6a, zp6b, zp6c, i64_w, i32_w]
      rfl
     refine pure_ (i := 12) (N := some 23) (v := undef) (a' := ?_) zq6_10 rfl rfl (any_of HT_.out (by kernel_rfl)) (fun _ _ _ h => h) (Or.inr ⟨by rfl, rfl⟩) ?_ ?_
     rotate_left
     ·simp only [Act.put, zp6a, zp6b, zp6c, i64_w, i32_w]
      rfl
     refine pure_ (i := 13) (N := some 24) (v := ?_) (a' := ?_) zq6_11 rfl rfl (any_of HT_.out (by kernel_rfl)) (fun _ _ _ h => h) (Or.inl ⟨by rfl, ?_⟩) ?_ ?_
     rotate_left
     ·intro w'
      go_simp
      with_reducible rfl
     rotate_left
     ·simp only [Act.put, zp6a, zp6b, zp6c, i64_w, i32_w]
      rfl
     refine done_ (done_of HT_.out (by kernel_rfl)) ?_
     try go_wp2
     go_roundg k1
     case measure => have := HK1.out; omega
     case rel => exact ⟨(x4_1), (wrap64 (x4_1 + 1)), (by first | rfl | (simp; done) | (simp [*]; done)), (by first | rfl | (simp; done) | (simp [*]; done)), H', ⟨by have := HK1.out; omega⟩, ⟨by repeat (first | (with_reducible first | exact HB.out | apply z6d | apply z6b | apply z6c) | exact HB.out)⟩⟩
    ·rw [if_neg c3] at H
     have c3b0 : decide (x3_1 < 0) = false := decide_eq_false c3
     clear c3
     by_cases c5 : 0 ≤ x4_1
     ·rw [if_pos c5] at H
      have c5b0 : decide (0 ≤ x4_1) = true := z6g c5
      clear c5
      by_cases c6 : 0 ≤ x3_1
      ·rw [if_pos c6] at H
       have c6b0 : decide (0 ≤ x3_1) = true := z6g c6
       clear c6
       by_cases c7 : x3_1 < (l0.length : Int)
       ·rw [if_pos c7] at H
        have c7b0 : decide (x3_1 < (l0.length : Int)) = true := z6g c7
        clear c7
        replace H := Option.bind_eq_some_iff.mp H
        obtain ⟨t344, A80, H⟩ := H
        have A8 := z6a A80
        clear A80
        by_cases c9 : t344 < 0
        ·rw [if_pos c9] at H
         have c9b0 : decide (t344 < 0) = true := z6g c9
         clear c9
         have H' := z6a H
         clear H
         try go_wp2
         have n0_ := z6a (z6c HB.out)
         clear HB
         have HB := n0_
         clear n0_
         have p342 : 0 ≤ (x4_1 : Int) := z6f (by first | (with_reducible assumption) | assumption)
         have q342 : x4_1 < (l0.length : Int) := z6f (by first | (with_reducible assumption) | assumption)
         obtain ⟨ad342, e342, hx342_0, hx342_1, hx342_2⟩ := at_T71 HR0.out x4_1 p342 q342
         have hw342_2 := hx342_2
         have hw342_1 := hx342_1
         have hw342_0 := hx342_0
         cases e342
         replace hx342_0 := (HB.out.cell (z6e w _ hx342_0)).trans hx342_0
         replace hx342_1 := (HB.out.cell (z6e w _ hx342_1)).trans hx342_1
         replace hx342_2 := (HB.out.cell (z6e w _ hx342_2)).trans hx342_2
         replace p342 := eq_true p342
         replace q342 := eq_true q342
         have p343 : 0 ≤ (x3_1 : Int) := z6f (by first | (with_reducible assumption) | assumption)
         have q343 : x3_1 < (l0.length : Int) := z6f (by first | (with_reducible assumption) | assumption)
         obtain ⟨ad343, e343, hx343_0, hx343_1, hx343_2⟩ := at_T71 HR0.out x3_1 p343 q343
         have hw343_2 := hx343_2
         have hw343_1 := hx343_1
         have hw343_0 := hx343_0
         obtain rfl : ad342 = ad343 := (by injection e343)
         replace hx343_0 := (HB.out.cell (z6e w _ hx343_0)).trans hx343_0
         replace hx343_1 := (HB.out.cell (z6e w _ hx343_1)).trans hx343_1
         replace hx343_2 := (HB.out.cell (z6e w _ hx343_2)).trans hx343_2
         replace p343 := eq_true p343
         replace q343 := eq_true q343
         refine start_ (n := 14) (S := fun w' => w'.cell? (ad342.add ((x4_1).toNat * 3)) = some (.int .i64 ((rd_T71 l0 x4_1).f0)) ∧ w'.cell? ⟨(ad342.add ((x4_1).toNat * 3)).block, (ad342.add ((x4_1).toNat * 3)).off + 1, none⟩ = some (.int .i64 ((rd_T71 l0 x4_1).f1)) ∧ w'.cell? ⟨(ad342.add ((x4_1).toNat * 3)).block, (ad342.add ((x4_1).toNat * 3)).off + 2, none⟩ = some (.int .i64 ((rd_T71 l0 x4_1).f2)) ∧ w'.cell? (ad342.add ((x3_1).toNat * 3)) = some (.int .i64 ((rd_T71 l0 x3_1).f0)) ∧ w'.cell? ⟨(ad342.add ((x3_1).toNat * 3)).block, (ad342.add ((x3_1).toNat * 3)).off + 1, none⟩ = some (.int .i64 ((rd_T71 l0 x3_1).f1)) ∧ w'.cell? ⟨(ad342.add ((x3_1).toNat * 3)).block, (ad342.add ((x3_1).toNat * 3)).off + 2, none⟩ = some (.int .i64 ((rd_T71 l0 x3_1).f2))) (ds := []) zq6_0 (by kernel_rfl) rfl rfl ⟨((HB.out.cell (z6e w _ hw342_0)).trans hw342_0), ((HB.out.cell (z6e w _ hw342_1)).trans hw342_1), ((HB.out.cell (z6e w _ hw342_2)).trans hw342_2), ((HB.out.cell (z6e w _ hw343_0)).trans hw343_0), ((HB.out.cell (z6e w _ hw343_1)).trans hw343_1), ((HB.out.cell (z6e w _ hw343_2)).trans hw343_2)⟩ (fun hHeld => ?_); refine with_tabW y_e.tab5 y_e.bits5 (fun HT_ HW_ => ?_)
         generalize wr.drew = w10 at HB hx342_0 hx342_1 hx342_2 hx343_0 hx343_1 hx343_2 hHeld ⊢
         refine pure_ (i := 0) (N := some 11) (v := ?_) (a' := ?_) zq6_1 rfl rfl (any_of HT_.out (by kernel_rfl)) (fun _ _ _ h => h) (Or.inl ⟨by rfl, ?_⟩) ?_ ?_
         rotate_left
         ·intro w'
          go_simp
          with_reducible rfl
         rotate_left
         ·simp only [Act.put, zp6a, zp6b, zp6c, i64_w, i32_w]
          rfl
         refine pure_ (i := 1) (N := some 12) (v := ?_) (a' := ?_) zq6_2 rfl rfl (any_of HT_.out (by kernel_rfl)) (fun _ _ _ h => h) (Or.inl ⟨by rfl, ?_⟩) ?_ ?_
         rotate_left
         ·intro w'
          go_simp
          with_reducible rfl
         rotate_left
         ·simp only [Act.put, zp6a, zp6b, zp6c, i64_w, i32_w]
          rfl
         refine pure_ (i := 2) (N := some 13) (v := ?_) (a' := ?_) zq6_3 rfl rfl (any_of HT_.out (by kernel_rfl)) (fun _ _ _ h => h) (Or.inl ⟨by rfl, ?_⟩) ?_ ?_
         rotate_left
         ·intro w'
          go_simp
          with_reducible rfl
         rotate_left
         ·simp only [Act.put, zp6a, zp6b, zp6c, i64_w, i32_w]
          rfl
         refine pure_ (i := 3) (N := some 14) (v := ?_) (a' := ?_) zq6_4 rfl rfl (any_of HT_.out (by kernel_rfl)) (fun _ _ _ h => h) (Or.inl ⟨by rfl, ?_⟩) ?_ ?_
         rotate_left
         ·intro w'
          go_simp
          with_reducible rfl
         rotate_left
         ·simp only [Act.put, zp6a, zp6b, zp6c, i64_w, i32_w]
          rfl
         refine pure_ (i := 4) (N := some 15) (v := ?_) (a' := ?_) zq6_5 rfl rfl (any_of HT_.out (by kernel_rfl)) (fun _ _ _ h => h) (Or.inl ⟨by rfl, ?_⟩) ?_ ?_
         rotate_left
         ·intro w'
          go_simp
          with_reducible rfl
         rotate_left
         ·simp only [Act.put, zp6a, zp6b, zp6c, i64_w, i32_w]
          rfl
         refine pure_ (i := 5) (N := some 16) (v := ?_) (a' := ?_) zq6_6 rfl rfl (any_of HT_.out (by kernel_rfl)) (fun _ _ _ h => h) (Or.inl ⟨by rfl, ?_⟩) ?_ ?_
         rotate_left
         ·intro w'
          go_simp
          with_reducible rfl
         rotate_left
         ·simp only [Act.put, zp6a, zp6b, zp6c, i64_w, i32_w]
          rfl
         refine pure_ (i := 7) (N := some 18) (v := ?_) (a' := ?_) #[zt6,zt6,zt6,zt6,zt6,zt6,zf6,zt6,zf6,zf6,zf6,zf6,zf6,zf6] rfl rfl (any_of HT_.out (by kernel_rfl)) (fun _ _ _ h => h) (Or.inl ⟨by rfl, ?_⟩) ?_ ?_
         rotate_left
         ·intro w'
          go_simp
          with_reducible rfl
         rotate_left
         ·simp only [Act.put, zp6a, zp6b, zp6c, i64_w, i32_w]
          rfl
         refine pure_ (i := 8) (N := some 19) (v := ?_) (a' := ?_) #[zt6,zt6,zt6,zt6,zt6,zt6,zf6,zt6,zt6,zf6,zf6,zf6,zf6,zf6] rfl rfl (any_of HT_.out (by kernel_rfl)) (fun _ _ _ h => h) (Or.inl ⟨by rfl, ?_⟩) ?_ ?_
         rotate_left
         ·intro w'
          go_simp
          with_reducible rfl
         rotate_left
         ·simp only [Act.put, zp6a, zp6b, zp6c, i64_w, i32_w]
          rfl
         refine pure_ (i := 9) (N := some 20) (v := ?_) (a' := ?_) #[zt6,zt6,zt6,zt6,zt6,zt6,zf6,zt6,zt6,zt6,zf6,zf6,zf6,zf6] rfl rfl (any_of HT_.out (by kernel_rfl)) (fun _ _ _ h => h) (Or.inl ⟨by rfl, ?_⟩) ?_ ?_
         rotate_left
         ·intro w'
          go_simp
          with_reducible rfl
         rotate_left
         ·simp only [Act.put, zp6a, zp6b, zp6c, i64_w, i32_w]
          rfl
         refine take_ (i := 6) (N := some 17) (v := ?_) (a' := ?_) zq6_7 rfl rfl (take_ofW HT_.out HW_.out (by kernel_rfl)) (fun _ _ _ h => h) (Or.inl ⟨by rfl, ?_⟩) hHeld ?_ ?_
         rotate_left
         ·rintro w' ⟨s0, s1, s2, s3, s4, s5⟩
          go_simp
          with_reducible rfl
         rotate_left
         ·simp only [Act.put, zp6a, zp6b, zp6c, i64_w, i32_w]
          rfl
         refine take_ (i := 10) (N := some 21) (v := ?_) (a' := ?_) zq6_8 rfl rfl (take_ofW HT_.out HW_.out (by kernel_rfl)) (fun _ _ _ h => h) (Or.inl ⟨by rfl, ?_⟩) hHeld ?_ ?_
         rotate_left
         ·rintro w' ⟨s0, s1, s2, s3, s4, s5⟩
          go_simp
          with_reducible rfl
         rotate_left
         ·simp only [Act.put, zp6a, zp6b, zp6c, i64_w, i32_w]
          rfl
         refine one_ (i := 11) (N := some 22) zq6_9 rfl rfl (one_of HT_.out (by kernel_rfl)) (by decide) (fun K hK => ?_)
         refine goes_ Try.func116 (by kernel_rfl) rfl #[.agg #[.int .i64 ((rd_T71 l0 x4_1).f0), .int .i64 ((rd_T71 l0 x4_1).f1), .int .i64 ((rd_T71 l0 x4_1).f2)], .agg #[.int .i64 ((rd_T71 l0 x3_1).f0), .int .i64 ((rd_T71 l0 x3_1).f1), .int .i64 ((rd_T71 l0 x3_1).f2)]] (by rfl) rfl rfl (by (try simp only [zm6a, zm6b, zm6c]); first | done | rfl | (simp only [zm6d, zm6e]; rfl)) ?_
         with_reducible refine (y_g.calls k1 ((rd_T71 l0 x4_1).f0) ((rd_T71 l0 x4_1).f1) ((rd_T71 l0 x4_1).f2) ((rd_T71 l0 x3_1).f0) ((rd_T71 l0 x3_1).f1) ((rd_T71 l0 x3_1).f2) t344 _ A8.out).mono ?_
         rintro e w11 ⟨rfl, hb⟩
         refine ⟨_, rfl, ?_⟩
         have n0_ := z6a (below_step (by repeat (first | (with_reducible first | exact HB.out | apply z6d | apply z6b | apply z6c) | exact HB.out)) hb)
         clear HB
         have HB := n0_
         clear n0_
         (try clear hb)
         (try clear hb2)
         (try clear hk)
         (try clear hi)
         refine hK.out _ _ ⟨((HB.out.cell (z6e w _ hw342_0)).trans hw342_0), ((HB.out.cell (z6e w _ hw342_1)).trans hw342_1), ((HB.out.cell (z6e w _ hw342_2)).trans hw342_2), ((HB.out.cell (z6e w _ hw343_0)).trans hw343_0), ((HB.out.cell (z6e w _ hw343_1)).trans hw343_1), ((HB.out.cell (z6e w _ hw343_2)).trans hw343_2)⟩ (fun hHeld => ?_)
         clear hK K
         refine norm_ (a' := ?_) ?_ ?_
         rotate_left
         ·show Act.put _ (some 22) _ = _
          simp only [Act.put, zp6a, zp6b, zp6c, i64_w, i32_w]
          rfl
         refine pure_ (i := 12) (N := some 23) (v := ?_) (a' := ?_) zq6_10 rfl rfl (any_of HT_.out (by kernel_rfl)) (fun _ _ _ h => h) (Or.inl ⟨by rfl, ?_⟩) ?_ ?_
         rotate_left
         ·intro w'
          go_simp
          with_reducible rfl
         rotate_left
         ·simp only [Act.put, zp6a, zp6b, zp6c, i64_w, i32_w]
          rfl
         refine pure_ (i := 13) (N := some 24) (v := ?_) (a' := ?_) zq6_11 rfl rfl (any_of HT_.out (by kernel_rfl)) (fun _ _ _ h => h) (Or.inl ⟨by rfl, ?_⟩) ?_ ?_
         rotate_left
         ·intro w'
          go_simp
          with_reducible rfl
         rotate_left
         ·simp only [Act.put, zp6a, zp6b, zp6c, i64_w, i32_w]
          rfl
         refine done_ (done_of HT_.out (by kernel_rfl)) ?_
         try go_wp2
         go_roundg k1
         case measure => have := HK1.out; omega
         case rel => exact ⟨(x4_1), (wrap64 (x4_1 + 1)), (by first | rfl | (simp; done) | (simp [*]; done)), (by first | rfl | (simp; done) | (simp [*]; done)), H', ⟨by have := HK1.out; omega⟩, ⟨by repeat (first | (with_reducible first | exact HB.out | apply z6d | apply z6b | apply z6c) | exact HB.out)⟩⟩
        ·rw [if_neg c9] at H
         have c9b0 : decide (t344 < 0) = false := decide_eq_false c9
         clear c9
         have H' := z6a H
         clear H
         try go_wp2
         have n0_ := z6a (z6c HB.out)
         clear HB
         have HB := n0_
         clear n0_
         have p342 : 0 ≤ (x4_1 : Int) := z6f (by first | (with_reducible assumption) | assumption)
         have q342 : x4_1 < (l0.length : Int) := z6f (by first | (with_reducible assumption) | assumption)
         obtain ⟨ad342, e342, hx342_0, hx342_1, hx342_2⟩ := at_T71 HR0.out x4_1 p342 q342
         have hw342_2 := hx342_2
         have hw342_1 := hx342_1
         have hw342_0 := hx342_0
         cases e342
         replace hx342_0 := (HB.out.cell (z6e w _ hx342_0)).trans hx342_0
         replace hx342_1 := (HB.out.cell (z6e w _ hx342_1)).trans hx342_1
         replace hx342_2 := (HB.out.cell (z6e w _ hx342_2)).trans hx342_2
         replace p342 := eq_true p342
         replace q342 := eq_true q342
         have p343 : 0 ≤ (x3_1 : Int) := z6f (by first | (with_reducible assumption) | assumption)
         have q343 : x3_1 < (l0.length : Int) := z6f (by first | (with_reducible assumption) | assumption)
         obtain ⟨ad343, e343, hx343_0, hx343_1, hx343_2⟩ := at_T71 HR0.out x3_1 p343 q343
         have hw343_2 := hx343_2
         have hw343_1 := hx343_1
         have hw343_0 := hx343_0
         obtain rfl : ad342 = ad343 := (by injection e343)
         replace hx343_0 := (HB.out.cell (z6e w _ hx343_0)).trans hx343_0
         replace hx343_1 := (HB.out.cell (z6e w _ hx343_1)).trans hx343_1
         replace hx343_2 := (HB.out.cell (z6e w _ hx343_2)).trans hx343_2
         replace p343 := eq_true p343
         replace q343 := eq_true q343
         refine start_ (n := 14) (S := fun w' => w'.cell? (ad342.add ((x4_1).toNat * 3)) = some (.int .i64 ((rd_T71 l0 x4_1).f0)) ∧ w'.cell? ⟨(ad342.add ((x4_1).toNat * 3)).block, (ad342.add ((x4_1).toNat * 3)).off + 1, none⟩ = some (.int .i64 ((rd_T71 l0 x4_1).f1)) ∧ w'.cell? ⟨(ad342.add ((x4_1).toNat * 3)).block, (ad342.add ((x4_1).toNat * 3)).off + 2, none⟩ = some (.int .i64 ((rd_T71 l0 x4_1).f2)) ∧ w'.cell? (ad342.add ((x3_1).toNat * 3)) = some (.int .i64 ((rd_T71 l0 x3_1).f0)) ∧ w'.cell? ⟨(ad342.add ((x3_1).toNat * 3)).block, (ad342.add ((x3_1).toNat * 3)).off + 1, none⟩ = some (.int .i64 ((rd_T71 l0 x3_1).f1)) ∧ w'.cell? ⟨(ad342.add ((x3_1).toNat * 3)).block, (ad342.add ((x3_1).toNat * 3)).off + 2, none⟩ = some (.int .i64 ((rd_T71 l0 x3_1).f2))) (ds := []) zq6_0 (by kernel_rfl) rfl rfl ⟨((HB.out.cell (z6e w _ hw342_0)).trans hw342_0), ((HB.out.cell (z6e w _ hw342_1)).trans hw342_1), ((HB.out.cell (z6e w _ hw342_2)).trans hw342_2), ((HB.out.cell (z6e w _ hw343_0)).trans hw343_0), ((HB.out.cell (z6e w _ hw343_1)).trans hw343_1), ((HB.out.cell (z6e w _ hw343_2)).trans hw343_2)⟩ (fun hHeld => ?_); refine with_tabW y_e.tab5 y_e.bits5 (fun HT_ HW_ => ?_)
         generalize wr.drew = w12 at HB hx342_0 hx342_1 hx342_2 hx343_0 hx343_1 hx343_2 hHeld ⊢
         refine pure_ (i := 0) (N := some 11) (v := ?_) (a' := ?_) zq6_1 rfl rfl (any_of HT_.out (by kernel_rfl)) (fun _ _ _ h => h) (Or.inl ⟨by rfl, ?_⟩) ?_ ?_
         rotate_left
         ·intro w'
          go_simp
          with_reducible rfl
         rotate_left
         ·simp only [Act.put, zp6a, zp6b, zp6c, i64_w, i32_w]
          rfl
         refine pure_ (i := 1) (N := some 12) (v := ?_) (a' := ?_) zq6_2 rfl rfl (any_of HT_.out (by kernel_rfl)) (fun _ _ _ h => h) (Or.inl ⟨by rfl, ?_⟩) ?_ ?_
         rotate_left
         ·intro w'
          go_simp
          with_reducible rfl
         rotate_left
         ·simp only [Act.put, zp6a, zp6b, zp6c, i64_w, i32_w]
          rfl
         refine pure_ (i := 2) (N := some 13) (v := ?_) (a' := ?_) zq6_3 rfl rfl (any_of HT_.out (by kernel_rfl)) (fun _ _ _ h => h) (Or.inl ⟨by rfl, ?_⟩) ?_ ?_
         rotate_left
         ·intro w'
          go_simp
          with_reducible rfl
         rotate_left
         ·simp only [Act.put, zp6a, zp6b, zp6c, i64_w, i32_w]
          rfl
         refine pure_ (i := 3) (N := some 14) (v := ?_) (a' := ?_) zq6_4 rfl rfl (any_of HT_.out (by kernel_rfl)) (fun _ _ _ h => h) (Or.inl ⟨by rfl, ?_⟩) ?_ ?_
         rotate_left
         ·intro w'
          go_simp
          with_reducible rfl
         rotate_left
         ·simp only [Act.put, zp6a, zp6b, zp6c, i64_w, i32_w]
          rfl
         refine pure_ (i := 4) (N := some 15) (v := ?_) (a' := ?_) zq6_5 rfl rfl (any_of HT_.out (by kernel_rfl)) (fun _ _ _ h => h) (Or.inl ⟨by rfl, ?_⟩) ?_ ?_
         rotate_left
         ·intro w'
          go_simp
          with_reducible rfl
         rotate_left
         ·simp only [Act.put, zp6a, zp6b, zp6c, i64_w, i32_w]
          rfl
         refine pure_ (i := 5) (N := some 16) (v := ?_) (a' := ?_) zq6_6 rfl rfl (any_of HT_.out (by kernel_rfl)) (fun _ _ _ h => h) (Or.inl ⟨by rfl, ?_⟩) ?_ ?_
         rotate_left
         ·intro w'
          go_simp
          with_reducible rfl
         rotate_left
         ·simp only [Act.put, zp6a, zp6b, zp6c, i64_w, i32_w]
          rfl
         refine pure_ (i := 7) (N := some 18) (v := ?_) (a' := ?_) #[zt6,zt6,zt6,zt6,zt6,zt6,zf6,zt6,zf6,zf6,zf6,zf6,zf6,zf6] rfl rfl (any_of HT_.out (by kernel_rfl)) (fun _ _ _ h => h) (Or.inl ⟨by rfl, ?_⟩) ?_ ?_
         rotate_left
         ·intro w'
          go_simp
          with_reducible rfl
         rotate_left
         ·simp only [Act.put, zp6a, zp6b, zp6c, i64_w, i32_w]
          rfl
         refine pure_ (i := 8) (N := some 19) (v := ?_) (a' := ?_) #[zt6,zt6,zt6,zt6,zt6,zt6,zf6,zt6,zt6,zf6,zf6,zf6,zf6,zf6] rfl rfl (any_of HT_.out (by kernel_rfl)) (fun _ _ _ h => h) (Or.inl ⟨by rfl, ?_⟩) ?_ ?_
         rotate_left
         ·intro w'
          go_simp
          with_reducible rfl
         rotate_left
         ·simp only [Act.put, zp6a, zp6b, zp6c, i64_w, i32_w]
          rfl
         refine pure_ (i := 9) (N := some 20) (v := ?_) (a' := ?_) #[zt6,zt6,zt6,zt6,zt6,zt6,zf6,zt6,zt6,zt6,zf6,zf6,zf6,zf6] rfl rfl (any_of HT_.out (by kernel_rfl)) (fun _ _ _ h => h) (Or.inl ⟨by rfl, ?_⟩) ?_ ?_
         rotate_left
         ·intro w'
          go_simp
          with_reducible rfl
         rotate_left
         ·simp only [Act.put, zp6a, zp6b, zp6c, i64_w, i32_w]
          rfl
         refine take_ (i := 6) (N := some 17) (v := ?_) (a' := ?_) zq6_7 rfl rfl (take_ofW HT_.out HW_.out (by kernel_rfl)) (fun _ _ _ h => h) (Or.inl ⟨by rfl, ?_⟩) hHeld ?_ ?_
         rotate_left
         ·rintro w' ⟨s0, s1, s2, s3, s4, s5⟩
          go_simp
          with_reducible rfl
         rotate_left
         ·simp only [Act.put, zp6a, zp6b, zp6c, i64_w, i32_w]
          rfl
         refine take_ (i := 10) (N := some 21) (v := ?_) (a' := ?_) zq6_8 rfl rfl (take_ofW HT_.out HW_.out (by kernel_rfl)) (fun _ _ _ h => h) (Or.inl ⟨by rfl, ?_⟩) hHeld ?_ ?_
         rotate_left
         ·rintro w' ⟨s0, s1, s2, s3, s4, s5⟩
          go_simp
          with_reducible rfl
         rotate_left
         ·simp only [Act.put, zp6a, zp6b, zp6c, i64_w, i32_w]
          rfl
         refine one_ (i := 11) (N := some 22) zq6_9 rfl rfl (one_of HT_.out (by kernel_rfl)) (by decide) (fun K hK => ?_)
         refine goes_ Try.func116 (by kernel_rfl) rfl #[.agg #[.int .i64 ((rd_T71 l0 x4_1).f0), .int .i64 ((rd_T71 l0 x4_1).f1), .int .i64 ((rd_T71 l0 x4_1).f2)], .agg #[.int .i64 ((rd_T71 l0 x3_1).f0), .int .i64 ((rd_T71 l0 x3_1).f1), .int .i64 ((rd_T71 l0 x3_1).f2)]] (by rfl) rfl rfl (by (try simp only [zm6a, zm6b, zm6c]); first | done | rfl | (simp only [zm6d, zm6e]; rfl)) ?_
         with_reducible refine (y_g.calls k1 ((rd_T71 l0 x4_1).f0) ((rd_T71 l0 x4_1).f1) ((rd_T71 l0 x4_1).f2) ((rd_T71 l0 x3_1).f0) ((rd_T71 l0 x3_1).f1) ((rd_T71 l0 x3_1).f2) t344 _ A8.out).mono ?_
         rintro e w13 ⟨rfl, hb⟩
         refine ⟨_, rfl, ?_⟩
         have n0_ := z6a (below_step (by repeat (first | (with_reducible first | exact HB.out | apply z6d | apply z6b | apply z6c) | exact HB.out)) hb)
         clear HB
         have HB := n0_
         clear n0_
         (try clear hb)
         (try clear hb2)
         (try clear hk)
         (try clear hi)
         refine hK.out _ _ ⟨((HB.out.cell (z6e w _ hw342_0)).trans hw342_0), ((HB.out.cell (z6e w _ hw342_1)).trans hw342_1), ((HB.out.cell (z6e w _ hw342_2)).trans hw342_2), ((HB.out.cell (z6e w _ hw343_0)).trans hw343_0), ((HB.out.cell (z6e w _ hw343_1)).trans hw343_1), ((HB.out.cell (z6e w _ hw343_2)).trans hw343_2)⟩ (fun hHeld => ?_)
         clear hK K
         refine norm_ (a' := ?_) ?_ ?_
         rotate_left
         ·show Act.put _ (some 22) _ = _
          simp only [Act.put, zp6a, zp6b, zp6c, i64_w, i32_w]
          rfl
         refine pure_ (i := 12) (N := some 23) (v := ?_) (a' := ?_) zq6_10 rfl rfl (any_of HT_.out (by kernel_rfl)) (fun _ _ _ h => h) (Or.inl ⟨by rfl, ?_⟩) ?_ ?_
         rotate_left
         ·intro w'
          go_simp
          with_reducible rfl
         rotate_left
         ·simp only [Act.put, zp6a, zp6b, zp6c, i64_w, i32_w]
          rfl
         refine pure_ (i := 13) (N := some 24) (v := ?_) (a' := ?_) zq6_11 rfl rfl (any_of HT_.out (by kernel_rfl)) (fun _ _ _ h => h) (Or.inl ⟨by rfl, ?_⟩) ?_ ?_
         rotate_left
         ·intro w'
          go_simp
          with_reducible rfl
         rotate_left
         ·simp only [Act.put, zp6a, zp6b, zp6c, i64_w, i32_w]
          rfl
         refine done_ (done_of HT_.out (by kernel_rfl)) ?_
         try go_wp2
         go_roundg k1
         case measure => have := HK1.out; omega
         case rel => exact ⟨(x3_1), (wrap64 (x4_1 + 1)), (by first | rfl | (simp; done) | (simp [*]; done)), (by first | rfl | (simp; done) | (simp [*]; done)), H', ⟨by have := HK1.out; omega⟩, ⟨by repeat (first | (with_reducible first | exact HB.out | apply z6d | apply z6b | apply z6c) | exact HB.out)⟩⟩
       ·rw [if_neg c7] at H
        exact absurd H (by simp)
      ·rw [if_neg c6] at H
       exact absurd H (by simp)
     ·rw [if_neg c5] at H
      exact absurd H (by simp)
   ·rw [if_neg c2] at H
    have c2b0 : decide (x4_1 < (l0.length : Int)) = false := decide_eq_false c2
    clear c2
    obtain rfl := Option.some.inj H
    go_wp2
    go_ret
    exact ⟨by first | rfl | (simp [errW_none, errW_some] <;> rfl) | (simp [*, errW_none, errW_some] <;> rfl), by repeat (first | (with_reducible first | exact HB.out | apply z6d | apply z6b | apply z6c) | exact HB.out)⟩
def y_z.f (a0 : Int) (a1 : Int) (a2 : Int) : Option (Bool) := if a0 ≥ a1 then (some (decide (a0 ≤ a2))) else (some false)
theorem y_z.calls (a0 : Int) (a1 : Int) (a2 : Int) (r : Bool) (w : World) (h : y_z.f a0 a1 a2 = some r) :
  Calls Try.prog 114 #[.int .i64 a0, .int .i64 a1, .int .i64 a2] w fun e w' => e = .returned (.bool r) ∧ Drawn0 w w' := by
 have H : (if a0 ≥ a1 then (some (decide (a0 ≤ a2))) else (some false)) = some r := h
 clear h
 by_cases c4 : a0 ≥ a1
 ·rw [if_pos c4] at H
  have c4b0 : decide (a1 ≤ a0) = true := z6g c4
  clear c4
  obtain rfl := Option.some.inj H
  go_enter Try.func114, Try.ntmps114
  go_wp2
  go_ret
  exact ⟨by first | rfl | (simp; done) | (simp [*]; done), by repeat (first | exact Drawn0.refl _ | apply Drawn0.step)⟩
 ·rw [if_neg c4] at H
  have c4b0 : decide (a1 ≤ a0) = false := decide_eq_false c4
  clear c4
  obtain rfl := Option.some.inj H
  go_enter Try.func114, Try.ntmps114
  go_wp2
  go_ret
  exact ⟨by first | rfl | (simp; done) | (simp [*]; done), by repeat (first | exact Drawn0.refl _ | apply Drawn0.step)⟩
def y_ub.f (a0_0 : Int) (a0_1 : Int) (a0_2 : Int) : Option (Bool) := (y_z.f a0_0 0 9).bind fun t346 => (if t346 = true then ((y_z.f a0_1 0 99).bind fun t347 => (if t347 = true then ((y_z.f a0_2 0 3).bind fun t348 => (some t348)) else (some false))) else (some false))
theorem y_ub.calls (a0_0 : Int) (a0_1 : Int) (a0_2 : Int) (r : Bool) (w : World) (h : y_ub.f a0_0 a0_1 a0_2 = some r) :
  Calls Try.prog 152 #[.agg #[.int .i64 a0_0, .int .i64 a0_1, .int .i64 a0_2]] w fun e w' => e = .returned (.bool r) ∧ Below w.heap.size w w' := by
 have hu71 := Try.underlying71
 have HB := z6a (Below.refl w.heap.size w)
 have H := h
 unfold y_ub.f at H
 clear h
 replace H := Option.bind_eq_some_iff.mp H
 obtain ⟨t346, A20, H⟩ := H
 have A2 := z6a A20
 clear A20
 by_cases c3 : t346 = true
 ·subst c3
  rw [if_pos rfl] at H
  replace H := Option.bind_eq_some_iff.mp H
  obtain ⟨t347, A40, H⟩ := H
  have A4 := z6a A40
  clear A40
  by_cases c5 : t347 = true
  ·subst c5
   rw [if_pos rfl] at H
   replace H := Option.bind_eq_some_iff.mp H
   obtain ⟨t348, A60, H⟩ := H
   have A6 := z6a A60
   clear A60
   obtain rfl := Option.some.inj H
   go_enter Try.func152, Try.ntmps152
   go_wp2_with (first | ((with_reducible refine gate_dst (N := 1) rfl ?_); refine box_event ?hg (N := 1) ?hd (cs := #[.int .i64 a0_0, .int .i64 a0_1, .int .i64 a0_2]) (t := 71) ?hr ?_; (case hd => rfl); (case hg => rfl); (case hr => first | (go_simp; done) | (go_simp; rfl)); intro gb345 hg w7 hbox hb; have n0_ := z6a (below_step (by repeat (first | (with_reducible first | exact HB.out | apply z6d | apply z6b | apply z6c) | exact HB.out)) hb); have n1_ := z6a (hbox); have n2_ := z6a ((by rw [hg]; exact (below_size (by repeat (first | (with_reducible first | exact HB.out | apply z6d | apply z6b | apply z6c) | exact HB.out))) : w.heap.size ≤ gb345)); have n3_ := z6a ((by rw [hg]; exact (below_size (by repeat (first | (with_reducible first | exact HB.out | apply z6d | apply z6b | apply z6c) | exact HB.out))) : w.heap.size ≤ gb345)); clear HB; have HB := n0_; have BK345 := n1_; have GW345 := n2_; have GE345 := n3_; clear n0_ n1_ n2_ n3_; clear hb hbox hg; obtain ⟨hcz8_0, hcz8_1, hcz8_2⟩ := cells_3 BK345.out; obtain ⟨hfz8_0, hfz8_1, hfz8_2⟩ := frz_3 BK345.out) | ((with_reducible refine gate_callee (f := 114) rfl ?_); refine goesL_ (some 5) rfl rfl Try.func114 (by kernel_rfl) rfl #[.int .i64 a0_0, .int .i64 0, .int .i64 9] rfl (by (try simp only [zm6a, zm6b, zm6c]); first | done | rfl | (simp only [zm6d, zm6e]; rfl)) ?_; (with_reducible refine (y_z.calls a0_0 0 9 true _ A2.out).mono ?_); rintro e w' ⟨rfl, ⟨nd, rfl⟩⟩; refine ⟨_, rfl, ?_⟩) | (go_at_call 114; (with_reducible refine (y_z.calls a0_1 0 99 true _ A4.out).mono ?_); rintro e w' ⟨rfl, ⟨nd, rfl⟩⟩) | (go_at_call 114; (with_reducible refine (y_z.calls a0_2 0 3 t348 _ A6.out).mono ?_); rintro e w' ⟨rfl, ⟨nd, rfl⟩⟩))
   go_ret
   exact ⟨by first | rfl | (simp [errW_none, errW_some] <;> rfl) | (simp [*, errW_none, errW_some] <;> rfl), by repeat (first | (with_reducible first | exact HB.out | apply z6d | apply z6b | apply z6c | refine below_set ?_ GE345.out) | exact HB.out)⟩
  ·replace c5 := Bool.eq_false_iff.mpr c5
   subst c5
   have H1 : (some false) = some r := by rw [if_neg (show ¬ (false = true) by decide)] at H; exact H
   clear H
   have H := H1
   clear H1
   obtain rfl := Option.some.inj H
   go_enter Try.func152, Try.ntmps152
   go_wp2_with (first | ((with_reducible refine gate_dst (N := 1) rfl ?_); refine box_event ?hg (N := 1) ?hd (cs := #[.int .i64 a0_0, .int .i64 a0_1, .int .i64 a0_2]) (t := 71) ?hr ?_; (case hd => rfl); (case hg => rfl); (case hr => first | (go_simp; done) | (go_simp; rfl)); intro gb345 hg w9 hbox hb; have n0_ := z6a (below_step (by repeat (first | (with_reducible first | exact HB.out | apply z6d | apply z6b | apply z6c) | exact HB.out)) hb); have n1_ := z6a (hbox); have n2_ := z6a ((by rw [hg]; exact (below_size (by repeat (first | (with_reducible first | exact HB.out | apply z6d | apply z6b | apply z6c) | exact HB.out))) : w.heap.size ≤ gb345)); have n3_ := z6a ((by rw [hg]; exact (below_size (by repeat (first | (with_reducible first | exact HB.out | apply z6d | apply z6b | apply z6c) | exact HB.out))) : w.heap.size ≤ gb345)); clear HB; have HB := n0_; have BK345 := n1_; have GW345 := n2_; have GE345 := n3_; clear n0_ n1_ n2_ n3_; clear hb hbox hg; obtain ⟨hcz10_0, hcz10_1, hcz10_2⟩ := cells_3 BK345.out; obtain ⟨hfz10_0, hfz10_1, hfz10_2⟩ := frz_3 BK345.out) | ((with_reducible refine gate_callee (f := 114) rfl ?_); refine goesL_ (some 5) rfl rfl Try.func114 (by kernel_rfl) rfl #[.int .i64 a0_0, .int .i64 0, .int .i64 9] rfl (by (try simp only [zm6a, zm6b, zm6c]); first | done | rfl | (simp only [zm6d, zm6e]; rfl)) ?_; (with_reducible refine (y_z.calls a0_0 0 9 true _ A2.out).mono ?_); rintro e w' ⟨rfl, ⟨nd, rfl⟩⟩; refine ⟨_, rfl, ?_⟩) | (go_at_call 114; (with_reducible refine (y_z.calls a0_1 0 99 false _ A4.out).mono ?_); rintro e w' ⟨rfl, ⟨nd, rfl⟩⟩))
   go_ret
   exact ⟨by first | rfl | (simp [errW_none, errW_some] <;> rfl) | (simp [*, errW_none, errW_some] <;> rfl), by repeat (first | (with_reducible first | exact HB.out | apply z6d | apply z6b | apply z6c | refine below_set ?_ GE345.out) | exact HB.out)⟩
 ·replace c3 := Bool.eq_false_iff.mpr c3
  subst c3
  have H1 : (some false) = some r := by rw [if_neg (show ¬ (false = true) by decide)] at H; exact H
  clear H
  have H := H1
  clear H1
  obtain rfl := Option.some.inj H
  go_enter Try.func152, Try.ntmps152
  go_wp2_with (first | ((with_reducible refine gate_dst (N := 1) rfl ?_); refine box_event ?hg (N := 1) ?hd (cs := #[.int .i64 a0_0, .int .i64 a0_1, .int .i64 a0_2]) (t := 71) ?hr ?_; (case hd => rfl); (case hg => rfl); (case hr => first | (go_simp; done) | (go_simp; rfl)); intro gb345 hg w11 hbox hb; have n0_ := z6a (below_step (by repeat (first | (with_reducible first | exact HB.out | apply z6d | apply z6b | apply z6c) | exact HB.out)) hb); have n1_ := z6a (hbox); have n2_ := z6a ((by rw [hg]; exact (below_size (by repeat (first | (with_reducible first | exact HB.out | apply z6d | apply z6b | apply z6c) | exact HB.out))) : w.heap.size ≤ gb345)); have n3_ := z6a ((by rw [hg]; exact (below_size (by repeat (first | (with_reducible first | exact HB.out | apply z6d | apply z6b | apply z6c) | exact HB.out))) : w.heap.size ≤ gb345)); clear HB; have HB := n0_; have BK345 := n1_; have GW345 := n2_; have GE345 := n3_; clear n0_ n1_ n2_ n3_; clear hb hbox hg; obtain ⟨hcz12_0, hcz12_1, hcz12_2⟩ := cells_3 BK345.out; obtain ⟨hfz12_0, hfz12_1, hfz12_2⟩ := frz_3 BK345.out) | ((with_reducible refine gate_callee (f := 114) rfl ?_); refine goesL_ (some 5) rfl rfl Try.func114 (by kernel_rfl) rfl #[.int .i64 a0_0, .int .i64 0, .int .i64 9] rfl (by (try simp only [zm6a, zm6b, zm6c]); first | done | rfl | (simp only [zm6d, zm6e]; rfl)) ?_; (with_reducible refine (y_z.calls a0_0 0 9 false _ A2.out).mono ?_); rintro e w' ⟨rfl, ⟨nd, rfl⟩⟩; refine ⟨_, rfl, ?_⟩))
  go_ret
  exact ⟨by first | rfl | (simp [errW_none, errW_some] <;> rfl) | (simp [*, errW_none, errW_some] <;> rfl), by repeat (first | (with_reducible first | exact HB.out | apply z6d | apply z6b | apply z6c | refine below_set ?_ GE345.out) | exact HB.out)⟩
def y_zb.f (a0_0 : Int) (a0_1 : Int) (a0_2 : Int) : Option (Int) := (y_ub.f a0_0 a0_1 a0_2).bind fun t350 => (if t350 = true then (some (wrap64 (1 + a0_2))) else (some 0))
theorem y_zb.calls (a0_0 : Int) (a0_1 : Int) (a0_2 : Int) (r : Int) (w : World) (h : y_zb.f a0_0 a0_1 a0_2 = some r) :
  Calls Try.prog 115 #[.agg #[.int .i64 a0_0, .int .i64 a0_1, .int .i64 a0_2]] w fun e w' => e = .returned (.int .i64 r) ∧ Below w.heap.size w w' := by
 have hu71 := Try.underlying71
 have HB := z6a (Below.refl w.heap.size w)
 have H := h
 unfold y_zb.f at H
 clear h
 replace H := Option.bind_eq_some_iff.mp H
 obtain ⟨t350, A20, H⟩ := H
 have A2 := z6a A20
 clear A20
 by_cases c3 : t350 = true
 ·subst c3
  rw [if_pos rfl] at H
  obtain rfl := Option.some.inj H
  go_enter Try.func115, Try.ntmps115
  go_wp2_with (first | ((with_reducible refine gate_dst (N := 1) rfl ?_); refine box_event ?hg (N := 1) ?hd (cs := #[.int .i64 a0_0, .int .i64 a0_1, .int .i64 a0_2]) (t := 71) ?hr ?_; (case hd => rfl); (case hg => rfl); (case hr => first | (go_simp; done) | (go_simp; rfl)); intro gb349 hg w4 hbox hb; have n0_ := z6a (below_step (by repeat (first | (with_reducible first | exact HB.out | apply z6d | apply z6b | apply z6c) | exact HB.out)) hb); have n1_ := z6a (hbox); have n2_ := z6a ((by rw [hg]; exact (below_size (by repeat (first | (with_reducible first | exact HB.out | apply z6d | apply z6b | apply z6c) | exact HB.out))) : w.heap.size ≤ gb349)); have n3_ := z6a ((by rw [hg]; exact (below_size (by repeat (first | (with_reducible first | exact HB.out | apply z6d | apply z6b | apply z6c) | exact HB.out))) : w.heap.size ≤ gb349)); clear HB; have HB := n0_; have BK349 := n1_; have GW349 := n2_; have GE349 := n3_; clear n0_ n1_ n2_ n3_; clear hb hbox hg; obtain ⟨hcz5_0, hcz5_1, hcz5_2⟩ := cells_3 BK349.out; obtain ⟨hfz5_0, hfz5_1, hfz5_2⟩ := frz_3 BK349.out) | ((with_reducible refine gate_callee (f := 152) rfl ?_); refine goesL_ (some 4) rfl rfl Try.func152 (by kernel_rfl) rfl #[.agg #[.int .i64 a0_0, .int .i64 a0_1, .int .i64 a0_2]] rfl (by (try simp only [zm6a, zm6b, zm6c]); first | done | rfl | (simp only [zm6d, zm6e]; rfl)) ?_; (with_reducible refine (y_ub.calls a0_0 a0_1 a0_2 true _ A2.out).mono ?_); rintro e w6 ⟨rfl, hb⟩; refine ⟨_, rfl, ?_⟩; have n0_ := z6a (blk_below (g := gb349) (o := .cells #[.int .i64 a0_0, .int .i64 a0_1, .int .i64 a0_2] 71 (0, 0)) (by (with_reducible repeat (first | refine z6h ?_ _ | refine blk_drew ?_ | refine z6i ?_ _)); exact BK349.out) hb); have n1_ := z6a (below_step (by repeat (first | (with_reducible first | exact HB.out | apply z6d | apply z6b | apply z6c | refine below_set ?_ GE349.out) | exact HB.out)) hb); clear BK349; clear HB; have BK349 := n0_; have HB := n1_; clear n0_ n1_; (try clear hb); (try clear hb2); (try clear hk); (try clear hi); obtain ⟨hcz7_0, hcz7_1, hcz7_2⟩ := cells_3 BK349.out; obtain ⟨hfz7_0, hfz7_1, hfz7_2⟩ := frz_3 BK349.out))
  go_ret
  exact ⟨by first | rfl | (simp [errW_none, errW_some] <;> rfl) | (simp [*, errW_none, errW_some] <;> rfl), by repeat (first | (with_reducible first | exact HB.out | apply z6d | apply z6b | apply z6c | refine below_set ?_ GE349.out) | exact HB.out)⟩
 ·replace c3 := Bool.eq_false_iff.mpr c3
  subst c3
  have H1 : (some 0) = some r := by rw [if_neg (show ¬ (false = true) by decide)] at H; exact H
  clear H
  have H := H1
  clear H1
  obtain rfl := Option.some.inj H
  go_enter Try.func115, Try.ntmps115
  go_wp2_with (first | ((with_reducible refine gate_dst (N := 1) rfl ?_); refine box_event ?hg (N := 1) ?hd (cs := #[.int .i64 a0_0, .int .i64 a0_1, .int .i64 a0_2]) (t := 71) ?hr ?_; (case hd => rfl); (case hg => rfl); (case hr => first | (go_simp; done) | (go_simp; rfl)); intro gb349 hg w8 hbox hb; have n0_ := z6a (below_step (by repeat (first | (with_reducible first | exact HB.out | apply z6d | apply z6b | apply z6c) | exact HB.out)) hb); have n1_ := z6a (hbox); have n2_ := z6a ((by rw [hg]; exact (below_size (by repeat (first | (with_reducible first | exact HB.out | apply z6d | apply z6b | apply z6c) | exact HB.out))) : w.heap.size ≤ gb349)); have n3_ := z6a ((by rw [hg]; exact (below_size (by repeat (first | (with_reducible first | exact HB.out | apply z6d | apply z6b | apply z6c) | exact HB.out))) : w.heap.size ≤ gb349)); clear HB; have HB := n0_; have BK349 := n1_; have GW349 := n2_; have GE349 := n3_; clear n0_ n1_ n2_ n3_; clear hb hbox hg; obtain ⟨hcz9_0, hcz9_1, hcz9_2⟩ := cells_3 BK349.out; obtain ⟨hfz9_0, hfz9_1, hfz9_2⟩ := frz_3 BK349.out) | ((with_reducible refine gate_callee (f := 152) rfl ?_); refine goesL_ (some 4) rfl rfl Try.func152 (by kernel_rfl) rfl #[.agg #[.int .i64 a0_0, .int .i64 a0_1, .int .i64 a0_2]] rfl (by (try simp only [zm6a, zm6b, zm6c]); first | done | rfl | (simp only [zm6d, zm6e]; rfl)) ?_; (with_reducible refine (y_ub.calls a0_0 a0_1 a0_2 false _ A2.out).mono ?_); rintro e w10 ⟨rfl, hb⟩; refine ⟨_, rfl, ?_⟩; have n0_ := z6a (blk_below (g := gb349) (o := .cells #[.int .i64 a0_0, .int .i64 a0_1, .int .i64 a0_2] 71 (0, 0)) (by (with_reducible repeat (first | refine z6h ?_ _ | refine blk_drew ?_ | refine z6i ?_ _)); exact BK349.out) hb); have n1_ := z6a (below_step (by repeat (first | (with_reducible first | exact HB.out | apply z6d | apply z6b | apply z6c | refine below_set ?_ GE349.out) | exact HB.out)) hb); clear BK349; clear HB; have BK349 := n0_; have HB := n1_; clear n0_ n1_; (try clear hb); (try clear hb2); (try clear hk); (try clear hi)))
  go_ret
  exact ⟨by first | rfl | (simp [errW_none, errW_some] <;> rfl) | (simp [*, errW_none, errW_some] <;> rfl), by repeat (first | (with_reducible first | exact HB.out | apply z6d | apply z6b | apply z6c | refine below_set ?_ GE349.out) | exact HB.out)⟩
def y_w.l0 : Nat → List (S71) → Int → Int → Option (Int)
 | 0, _, _, _ => none
 | k + 1, x0, x3, x4 => if x4 < (x0.length : Int) then (if 0 ≤ x4 then ((y_zb.f ((rd_T71 x0 x4).f0) ((rd_T71 x0 x4).f1) ((rd_T71 x0 x4).f2)).bind fun t352 => (y_w.l0 k x0 (wrap64 (x3 + t352)) (wrap64 (x4 + 1)))) else (none)) else (some x3)
def y_w.f (k : Nat) (l0 : List (S71)) : Option (Int) := y_w.l0 k l0 0 0
theorem y_w.calls (k : Nat) (A0 : Option Addr) (c0 : Nat) (l0 : List (S71)) (r : Int) (w : World) (hr0 : Kd.C k71 w A0 l0.length l0) (hc0 : l0.length ≤ c0) (h : y_w.f k l0 = some r) :
  Calls Try.prog 31 #[.slice A0 l0.length c0] w fun e w' => e = .returned (.int .i64 r) ∧ Below w.heap.size w w' := by
 have hu71 := Try.underlying71
 have HR0 := z6a hr0
 have HC0 := z6a hc0
 clear hr0 hc0
 have HB := z6a (Below.refl w.heap.size w)
 have H : (y_w.l0 k l0 0 0) = some r := h
 clear h
 have H' := z6a H
 clear H
 go_enter Try.func31, Try.ntmps31
 go_wp2
 go_loopg [3, 4] k (fun kq v3 v4 w' => ∃ (x3_1 : Int) (x4_1 : Int), v3 = .int .i64 x3_1 ∧ v4 = .int .i64 x4_1 ∧ Aside0 (y_w.l0 kq l0 x3_1 x4_1 = some r) ∧ Aside0 (kq ≤ k) ∧ Aside0 (Below w.heap.size w w'))
 case atStart => exact ⟨(0), (0), (by first | rfl | (simp; done) | (simp [*]; done)), (by first | rfl | (simp; done) | (simp [*]; done)), H', ⟨Nat.le_refl _⟩, ⟨by repeat (first | (with_reducible first | exact HB.out | apply z6d | apply z6b | apply z6c) | exact HB.out)⟩⟩
 case round =>
  clear H'
  obtain ⟨x3_1, x4_1, rfl, rfl, HA, HK1, HB⟩ := hrel
  cases gk with
  | zero => exact absurd HA.out (by simp [y_w.l0])
  | succ k1 =>
   have H := HA.out
   clear HA
   simp only [y_w.l0] at H
   by_cases c2 : x4_1 < (l0.length : Int)
   ·rw [if_pos c2] at H
    have c2b0 : decide (x4_1 < (l0.length : Int)) = true := z6g c2
    clear c2
    by_cases c3 : 0 ≤ x4_1
    ·rw [if_pos c3] at H
     have c3b0 : decide (0 ≤ x4_1) = true := z6g c3
     clear c3
     replace H := Option.bind_eq_some_iff.mp H
     obtain ⟨t352, A40, H⟩ := H
     have A4 := z6a A40
     clear A40
     have H' := z6a H
     clear H
     have p351 : 0 ≤ (x4_1 : Int) := z6f (by first | (with_reducible assumption) | assumption)
     have q351 : x4_1 < (l0.length : Int) := z6f (by first | (with_reducible assumption) | assumption)
     obtain ⟨ad351, e351, hx351_0, hx351_1, hx351_2⟩ := at_T71 HR0.out x4_1 p351 q351
     cases e351
     replace hx351_0 := (HB.out.cell (z6e w _ hx351_0)).trans hx351_0
     replace hx351_1 := (HB.out.cell (z6e w _ hx351_1)).trans hx351_1
     replace hx351_2 := (HB.out.cell (z6e w _ hx351_2)).trans hx351_2
     replace p351 := eq_true p351
     replace q351 := eq_true q351
     go_wp2_with (first | ((with_reducible refine gate_callee (f := 115) rfl ?_); refine goesL_ (some 16) rfl rfl Try.func115 (by kernel_rfl) rfl #[.agg #[.int .i64 ((rd_T71 l0 x4_1).f0), .int .i64 ((rd_T71 l0 x4_1).f1), .int .i64 ((rd_T71 l0 x4_1).f2)]] rfl (by (try simp only [zm6a, zm6b, zm6c]); first | done | rfl | (simp only [zm6d, zm6e]; rfl)) ?_; (with_reducible refine (y_zb.calls ((rd_T71 l0 x4_1).f0) ((rd_T71 l0 x4_1).f1) ((rd_T71 l0 x4_1).f2) t352 _ A4.out).mono ?_); rintro e w5 ⟨rfl, hb⟩; refine ⟨_, rfl, ?_⟩; have n0_ := z6a (below_step (by repeat (first | (with_reducible first | exact HB.out | apply z6d | apply z6b | apply z6c) | exact HB.out)) hb); clear HB; have HB := n0_; clear n0_; (try clear hb); (try clear hb2); (try clear hk); (try clear hi)))
     go_roundg k1
     case measure => have := HK1.out; omega
     case rel => exact ⟨(wrap64 (x3_1 + t352)), (wrap64 (x4_1 + 1)), (by first | rfl | (simp; done) | (simp [*]; done)), (by first | rfl | (simp; done) | (simp [*]; done)), H', ⟨by have := HK1.out; omega⟩, ⟨by repeat (first | (with_reducible first | exact HB.out | apply z6d | apply z6b | apply z6c) | exact HB.out)⟩⟩
    ·rw [if_neg c3] at H
     exact absurd H (by simp)
   ·rw [if_neg c2] at H
    have c2b0 : decide (x4_1 < (l0.length : Int)) = false := decide_eq_false c2
    clear c2
    obtain rfl := Option.some.inj H
    go_wp2
    go_ret
    exact ⟨by first | rfl | (simp [errW_none, errW_some] <;> rfl) | (simp [*, errW_none, errW_some] <;> rfl), by repeat (first | (with_reducible first | exact HB.out | apply z6d | apply z6b | apply z6c) | exact HB.out)⟩
def y_y.l0 : Nat → List (S71) → Int → Option (Bool)
 | 0, _, _ => none
 | k + 1, x0, x3 => if x3 < (x0.length : Int) then (if 0 ≤ x3 then ((y_ub.f ((rd_T71 x0 x3).f0) ((rd_T71 x0 x3).f1) ((rd_T71 x0 x3).f2)).bind fun t354 => (if t354 = true then (y_y.l0 k x0 (wrap64 (x3 + 1))) else (some false))) else (none)) else (some (decide ((x0.length : Int) ≤ 24)))
def y_y.f (k : Nat) (l0 : List (S71)) : Option (Bool) := y_y.l0 k l0 0
theorem y_y.calls (k : Nat) (A0 : Option Addr) (c0 : Nat) (l0 : List (S71)) (r : Bool) (w : World) (hr0 : Kd.C k71 w A0 l0.length l0) (hc0 : l0.length ≤ c0) (h : y_y.f k l0 = some r) :
  Calls Try.prog 93 #[.slice A0 l0.length c0] w fun e w' => e = .returned (.bool r) ∧ Below w.heap.size w w' := by
 have hu71 := Try.underlying71
 have HR0 := z6a hr0
 have HC0 := z6a hc0
 clear hr0 hc0
 have HB := z6a (Below.refl w.heap.size w)
 have H : (y_y.l0 k l0 0) = some r := h
 clear h
 have H' := z6a H
 clear H
 go_enter Try.func93, Try.ntmps93
 go_wp2
 go_loopg [3] k (fun kq v3 w' => ∃ (x3_1 : Int), v3 = .int .i64 x3_1 ∧ Aside0 (y_y.l0 kq l0 x3_1 = some r) ∧ Aside0 (kq ≤ k) ∧ Aside0 (Below w.heap.size w w'))
 case atStart => exact ⟨(0), (by first | rfl | (simp; done) | (simp [*]; done)), H', ⟨Nat.le_refl _⟩, ⟨by repeat (first | (with_reducible first | exact HB.out | apply z6d | apply z6b | apply z6c) | exact HB.out)⟩⟩
 case round =>
  clear H'
  obtain ⟨x3_1, rfl, HA, HK1, HB⟩ := hrel
  cases gk with
  | zero => exact absurd HA.out (by simp [y_y.l0])
  | succ k1 =>
   have H := HA.out
   clear HA
   simp only [y_y.l0] at H
   by_cases c2 : x3_1 < (l0.length : Int)
   ·rw [if_pos c2] at H
    have c2b0 : decide (x3_1 < (l0.length : Int)) = true := z6g c2
    clear c2
    by_cases c3 : 0 ≤ x3_1
    ·rw [if_pos c3] at H
     have c3b0 : decide (0 ≤ x3_1) = true := z6g c3
     clear c3
     replace H := Option.bind_eq_some_iff.mp H
     obtain ⟨t354, A40, H⟩ := H
     have A4 := z6a A40
     clear A40
     by_cases c5 : t354 = true
     ·subst c5
      rw [if_pos rfl] at H
      have H' := z6a H
      clear H
      have p353 : 0 ≤ (x3_1 : Int) := z6f (by first | (with_reducible assumption) | assumption)
      have q353 : x3_1 < (l0.length : Int) := z6f (by first | (with_reducible assumption) | assumption)
      obtain ⟨ad353, e353, hx353_0, hx353_1, hx353_2⟩ := at_T71 HR0.out x3_1 p353 q353
      cases e353
      replace hx353_0 := (HB.out.cell (z6e w _ hx353_0)).trans hx353_0
      replace hx353_1 := (HB.out.cell (z6e w _ hx353_1)).trans hx353_1
      replace hx353_2 := (HB.out.cell (z6e w _ hx353_2)).trans hx353_2
      replace p353 := eq_true p353
      replace q353 := eq_true q353
      go_wp2_with (first | ((with_reducible refine gate_callee (f := 152) rfl ?_); refine goesL_ (some 14) rfl rfl Try.func152 (by kernel_rfl) rfl #[.agg #[.int .i64 ((rd_T71 l0 x3_1).f0), .int .i64 ((rd_T71 l0 x3_1).f1), .int .i64 ((rd_T71 l0 x3_1).f2)]] rfl (by (try simp only [zm6a, zm6b, zm6c]); first | done | rfl | (simp only [zm6d, zm6e]; rfl)) ?_; (with_reducible refine (y_ub.calls ((rd_T71 l0 x3_1).f0) ((rd_T71 l0 x3_1).f1) ((rd_T71 l0 x3_1).f2) true _ A4.out).mono ?_); rintro e w6 ⟨rfl, hb⟩; refine ⟨_, rfl, ?_⟩; have n0_ := z6a (below_step (by repeat (first | (with_reducible first | exact HB.out | apply z6d | apply z6b | apply z6c) | exact HB.out)) hb); clear HB; have HB := n0_; clear n0_; (try clear hb); (try clear hb2); (try clear hk); (try clear hi)))
      go_roundg k1
      case measure => have := HK1.out; omega
      case rel => exact ⟨(wrap64 (x3_1 + 1)), (by first | rfl | (simp; done) | (simp [*]; done)), H', ⟨by have := HK1.out; omega⟩, ⟨by repeat (first | (with_reducible first | exact HB.out | apply z6d | apply z6b | apply z6c) | exact HB.out)⟩⟩
     ·replace c5 := Bool.eq_false_iff.mpr c5
      subst c5
      have H1 : (some false) = some r := by rw [if_neg (show ¬ (false = true) by decide)] at H; exact H
      clear H
      have H := H1
      clear H1
      obtain rfl := Option.some.inj H
      have p353 : 0 ≤ (x3_1 : Int) := z6f (by first | (with_reducible assumption) | assumption)
      have q353 : x3_1 < (l0.length : Int) := z6f (by first | (with_reducible assumption) | assumption)
      obtain ⟨ad353, e353, hx353_0, hx353_1, hx353_2⟩ := at_T71 HR0.out x3_1 p353 q353
      cases e353
      replace hx353_0 := (HB.out.cell (z6e w _ hx353_0)).trans hx353_0
      replace hx353_1 := (HB.out.cell (z6e w _ hx353_1)).trans hx353_1
      replace hx353_2 := (HB.out.cell (z6e w _ hx353_2)).trans hx353_2
      replace p353 := eq_true p353
      replace q353 := eq_true q353
      go_wp2_with (first | ((with_reducible refine gate_callee (f := 152) rfl ?_); refine goesL_ (some 14) rfl rfl Try.func152 (by kernel_rfl) rfl #[.agg #[.int .i64 ((rd_T71 l0 x3_1).f0), .int .i64 ((rd_T71 l0 x3_1).f1), .int .i64 ((rd_T71 l0 x3_1).f2)]] rfl (by (try simp only [zm6a, zm6b, zm6c]); first | done | rfl | (simp only [zm6d, zm6e]; rfl)) ?_; (with_reducible refine (y_ub.calls ((rd_T71 l0 x3_1).f0) ((rd_T71 l0 x3_1).f1) ((rd_T71 l0 x3_1).f2) false _ A4.out).mono ?_); rintro e w7 ⟨rfl, hb⟩; refine ⟨_, rfl, ?_⟩; have n0_ := z6a (below_step (by repeat (first | (with_reducible first | exact HB.out | apply z6d | apply z6b | apply z6c) | exact HB.out)) hb); clear HB; have HB := n0_; clear n0_; (try clear hb); (try clear hb2); (try clear hk); (try clear hi)))
      go_ret
      exact ⟨by first | rfl | (simp [errW_none, errW_some] <;> rfl) | (simp [*, errW_none, errW_some] <;> rfl), by repeat (first | (with_reducible first | exact HB.out | apply z6d | apply z6b | apply z6c) | exact HB.out)⟩
    ·rw [if_neg c3] at H
     exact absurd H (by simp)
   ·rw [if_neg c2] at H
    have c2b0 : decide (x3_1 < (l0.length : Int)) = false := decide_eq_false c2
    clear c2
    obtain rfl := Option.some.inj H
    go_wp2
    go_ret
    exact ⟨by first | rfl | (simp [errW_none, errW_some] <;> rfl) | (simp [*, errW_none, errW_some] <;> rfl), by repeat (first | (with_reducible first | exact HB.out | apply z6d | apply z6b | apply z6c) | exact HB.out)⟩
end Go.Proofs.Ytkcicbigpbdjpaa.P
end
