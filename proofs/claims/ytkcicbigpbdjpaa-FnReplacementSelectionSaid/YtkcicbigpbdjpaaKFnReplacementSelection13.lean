-- merged by pack.py out of Px26 (words: printed by the kit's print.sh; what this claim does not use is left out)

import Derived.Test.YtkcicbigpbdjpaaKFnReplacementSelection1
import Derived.Test.YtkcicbigpbdjpaaKFnReplacementSelection9
namespace Go.Proofs.Ytkcicbigpbdjpaa
section
open Go.RowKit Go.Proofs.YtkcicbigpbdjpaaW.PrintWords Go.Proofs.YtkcicbigpbdjpaaW.PrintLast Go.Proofs.YtkcicbigpbdjpaaW.PrintMore
abbrev z13a := @Aside0.mk
abbrev z13b := @pw_below_drewN
abbrev z13c := @below_drew1
abbrev z13d := @below_alloc
abbrev z13e := @of_decide_eq_true
abbrev z13f := @Kd.R_alloc
abbrev z13g := @Kd.R_drewN
end
end Go.Proofs.Ytkcicbigpbdjpaa
set_option maxHeartbeats 8000000
set_option maxRecDepth 100000
section
namespace Go.Proofs.Ytkcicbigpbdjpaa.P
open Go.RowKit Go.Proofs.YtkcicbigpbdjpaaW.PrintWords Go.Proofs.YtkcicbigpbdjpaaW.PrintLast Go.Proofs.YtkcicbigpbdjpaaW.PrintMore
attribute [local go_sem] max2_int min2_int max_two min_two max_three min_three max_four min_four
set_option linter.unusedVariables false
set_option linter.unusedSimpArgs false
attribute [local go_sem high] eqA71
def y_j.l0 : Nat → List (S71) → List (S39) → Int → Int → Option ((List (S71)))
 | 0, _, _, _, _ => none
 | k + 1, x3, x7, x8, x9 => if x9 < x8 then (if 0 ≤ x9 then (if x9 < (x7.length : Int) then (if x3.length + ((rd_T39 x7 x9).f0).length < 5864062014805 then (y_j.l0 k (x3 ++ ((rd_T39 x7 x9).f0)) x7 x8 (wrap64 (x9 + 1))) else (none)) else (none)) else (none)) else (some x3)
def y_j.f (k : Nat) (l0 : List (S39)) : Option ((List (S71))) := y_j.l0 k (([] : List (S71))) l0 (l0.length : Int) 0
theorem y_j.calls (k : Nat) (A0 : Option Addr) (c0 : Nat) (l0 : List (S39)) (r : List (S71)) (w : World) (hr0 : Kd.C k39 w A0 l0.length l0) (hc0 : l0.length ≤ c0) (h : y_j.f k l0 = some r) :
  Calls Try.prog 29 #[.slice A0 l0.length c0] w fun e w' => ∃ v0_ : Value, e = .returned (v0_) ∧ Kd.R k71 71 w' w.heap.size (fun _ => True) v0_ r ∧ Below w.heap.size w w' := by
 have hu39 := Try.underlying39
 have HR0 := z13a hr0
 have HC0 := z13a hc0
 clear hr0 hc0
 have HB := z13a (Below.refl w.heap.size w)
 have H : (y_j.l0 k (([] : List (S71))) l0 (l0.length : Int) 0) = some r := h
 clear h
 obtain ⟨y609, hy609⟩ : ∃ y_ : List (S71), y_ = (([] : List (S71))) := ⟨_, rfl⟩
 replace H : (y_j.l0 k y609 l0 (l0.length : Int) 0) = some r := by first | (rw [hy609]; with_reducible exact H) | (have H2_ := (Option.bind_some _ _).symm.trans H; rw [hy609]; with_reducible exact H2_) | (have H2_ := (Option.bind_some _ _).symm.trans H; with_reducible exact H2_) | with_reducible exact H | (rw [hy609]; exact H) | exact H
 have Ny609 := z13a hy609
 clear hy609
 have H' := z13a H
 clear H
 go_enter Try.func29, Try.ntmps29
 go_wp2_with (first | ((with_reducible refine gate_dst (N := 6) rfl ?_); refine Kd.R_lit k71 _ 71 ?hg (N := 6) ?hd (xs := ([] : List (S71))) (inner := []) (ok := fun _ => True) (okp := fun _ => True) ?hr ?hp (fun _ hk => hk) trivial (Below.refl _ _) (Nat.le_refl _) (by simp) ?_; (case hd => rfl); (case hg => rfl); (case hr => first | (go_simp; done) | (go_simp; rfl)); (case hp => exact (Reps.none _ _)); intro v610 w2 ho3 hb hg_ hnew_; clear hg_ hnew_; (first | rw [← Ny609.out] at ho3 | (simp only [Int.reduceToNat] at ho3; rw [← Ny609.out] at ho3)); have n0_ := z13a (Kd.R_lower ho3 (below_size (by repeat (first | (with_reducible first | exact HB.out | apply z13d | apply z13b | apply z13c) | exact HB.out)))); have n1_ := z13a (below_step (by repeat (first | (with_reducible first | exact HB.out | apply z13d | apply z13b | apply z13c) | exact HB.out)) hb); clear HB; have HO611 := n0_; have HB := n1_; clear n0_ n1_; clear hb ho3))
 go_loopg [3, 9] k (fun kq v3 v9 w' => ∃ (x3_1 : List (S71)) (x9_1 : Int), v9 = .int .i64 x9_1 ∧ Aside0 (y_j.l0 kq x3_1 l0 (l0.length : Int) x9_1 = some r) ∧ Aside0 (kq ≤ k) ∧ Aside0 (Kd.R k71 71 w' w.heap.size (fun _ => True) v3 x3_1) ∧ Aside0 (Below w.heap.size w w'))
 case atStart => exact ⟨(y609), (0), (by first | rfl | (simp; done) | (simp [*]; done)), H', ⟨Nat.le_refl _⟩, ⟨by (with_reducible repeat (first | apply z13f | apply z13g | apply Kd.R_drew)); exact HO611.out⟩, ⟨by repeat (first | (with_reducible first | exact HB.out | apply z13d | apply z13b | apply z13c) | exact HB.out)⟩⟩
 case round =>
  clear H'
  try clear c2
  try clear p2
  obtain ⟨x3_1, x9_1, rfl, HA, HK1, HO_3, HB⟩ := hrel
  cases gk with
  | zero => exact absurd HA.out (by simp [y_j.l0])
  | succ k1 =>
   have H := HA.out
   clear HA
   simp only [y_j.l0] at H
   by_cases c4 : x9_1 < (l0.length : Int)
   ·rw [if_pos c4] at H
    have c4b0 : decide (x9_1 < (l0.length : Int)) = true := decide_eq_true c4
    clear c4
    by_cases c5 : 0 ≤ x9_1
    ·rw [if_pos c5] at H
     have c5b0 : decide (0 ≤ x9_1) = true := decide_eq_true c5
     clear c5
     by_cases c6 : x9_1 < (l0.length : Int)
     ·rw [if_pos c6] at H
      have c6b0 : decide (x9_1 < (l0.length : Int)) = true := decide_eq_true c6
      clear c6
      by_cases c7 : x3_1.length + ((rd_T39 l0 x9_1).f0).length < 5864062014805
      ·rw [if_pos c7] at H
       have LMc7 := z13a c7
       clear c7
       obtain ⟨y614, hy614⟩ : ∃ y_ : List (S71), y_ = (x3_1 ++ ((rd_T39 l0 x9_1).f0)) := ⟨_, rfl⟩
       replace H : (y_j.l0 k1 y614 l0 (l0.length : Int) (wrap64 (x9_1 + 1))) = some r := by first | (rw [hy614]; with_reducible exact H) | (have H2_ := (Option.bind_some _ _).symm.trans H; rw [hy614]; with_reducible exact H2_) | (have H2_ := (Option.bind_some _ _).symm.trans H; with_reducible exact H2_) | with_reducible exact H | (rw [hy614]; exact H) | exact H
       have Ny614 := z13a hy614
       clear hy614
       have H' := z13a H
       clear H
       have p612 : 0 ≤ (x9_1 : Int) := z13e (by first | (with_reducible assumption) | assumption)
       have q612 : x9_1 < (l0.length : Int) := z13e (by first | (with_reducible assumption) | assumption)
       obtain ⟨ad612, A612_0, c612_0, e612, hx612_0, hl612_0, hi612_0⟩ := at_T39 HR0.out x9_1 p612 q612
       cases e612
       replace hx612_0 := (HB.out.cell (World.block_lt_of_cell? w _ hx612_0)).trans hx612_0
       have HR612_0 := z13a hi612_0
       have HC612_0 := z13a hl612_0
       clear hi612_0 hl612_0
       replace p612 := eq_true p612
       replace q612 := eq_true q612
       go_wp2_with (first | ((with_reducible refine gate_dst (N := 5) rfl ?_); refine box_event ?hg (N := 5) ?hd (cs := #[.slice none 0 0]) (t := 39) ?hr ?_; (case hd => rfl); (case hg => rfl); (case hr => first | (go_simp; done) | (go_simp; rfl)); intro gb613 hg w8 hbox hb; have n0_ := z13a (Kd.R_below (by (with_reducible repeat (first | apply z13f | apply z13g | apply Kd.R_drew)); exact HO_3.out) hb); have n1_ := z13a (below_step (by repeat (first | (with_reducible first | exact HB.out | apply z13d | apply z13b | apply z13c) | exact HB.out)) hb); have n2_ := z13a (hbox); have n3_ := z13a ((by rw [hg]; exact (below_size (by repeat (first | (with_reducible first | exact HB.out | apply z13d | apply z13b | apply z13c) | exact HB.out))) : w.heap.size ≤ gb613)); have n4_ := z13a ((by rw [hg]; exact (below_size (by repeat (first | (with_reducible first | exact HB.out | apply z13d | apply z13b | apply z13c) | exact HB.out))) : w.heap.size ≤ gb613)); clear HO_3; clear HB; have HO_3 := n0_; have HB := n1_; have BK613 := n2_; have GW613 := n3_; have GE613 := n4_; clear n0_ n1_ n2_ n3_ n4_; clear hb hbox hg; have hcz9_0 : w8.cell? ⟨gb613, 0, none⟩ = some (.slice none 0 0) := (blk_cell BK613.out 0).trans rfl; have hfz9_0 := blk_frozen BK613.out 0) | ((with_reducible refine gate_builtin (b := .append) (xs := #[.tmp 13, .tmp 15]) rfl ?_); at_builtin; refine Kd.R_append_rows k71 (w0 := w) w.heap.size rfl (.tmp 13) (.tmp 15) 24 71 (.agg #[(.int .i64 0), (.int .i64 0), (.int .i64 0)]) 24 rfl Try.underlying24 info71 rfl (by decide) (by omega) u3 x3_1 ((rd_T39 l0 x9_1).f0) _ _ _ (fun _ => True) (fun _ => False) rfl rfl ?aO ?aR (fun _ _ h => h) (fun _ h => h.elim) ?aF ?aB ?aS ?aL ?_; (case aR => exact Kd.C_below HR612_0.out (by repeat (first | (with_reducible first | exact HB.out | apply z13d | apply z13b | apply z13c | refine below_set ?_ GE613.out) | exact HB.out))); (case aB => exact (by repeat (first | (with_reducible first | exact HB.out | apply z13d | apply z13b | apply z13c | refine below_set ?_ GE613.out) | exact HB.out))); (case aF => exact (fun _ _ => trivial)); (case aO => exact (by (with_reducible repeat (first | apply z13f | apply z13g | apply Kd.R_drew)); exact Kd.R_mono (Kd.R_far (p := ⟨gb613, 0, none⟩) (Kd.R_types HO_3.out BK613.out (by decide)) (fun _ hk => hk.2) (.slice A612_0 ((rd_T39 l0 x9_1).f0).length c612_0)) (fun _ hk => trivial))); (case aS => exact (below_size (by repeat (first | (with_reducible first | exact HB.out | apply z13d | apply z13b | apply z13c | refine below_set ?_ GE613.out) | exact HB.out)))); (case aL => have := LMc7.out; omega); intro v615 w10 ho hb hg hat; rw [← Ny614.out] at ho; have n0_ := z13a (blk_grown (g := gb613) (o := .cells #[.slice A612_0 ((rd_T39 l0 x9_1).f0).length c612_0] 39 (0, 0)) (by (with_reducible repeat (first | refine blk_drewN ?_ _ | refine blk_drew ?_ | refine blk_alloc ?_ _)); refine blk_put (cs := #[.slice none 0 0]) ?_ 0 _ rfl; (with_reducible repeat (first | refine blk_drewN ?_ _ | refine blk_drew ?_ | refine blk_alloc ?_ _)); exact BK613.out) hg (Kd.R_ne HO_3.out BK613.out (by decide))); have n1_ := z13a (hb); have n2_ := z13a (ho); clear BK613; clear HB; clear HO_3; have BK613 := n0_; have HB := n1_; have HO616 := n2_; clear n0_ n1_ n2_; clear ho hb hg hat))
       go_roundg k1
       case measure => have := HK1.out; omega
       case rel => exact ⟨(y614), (wrap64 (x9_1 + 1)), (by first | rfl | (simp; done) | (simp [*]; done)), H', ⟨by have := HK1.out; omega⟩, ⟨by (with_reducible repeat (first | apply z13f | apply z13g | apply Kd.R_drew)); exact HO616.out⟩, ⟨by repeat (first | (with_reducible first | exact HB.out | apply z13d | apply z13b | apply z13c | refine below_set ?_ GE613.out) | exact HB.out)⟩⟩
      ·rw [if_neg c7] at H
       exact absurd H (by simp)
     ·rw [if_neg c6] at H
      exact absurd H (by simp)
    ·rw [if_neg c5] at H
     exact absurd H (by simp)
   ·rw [if_neg c4] at H
    have c4b0 : decide (x9_1 < (l0.length : Int)) = false := decide_eq_false c4
    clear c4
    obtain rfl := Option.some.inj H
    go_wp2
    go_ret
    exact ⟨_, by first | rfl | (simp [errW_none, errW_some] <;> rfl) | (simp [*, errW_none, errW_some] <;> rfl), by (with_reducible repeat (first | apply z13f | apply z13g | apply Kd.R_drew)); exact HO_3.out, by repeat (first | (with_reducible first | exact HB.out | apply z13d | apply z13b | apply z13c) | exact HB.out)⟩
def y_n.l0 : Nat → List (S39) → List (S71) → Int → Option ((List (S71)))
 | 0, _, _, _ => none
 | k + 1, x0, x3, x4 => if x4 < (x0.length : Int) then (if 0 ≤ x4 then (if x3.length + ((rd_T39 x0 x4).f0).length < 5864062014805 then (y_n.l0 k x0 (x3 ++ ((rd_T39 x0 x4).f0)) (wrap64 (x4 + 1))) else (none)) else (none)) else (some x3)
def y_n.f (k : Nat) (l0 : List (S39)) : Option ((List (S71))) := y_n.l0 k l0 (([] : List (S71))) 0
theorem y_n.calls (k : Nat) (A0 : Option Addr) (c0 : Nat) (l0 : List (S39)) (r : List (S71)) (w : World) (hr0 : Kd.C k39 w A0 l0.length l0) (hc0 : l0.length ≤ c0) (h : y_n.f k l0 = some r) :
  Calls Try.prog 30 #[.slice A0 l0.length c0] w fun e w' => ∃ v0_ : Value, e = .returned (v0_) ∧ Kd.R k71 71 w' w.heap.size (fun _ => True) v0_ r ∧ Below w.heap.size w w' := by
 have HR0 := z13a hr0
 have HC0 := z13a hc0
 clear hr0 hc0
 have HB := z13a (Below.refl w.heap.size w)
 have H : (y_n.l0 k l0 (([] : List (S71))) 0) = some r := h
 clear h
 obtain ⟨y617, hy617⟩ : ∃ y_ : List (S71), y_ = (([] : List (S71))) := ⟨_, rfl⟩
 replace H : (y_n.l0 k l0 y617 0) = some r := by first | (rw [hy617]; with_reducible exact H) | (have H2_ := (Option.bind_some _ _).symm.trans H; rw [hy617]; with_reducible exact H2_) | (have H2_ := (Option.bind_some _ _).symm.trans H; with_reducible exact H2_) | with_reducible exact H | (rw [hy617]; exact H) | exact H
 have Ny617 := z13a hy617
 clear hy617
 have H' := z13a H
 clear H
 go_enter Try.func30, Try.ntmps30
 go_wp2_with (first | ((with_reducible refine gate_dst (N := 5) rfl ?_); refine Kd.R_lit k71 _ 71 ?hg (N := 5) ?hd (xs := ([] : List (S71))) (inner := []) (ok := fun _ => True) (okp := fun _ => True) ?hr ?hp (fun _ hk => hk) trivial (Below.refl _ _) (Nat.le_refl _) (by simp) ?_; (case hd => rfl); (case hg => rfl); (case hr => first | (go_simp; done) | (go_simp; rfl)); (case hp => exact (Reps.none _ _)); intro v618 w2 ho3 hb hg_ hnew_; clear hg_ hnew_; (first | rw [← Ny617.out] at ho3 | (simp only [Int.reduceToNat] at ho3; rw [← Ny617.out] at ho3)); have n0_ := z13a (Kd.R_lower ho3 (below_size (by repeat (first | (with_reducible first | exact HB.out | apply z13d | apply z13b | apply z13c) | exact HB.out)))); have n1_ := z13a (below_step (by repeat (first | (with_reducible first | exact HB.out | apply z13d | apply z13b | apply z13c) | exact HB.out)) hb); clear HB; have HO619 := n0_; have HB := n1_; clear n0_ n1_; clear hb ho3))
 go_loopg [3, 4] k (fun kq v3 v4 w' => ∃ (x3_1 : List (S71)) (x4_1 : Int), v4 = .int .i64 x4_1 ∧ Aside0 (y_n.l0 kq l0 x3_1 x4_1 = some r) ∧ Aside0 (kq ≤ k) ∧ Aside0 (Kd.R k71 71 w' w.heap.size (fun _ => True) v3 x3_1) ∧ Aside0 (Below w.heap.size w w'))
 case atStart => exact ⟨(y617), (0), (by first | rfl | (simp; done) | (simp [*]; done)), H', ⟨Nat.le_refl _⟩, ⟨by (with_reducible repeat (first | apply z13f | apply z13g | apply Kd.R_drew)); exact HO619.out⟩, ⟨by repeat (first | (with_reducible first | exact HB.out | apply z13d | apply z13b | apply z13c) | exact HB.out)⟩⟩
 case round =>
  clear H'
  try clear p2
  try clear c3
  obtain ⟨x3_1, x4_1, rfl, HA, HK1, HO_3, HB⟩ := hrel
  cases gk with
  | zero => exact absurd HA.out (by simp [y_n.l0])
  | succ k1 =>
   have H := HA.out
   clear HA
   simp only [y_n.l0] at H
   by_cases c4 : x4_1 < (l0.length : Int)
   ·rw [if_pos c4] at H
    have c4b0 : decide (x4_1 < (l0.length : Int)) = true := decide_eq_true c4
    clear c4
    by_cases c5 : 0 ≤ x4_1
    ·rw [if_pos c5] at H
     have c5b0 : decide (0 ≤ x4_1) = true := decide_eq_true c5
     clear c5
     by_cases c6 : x3_1.length + ((rd_T39 l0 x4_1).f0).length < 5864062014805
     ·rw [if_pos c6] at H
      have LMc6 := z13a c6
      clear c6
      obtain ⟨y621, hy621⟩ : ∃ y_ : List (S71), y_ = (x3_1 ++ ((rd_T39 l0 x4_1).f0)) := ⟨_, rfl⟩
      replace H : (y_n.l0 k1 l0 y621 (wrap64 (x4_1 + 1))) = some r := by first | (rw [hy621]; with_reducible exact H) | (have H2_ := (Option.bind_some _ _).symm.trans H; rw [hy621]; with_reducible exact H2_) | (have H2_ := (Option.bind_some _ _).symm.trans H; with_reducible exact H2_) | with_reducible exact H | (rw [hy621]; exact H) | exact H
      have Ny621 := z13a hy621
      clear hy621
      have H' := z13a H
      clear H
      have p620 : 0 ≤ (x4_1 : Int) := z13e (by first | (with_reducible assumption) | assumption)
      have q620 : x4_1 < (l0.length : Int) := z13e (by first | (with_reducible assumption) | assumption)
      obtain ⟨ad620, A620_0, c620_0, e620, hx620_0, hl620_0, hi620_0⟩ := at_T39 HR0.out x4_1 p620 q620
      cases e620
      replace hx620_0 := (HB.out.cell (World.block_lt_of_cell? w _ hx620_0)).trans hx620_0
      have HR620_0 := z13a hi620_0
      have HC620_0 := z13a hl620_0
      clear hi620_0 hl620_0
      replace p620 := eq_true p620
      replace q620 := eq_true q620
      go_wp2_with (first | ((with_reducible refine gate_builtin (b := .append) (xs := #[.tmp 12, .tmp 17]) rfl ?_); at_builtin; refine Kd.R_append_rows k71 (w0 := w) w.heap.size rfl (.tmp 12) (.tmp 17) 24 71 (.agg #[(.int .i64 0), (.int .i64 0), (.int .i64 0)]) 24 rfl Try.underlying24 info71 rfl (by decide) (by omega) u3 x3_1 ((rd_T39 l0 x4_1).f0) _ _ _ (fun _ => True) (fun _ => False) rfl rfl ?aO ?aR (fun _ _ h => h) (fun _ h => h.elim) ?aF ?aB ?aS ?aL ?_; (case aR => repeat (first | exact (Kd.C_below HR620_0.out HB.out) | (with_reducible refine Kd.C_alloc ?_ _) | (with_reducible refine Kd.C_drewN ?_ _) | (with_reducible refine Kd.C_drew ?_))); (case aB => exact (by repeat (first | (with_reducible first | exact HB.out | apply z13d | apply z13b | apply z13c) | exact HB.out))); (case aF => exact (fun _ _ => trivial)); (case aO => exact (by (with_reducible repeat (first | apply z13f | apply z13g | apply Kd.R_drew)); exact HO_3.out)); (case aS => exact (below_size (by repeat (first | (with_reducible first | exact HB.out | apply z13d | apply z13b | apply z13c) | exact HB.out)))); (case aL => have := LMc6.out; omega); intro v622 w7 ho hb hg hat; rw [← Ny621.out] at ho; have n0_ := z13a (hb); have n1_ := z13a (ho); clear HB; clear HO_3; have HB := n0_; have HO623 := n1_; clear n0_ n1_; clear ho hb hg hat))
      go_roundg k1
      case measure => have := HK1.out; omega
      case rel => exact ⟨(y621), (wrap64 (x4_1 + 1)), (by first | rfl | (simp; done) | (simp [*]; done)), H', ⟨by have := HK1.out; omega⟩, ⟨by (with_reducible repeat (first | apply z13f | apply z13g | apply Kd.R_drew)); exact HO623.out⟩, ⟨by repeat (first | (with_reducible first | exact HB.out | apply z13d | apply z13b | apply z13c) | exact HB.out)⟩⟩
     ·rw [if_neg c6] at H
      exact absurd H (by simp)
    ·rw [if_neg c5] at H
     exact absurd H (by simp)
   ·rw [if_neg c4] at H
    have c4b0 : decide (x4_1 < (l0.length : Int)) = false := decide_eq_false c4
    clear c4
    obtain rfl := Option.some.inj H
    go_wp2
    go_ret
    exact ⟨_, by first | rfl | (simp [errW_none, errW_some] <;> rfl) | (simp [*, errW_none, errW_some] <;> rfl), by (with_reducible repeat (first | apply z13f | apply z13g | apply Kd.R_drew)); exact HO_3.out, by repeat (first | (with_reducible first | exact HB.out | apply z13d | apply z13b | apply z13c) | exact HB.out)⟩
def y_gb.l0 : Nat → List (S71) → List (S71) → Int → Option (Bool)
 | 0, _, _, _ => none
 | k + 1, x5, x6, x7 => if x7 < (x5.length : Int) then (if 0 ≤ x7 then (if x7 < (x6.length : Int) then (if (!(((rd_T71 x5 x7).f0) == ((rd_T71 x6 x7).f0)) || (!(((rd_T71 x5 x7).f1) == ((rd_T71 x6 x7).f1)) || (!(((rd_T71 x5 x7).f2) == ((rd_T71 x6 x7).f2))))) = true then (some false) else (y_gb.l0 k x5 x6 (wrap64 (x7 + 1)))) else (none)) else (none)) else (some true)
def y_gb.f (k : Nat) (l0 : List (S71)) (l1 : List (S71)) : Option (Bool) := (y_d.f k l0).bind fun t624 => ((y_d.f k l1).bind fun t627 => (if (t624.length : Int) = (t627.length : Int) then (y_gb.l0 k t624 t627 0) else (some false)))
theorem y_gb.calls (k : Nat) (A0 : Option Addr) (c0 : Nat) (l0 : List (S71)) (A1 : Option Addr) (c1 : Nat) (l1 : List (S71)) (r : Bool) (w : World) (hr0 : Kd.C k71 w A0 l0.length l0) (hc0 : l0.length ≤ c0) (hr1 : Kd.C k71 w A1 l1.length l1) (hc1 : l1.length ≤ c1) (h : y_gb.f k l0 l1 = some r) :
  Calls Try.prog 32 #[.slice A0 l0.length c0, .slice A1 l1.length c1] w fun e w' => e = .returned (.bool r) ∧ Below w.heap.size w w' := by
 have hu71 := Try.underlying71
 have HR0 := z13a hr0
 have HC0 := z13a hc0
 clear hr0 hc0
 have HR1 := z13a hr1
 have HC1 := z13a hc1
 clear hr1 hc1
 have HB := z13a (Below.refl w.heap.size w)
 have H := h
 unfold y_gb.f at H
 clear h
 replace H := Option.bind_eq_some_iff.mp H
 obtain ⟨t624, A30, H⟩ := H
 have A3 := z13a A30
 clear A30
 replace H := Option.bind_eq_some_iff.mp H
 obtain ⟨t627, A40, H⟩ := H
 have A4 := z13a A40
 clear A40
 by_cases c5 : (t624.length : Int) = (t627.length : Int)
 ·rw [if_pos c5] at H
  have c5b0 : ((t624.length : Int) == (t627.length : Int)) = true := beq_iff_eq.mpr c5
  have c5b1 : ((t624.length : Int) != (t627.length : Int)) = false := bne_eq_false_iff_eq.mpr c5
  have c5b2 : (t624.length == t627.length) = true := by first | simpa using c5 | (simp at c5 ⊢; omega)
  clear c5
  have H' := z13a H
  clear H
  go_enter Try.func32, Try.ntmps32
  go_wp2_with (first | (go_at_call 60; (with_reducible refine (y_d.calls k _ _ l0 t624 _ ?side1 ?side2 A3.out).mono ?_); (case side1 => repeat (first | exact HR0.out | (with_reducible refine Kd.C_alloc ?_ _) | (with_reducible refine Kd.C_drewN ?_ _) | (with_reducible refine Kd.C_drew ?_))); (case side2 => exact HC0.out); rintro e w6 ⟨v625, rfl, ho0, hb⟩; have n0_ := z13a (Kd.R_lower ho0 (below_size (by repeat (first | (with_reducible first | exact HB.out | apply z13d | apply z13b | apply z13c) | exact HB.out)))); have n1_ := z13a (below_step (by repeat (first | (with_reducible first | exact HB.out | apply z13d | apply z13b | apply z13c) | exact HB.out)) hb); clear HB; have HO626 := n0_; have HB := n1_; clear n0_ n1_; (try clear hb); (try clear hb2); (try clear hk); (try clear hi); (try clear ho0)) | (go_at_call 60; (with_reducible refine (y_d.calls k _ _ l1 t627 _ ?side1 ?side2 A4.out).mono ?_); (case side1 => repeat (first | exact (Kd.C_below HR1.out HB.out) | (with_reducible refine Kd.C_alloc ?_ _) | (with_reducible refine Kd.C_drewN ?_ _) | (with_reducible refine Kd.C_drew ?_))); (case side2 => exact HC1.out); rintro e w7 ⟨v628, rfl, ho0, hb⟩; have n0_ := z13a (Kd.R_elder' (by (with_reducible repeat (first | apply z13f | apply z13g | apply Kd.R_drew)); exact HO626.out) (Kd.R_base ho0) hb); have n1_ := z13a (Kd.R_lower (Kd.R_new' ho0 (Kd.R_lt (by (with_reducible repeat (first | apply z13f | apply z13g | apply Kd.R_drew)); exact HO626.out))) (below_size (by repeat (first | (with_reducible first | exact HB.out | apply z13d | apply z13b | apply z13c) | exact HB.out)))); have n2_ := z13a (below_step (by repeat (first | (with_reducible first | exact HB.out | apply z13d | apply z13b | apply z13c) | exact HB.out)) hb); clear HO626; clear HB; have HO626 := n0_; have HO629 := n1_; have HB := n2_; clear n0_ n1_ n2_; (try clear hb); (try clear hb2); (try clear hk); (try clear hi); (try clear ho0); obtain ⟨Ao8, co8, eo8⟩ := Kd.R_slice HO626.out; subst eo8; obtain ⟨Ao9, co9, eo9⟩ := Kd.R_slice HO629.out; subst eo9))
  repeat (go_quiet (first | (go_at_call 60; (with_reducible refine (y_d.calls k _ _ l0 t624 _ ?side1 ?side2 A3.out).mono ?_); (case side1 => repeat (first | exact HR0.out | (with_reducible refine Kd.C_alloc ?_ _) | (with_reducible refine Kd.C_drewN ?_ _) | (with_reducible refine Kd.C_drew ?_))); (case side2 => exact HC0.out); rintro e w6 ⟨v625, rfl, ho0, hb⟩; have n0_ := z13a (Kd.R_lower ho0 (below_size (by repeat (first | (with_reducible first | exact HB.out | apply z13d | apply z13b | apply z13c) | exact HB.out)))); have n1_ := z13a (below_step (by repeat (first | (with_reducible first | exact HB.out | apply z13d | apply z13b | apply z13c) | exact HB.out)) hb); clear HB; have HO626 := n0_; have HB := n1_; clear n0_ n1_; (try clear hb); (try clear hb2); (try clear hk); (try clear hi); (try clear ho0)) | (go_at_call 60; (with_reducible refine (y_d.calls k _ _ l1 t627 _ ?side1 ?side2 A4.out).mono ?_); (case side1 => repeat (first | exact (Kd.C_below HR1.out HB.out) | (with_reducible refine Kd.C_alloc ?_ _) | (with_reducible refine Kd.C_drewN ?_ _) | (with_reducible refine Kd.C_drew ?_))); (case side2 => exact HC1.out); rintro e w7 ⟨v628, rfl, ho0, hb⟩; have n0_ := z13a (Kd.R_elder' (by (with_reducible repeat (first | apply z13f | apply z13g | apply Kd.R_drew)); exact HO626.out) (Kd.R_base ho0) hb); have n1_ := z13a (Kd.R_lower (Kd.R_new' ho0 (Kd.R_lt (by (with_reducible repeat (first | apply z13f | apply z13g | apply Kd.R_drew)); exact HO626.out))) (below_size (by repeat (first | (with_reducible first | exact HB.out | apply z13d | apply z13b | apply z13c) | exact HB.out)))); have n2_ := z13a (below_step (by repeat (first | (with_reducible first | exact HB.out | apply z13d | apply z13b | apply z13c) | exact HB.out)) hb); clear HO626; clear HB; have HO626 := n0_; have HO629 := n1_; have HB := n2_; clear n0_ n1_ n2_; (try clear hb); (try clear hb2); (try clear hk); (try clear hi); (try clear ho0); obtain ⟨Ao8, co8, eo8⟩ := Kd.R_slice HO626.out; subst eo8; obtain ⟨Ao9, co9, eo9⟩ := Kd.R_slice HO629.out; subst eo9)); try go_wp2_with (first | (go_at_call 60; (with_reducible refine (y_d.calls k _ _ l0 t624 _ ?side1 ?side2 A3.out).mono ?_); (case side1 => repeat (first | exact HR0.out | (with_reducible refine Kd.C_alloc ?_ _) | (with_reducible refine Kd.C_drewN ?_ _) | (with_reducible refine Kd.C_drew ?_))); (case side2 => exact HC0.out); rintro e w6 ⟨v625, rfl, ho0, hb⟩; have n0_ := z13a (Kd.R_lower ho0 (below_size (by repeat (first | (with_reducible first | exact HB.out | apply z13d | apply z13b | apply z13c) | exact HB.out)))); have n1_ := z13a (below_step (by repeat (first | (with_reducible first | exact HB.out | apply z13d | apply z13b | apply z13c) | exact HB.out)) hb); clear HB; have HO626 := n0_; have HB := n1_; clear n0_ n1_; (try clear hb); (try clear hb2); (try clear hk); (try clear hi); (try clear ho0)) | (go_at_call 60; (with_reducible refine (y_d.calls k _ _ l1 t627 _ ?side1 ?side2 A4.out).mono ?_); (case side1 => repeat (first | exact (Kd.C_below HR1.out HB.out) | (with_reducible refine Kd.C_alloc ?_ _) | (with_reducible refine Kd.C_drewN ?_ _) | (with_reducible refine Kd.C_drew ?_))); (case side2 => exact HC1.out); rintro e w7 ⟨v628, rfl, ho0, hb⟩; have n0_ := z13a (Kd.R_elder' (by (with_reducible repeat (first | apply z13f | apply z13g | apply Kd.R_drew)); exact HO626.out) (Kd.R_base ho0) hb); have n1_ := z13a (Kd.R_lower (Kd.R_new' ho0 (Kd.R_lt (by (with_reducible repeat (first | apply z13f | apply z13g | apply Kd.R_drew)); exact HO626.out))) (below_size (by repeat (first | (with_reducible first | exact HB.out | apply z13d | apply z13b | apply z13c) | exact HB.out)))); have n2_ := z13a (below_step (by repeat (first | (with_reducible first | exact HB.out | apply z13d | apply z13b | apply z13c) | exact HB.out)) hb); clear HO626; clear HB; have HO626 := n0_; have HO629 := n1_; have HB := n2_; clear n0_ n1_ n2_; (try clear hb); (try clear hb2); (try clear hk); (try clear hi); (try clear ho0); obtain ⟨Ao8, co8, eo8⟩ := Kd.R_slice HO626.out; subst eo8; obtain ⟨Ao9, co9, eo9⟩ := Kd.R_slice HO629.out; subst eo9)))
  go_loopg [7] k (fun kq v7 w' => ∃ (x7_1 : Int), v7 = .int .i64 x7_1 ∧ Aside0 (y_gb.l0 kq t624 t627 x7_1 = some r) ∧ Aside0 (kq ≤ k) ∧ Aside0 (Kd.R k71 71 w' w.heap.size (fun k_ => some k_ ≠ ((.slice Ao9 t627.length co9) : Value).ownBlock) (.slice Ao8 t624.length co8) t624) ∧ Aside0 (Kd.R k71 71 w' w.heap.size (fun k_ => some k_ ≠ ((.slice Ao8 t624.length co8) : Value).ownBlock) (.slice Ao9 t627.length co9) t627) ∧ Aside0 (Below w.heap.size w w'))
  case atStart => exact ⟨(0), (by first | rfl | (simp; done) | (simp [*]; done)), H', ⟨Nat.le_refl _⟩, ⟨by (with_reducible repeat (first | apply z13f | apply z13g | apply Kd.R_drew)); exact Kd.R_mono HO626.out (fun _ hk => hk.2)⟩, ⟨by (with_reducible repeat (first | apply z13f | apply z13g | apply Kd.R_drew)); exact Kd.R_mono HO629.out (fun _ hk => hk.2)⟩, ⟨by repeat (first | (with_reducible first | exact HB.out | apply z13d | apply z13b | apply z13c) | exact HB.out)⟩⟩
  case round =>
   clear H'
   try clear c1
   try clear p2
   try clear c3
   try clear c5
   try clear c5b0
   try clear c5b1
   try clear c5b2
   obtain ⟨x7_1, rfl, HA, HK1, HO_5, HO_6, HB⟩ := hrel
   cases gk with
   | zero => exact absurd HA.out (by simp [y_gb.l0])
   | succ k1 =>
    have H := HA.out
    clear HA
    simp only [y_gb.l0] at H
    by_cases c10 : x7_1 < (t624.length : Int)
    ·rw [if_pos c10] at H
     have c10b0 : decide (x7_1 < (t624.length : Int)) = true := decide_eq_true c10
     clear c10
     by_cases c11 : 0 ≤ x7_1
     ·rw [if_pos c11] at H
      have c11b0 : decide (0 ≤ x7_1) = true := decide_eq_true c11
      clear c11
      by_cases c12 : x7_1 < (t627.length : Int)
      ·rw [if_pos c12] at H
       have c12b0 : decide (x7_1 < (t627.length : Int)) = true := decide_eq_true c12
       clear c12
       by_cases c13 : (!(((rd_T71 t624 x7_1).f0) == ((rd_T71 t627 x7_1).f0)) || (!(((rd_T71 t624 x7_1).f1) == ((rd_T71 t627 x7_1).f1)) || (!(((rd_T71 t624 x7_1).f2) == ((rd_T71 t627 x7_1).f2))))) = true
       ·rw [if_pos c13] at H
        have c13b0 : (!(((rd_T71 t624 x7_1).f0) == ((rd_T71 t627 x7_1).f0)) || (!(((rd_T71 t624 x7_1).f1) == ((rd_T71 t627 x7_1).f1)) || (!(((rd_T71 t624 x7_1).f2) == ((rd_T71 t627 x7_1).f2))))) = true := c13
        clear c13
        obtain rfl := Option.some.inj H
        have p630 : 0 ≤ (x7_1 : Int) := z13e (by first | (with_reducible assumption) | assumption)
        have q630 : x7_1 < (t624.length : Int) := z13e (by first | (with_reducible assumption) | assumption)
        obtain ⟨ad630, e630, hx630_0, hx630_1, hx630_2⟩ := at_T71 (Kd.R_reads' HO_5.out).2.2 x7_1 p630 q630
        cases e630
        replace p630 := eq_true p630
        replace q630 := eq_true q630
        have p631 : 0 ≤ (x7_1 : Int) := z13e (by first | (with_reducible assumption) | assumption)
        have q631 : x7_1 < (t627.length : Int) := z13e (by first | (with_reducible assumption) | assumption)
        obtain ⟨ad631, e631, hx631_0, hx631_1, hx631_2⟩ := at_T71 (Kd.R_reads' HO_6.out).2.2 x7_1 p631 q631
        cases e631
        replace p631 := eq_true p631
        replace q631 := eq_true q631
        go_wp2
        repeat (go_quiet (fail); try go_wp2)
        go_ret
        exact ⟨by first | rfl | (simp [errW_none, errW_some] <;> rfl) | (simp [*, errW_none, errW_some] <;> rfl), by repeat (first | (with_reducible first | exact HB.out | apply z13d | apply z13b | apply z13c) | exact HB.out)⟩
       ·rw [if_neg c13] at H
        have c13b0 : (!(((rd_T71 t624 x7_1).f0) == ((rd_T71 t627 x7_1).f0)) || (!(((rd_T71 t624 x7_1).f1) == ((rd_T71 t627 x7_1).f1)) || (!(((rd_T71 t624 x7_1).f2) == ((rd_T71 t627 x7_1).f2))))) = false := by simpa using c13
        clear c13
        have H' := z13a H
        clear H
        have p630 : 0 ≤ (x7_1 : Int) := z13e (by first | (with_reducible assumption) | assumption)
        have q630 : x7_1 < (t624.length : Int) := z13e (by first | (with_reducible assumption) | assumption)
        obtain ⟨ad630, e630, hx630_0, hx630_1, hx630_2⟩ := at_T71 (Kd.R_reads' HO_5.out).2.2 x7_1 p630 q630
        cases e630
        replace p630 := eq_true p630
        replace q630 := eq_true q630
        have p631 : 0 ≤ (x7_1 : Int) := z13e (by first | (with_reducible assumption) | assumption)
        have q631 : x7_1 < (t627.length : Int) := z13e (by first | (with_reducible assumption) | assumption)
        obtain ⟨ad631, e631, hx631_0, hx631_1, hx631_2⟩ := at_T71 (Kd.R_reads' HO_6.out).2.2 x7_1 p631 q631
        cases e631
        replace p631 := eq_true p631
        replace q631 := eq_true q631
        go_wp2
        repeat (go_quiet (fail); try go_wp2)
        go_roundg k1
        case measure => have := HK1.out; omega
        case rel => exact ⟨(wrap64 (x7_1 + 1)), (by first | rfl | (simp; done) | (simp [*]; done)), H', ⟨by have := HK1.out; omega⟩, ⟨by (with_reducible repeat (first | apply z13f | apply z13g | apply Kd.R_drew)); exact HO_5.out⟩, ⟨by (with_reducible repeat (first | apply z13f | apply z13g | apply Kd.R_drew)); exact HO_6.out⟩, ⟨by repeat (first | (with_reducible first | exact HB.out | apply z13d | apply z13b | apply z13c) | exact HB.out)⟩⟩
      ·rw [if_neg c12] at H
       exact absurd H (by simp)
     ·rw [if_neg c11] at H
      exact absurd H (by simp)
    ·rw [if_neg c10] at H
     have c10b0 : decide (x7_1 < (t624.length : Int)) = false := decide_eq_false c10
     clear c10
     obtain rfl := Option.some.inj H
     go_wp2
     repeat (go_quiet (fail); try go_wp2)
     go_ret
     exact ⟨by first | rfl | (simp [errW_none, errW_some] <;> rfl) | (simp [*, errW_none, errW_some] <;> rfl), by repeat (first | (with_reducible first | exact HB.out | apply z13d | apply z13b | apply z13c) | exact HB.out)⟩
 ·rw [if_neg c5] at H
  have c5b0 : ((t624.length : Int) == (t627.length : Int)) = false := beq_eq_false_iff_ne.mpr c5
  have c5b1 : ((t624.length : Int) != (t627.length : Int)) = true := bne_iff_ne.mpr c5
  have c5b2 : (t624.length == t627.length) = false := by first | simpa using c5 | (simp at c5 ⊢; omega)
  obtain rfl := Option.some.inj H
  go_enter Try.func32, Try.ntmps32
  go_wp2_with (first | (go_at_call 60; (with_reducible refine (y_d.calls k _ _ l0 t624 _ ?side1 ?side2 A3.out).mono ?_); (case side1 => repeat (first | exact HR0.out | (with_reducible refine Kd.C_alloc ?_ _) | (with_reducible refine Kd.C_drewN ?_ _) | (with_reducible refine Kd.C_drew ?_))); (case side2 => exact HC0.out); rintro e w14 ⟨v625, rfl, ho0, hb⟩; have n0_ := z13a (Kd.R_lower ho0 (below_size (by repeat (first | (with_reducible first | exact HB.out | apply z13d | apply z13b | apply z13c) | exact HB.out)))); have n1_ := z13a (below_step (by repeat (first | (with_reducible first | exact HB.out | apply z13d | apply z13b | apply z13c) | exact HB.out)) hb); clear HB; have HO626 := n0_; have HB := n1_; clear n0_ n1_; (try clear hb); (try clear hb2); (try clear hk); (try clear hi); (try clear ho0)) | (go_at_call 60; (with_reducible refine (y_d.calls k _ _ l1 t627 _ ?side1 ?side2 A4.out).mono ?_); (case side1 => repeat (first | exact (Kd.C_below HR1.out HB.out) | (with_reducible refine Kd.C_alloc ?_ _) | (with_reducible refine Kd.C_drewN ?_ _) | (with_reducible refine Kd.C_drew ?_))); (case side2 => exact HC1.out); rintro e w15 ⟨v628, rfl, ho0, hb⟩; have n0_ := z13a (Kd.R_elder' (by (with_reducible repeat (first | apply z13f | apply z13g | apply Kd.R_drew)); exact HO626.out) (Kd.R_base ho0) hb); have n1_ := z13a (Kd.R_lower (Kd.R_new' ho0 (Kd.R_lt (by (with_reducible repeat (first | apply z13f | apply z13g | apply Kd.R_drew)); exact HO626.out))) (below_size (by repeat (first | (with_reducible first | exact HB.out | apply z13d | apply z13b | apply z13c) | exact HB.out)))); have n2_ := z13a (below_step (by repeat (first | (with_reducible first | exact HB.out | apply z13d | apply z13b | apply z13c) | exact HB.out)) hb); clear HO626; clear HB; have HO626 := n0_; have HO629 := n1_; have HB := n2_; clear n0_ n1_ n2_; (try clear hb); (try clear hb2); (try clear hk); (try clear hi); (try clear ho0); obtain ⟨Ao16, co16, eo16⟩ := Kd.R_slice HO626.out; subst eo16; obtain ⟨Ao17, co17, eo17⟩ := Kd.R_slice HO629.out; subst eo17))
  repeat (go_quiet (first | (go_at_call 60; (with_reducible refine (y_d.calls k _ _ l0 t624 _ ?side1 ?side2 A3.out).mono ?_); (case side1 => repeat (first | exact HR0.out | (with_reducible refine Kd.C_alloc ?_ _) | (with_reducible refine Kd.C_drewN ?_ _) | (with_reducible refine Kd.C_drew ?_))); (case side2 => exact HC0.out); rintro e w14 ⟨v625, rfl, ho0, hb⟩; have n0_ := z13a (Kd.R_lower ho0 (below_size (by repeat (first | (with_reducible first | exact HB.out | apply z13d | apply z13b | apply z13c) | exact HB.out)))); have n1_ := z13a (below_step (by repeat (first | (with_reducible first | exact HB.out | apply z13d | apply z13b | apply z13c) | exact HB.out)) hb); clear HB; have HO626 := n0_; have HB := n1_; clear n0_ n1_; (try clear hb); (try clear hb2); (try clear hk); (try clear hi); (try clear ho0)) | (go_at_call 60; (with_reducible refine (y_d.calls k _ _ l1 t627 _ ?side1 ?side2 A4.out).mono ?_); (case side1 => repeat (first | exact (Kd.C_below HR1.out HB.out) | (with_reducible refine Kd.C_alloc ?_ _) | (with_reducible refine Kd.C_drewN ?_ _) | (with_reducible refine Kd.C_drew ?_))); (case side2 => exact HC1.out); rintro e w15 ⟨v628, rfl, ho0, hb⟩; have n0_ := z13a (Kd.R_elder' (by (with_reducible repeat (first | apply z13f | apply z13g | apply Kd.R_drew)); exact HO626.out) (Kd.R_base ho0) hb); have n1_ := z13a (Kd.R_lower (Kd.R_new' ho0 (Kd.R_lt (by (with_reducible repeat (first | apply z13f | apply z13g | apply Kd.R_drew)); exact HO626.out))) (below_size (by repeat (first | (with_reducible first | exact HB.out | apply z13d | apply z13b | apply z13c) | exact HB.out)))); have n2_ := z13a (below_step (by repeat (first | (with_reducible first | exact HB.out | apply z13d | apply z13b | apply z13c) | exact HB.out)) hb); clear HO626; clear HB; have HO626 := n0_; have HO629 := n1_; have HB := n2_; clear n0_ n1_ n2_; (try clear hb); (try clear hb2); (try clear hk); (try clear hi); (try clear ho0); obtain ⟨Ao16, co16, eo16⟩ := Kd.R_slice HO626.out; subst eo16; obtain ⟨Ao17, co17, eo17⟩ := Kd.R_slice HO629.out; subst eo17)); try go_wp2_with (first | (go_at_call 60; (with_reducible refine (y_d.calls k _ _ l0 t624 _ ?side1 ?side2 A3.out).mono ?_); (case side1 => repeat (first | exact HR0.out | (with_reducible refine Kd.C_alloc ?_ _) | (with_reducible refine Kd.C_drewN ?_ _) | (with_reducible refine Kd.C_drew ?_))); (case side2 => exact HC0.out); rintro e w14 ⟨v625, rfl, ho0, hb⟩; have n0_ := z13a (Kd.R_lower ho0 (below_size (by repeat (first | (with_reducible first | exact HB.out | apply z13d | apply z13b | apply z13c) | exact HB.out)))); have n1_ := z13a (below_step (by repeat (first | (with_reducible first | exact HB.out | apply z13d | apply z13b | apply z13c) | exact HB.out)) hb); clear HB; have HO626 := n0_; have HB := n1_; clear n0_ n1_; (try clear hb); (try clear hb2); (try clear hk); (try clear hi); (try clear ho0)) | (go_at_call 60; (with_reducible refine (y_d.calls k _ _ l1 t627 _ ?side1 ?side2 A4.out).mono ?_); (case side1 => repeat (first | exact (Kd.C_below HR1.out HB.out) | (with_reducible refine Kd.C_alloc ?_ _) | (with_reducible refine Kd.C_drewN ?_ _) | (with_reducible refine Kd.C_drew ?_))); (case side2 => exact HC1.out); rintro e w15 ⟨v628, rfl, ho0, hb⟩; have n0_ := z13a (Kd.R_elder' (by (with_reducible repeat (first | apply z13f | apply z13g | apply Kd.R_drew)); exact HO626.out) (Kd.R_base ho0) hb); have n1_ := z13a (Kd.R_lower (Kd.R_new' ho0 (Kd.R_lt (by (with_reducible repeat (first | apply z13f | apply z13g | apply Kd.R_drew)); exact HO626.out))) (below_size (by repeat (first | (with_reducible first | exact HB.out | apply z13d | apply z13b | apply z13c) | exact HB.out)))); have n2_ := z13a (below_step (by repeat (first | (with_reducible first | exact HB.out | apply z13d | apply z13b | apply z13c) | exact HB.out)) hb); clear HO626; clear HB; have HO626 := n0_; have HO629 := n1_; have HB := n2_; clear n0_ n1_ n2_; (try clear hb); (try clear hb2); (try clear hk); (try clear hi); (try clear ho0); obtain ⟨Ao16, co16, eo16⟩ := Kd.R_slice HO626.out; subst eo16; obtain ⟨Ao17, co17, eo17⟩ := Kd.R_slice HO629.out; subst eo17)))
  go_ret
  exact ⟨by first | rfl | (simp [errW_none, errW_some] <;> rfl) | (simp [*, errW_none, errW_some] <;> rfl), by repeat (first | (with_reducible first | exact HB.out | apply z13d | apply z13b | apply z13c) | exact HB.out)⟩
end Go.Proofs.Ytkcicbigpbdjpaa.P
end
