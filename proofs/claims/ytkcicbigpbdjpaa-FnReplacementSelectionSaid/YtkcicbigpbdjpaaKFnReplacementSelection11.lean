-- merged by pack.py out of Px18 Px19 Px20 Px21 (words: printed by the kit's print.sh; what this claim does not use is left out)

import Derived.Test.YtkcicbigpbdjpaaKFnReplacementSelection1
import Derived.Test.YtkcicbigpbdjpaaKFnReplacementSelection3
import Derived.Test.YtkcicbigpbdjpaaKFnReplacementSelection6
import Derived.Test.YtkcicbigpbdjpaaKFnReplacementSelection10
namespace Go.Proofs.Ytkcicbigpbdjpaa
abbrev zq11_0 : Array Bool := #[true, true, true, true, true, true, true, true, true, false, false]
abbrev zq11_1 : Array Bool := #[true, true, true, true, true, true, true, true, false, false, false]
abbrev zq11_2 : Array Bool := #[false, false, false, false, false, false, false, false, false, false, false]
abbrev zq11_3 : Array Bool := #[true, false, false, false, false, false, false, false, false, false, false]
abbrev zq11_4 : Array Bool := #[true, true, false, false, false, false, false, false, false, false, false]
abbrev zq11_5 : Array Bool := #[true, true, true, true, true, true, true, true, true, true, false]
abbrev zq11_6 : Array Bool := #[true, true, true, true, true, true, true, true, true, true, true]
abbrev zt11 : Bool := true
abbrev zf11 : Bool := false
section
open Go.RowKit Go.Proofs.YtkcicbigpbdjpaaW.PrintWords Go.Proofs.YtkcicbigpbdjpaaW.PrintLast Go.Proofs.YtkcicbigpbdjpaaW.PrintMore
abbrev z11a := @Aside0.mk
abbrev z11b := @pw_below_drewN
abbrev z11c := @below_drew1
abbrev z11d := @below_alloc
abbrev z11e := @World.block_lt_of_cell?
abbrev z11f := @Option.bind_eq_some_iff
abbrev z11g := @of_decide_eq_true
abbrev z11h := @decide_eq_true
end
theorem zm11a {α β : Type} (f : α → β) (l : List α) : l.toArray.map f = (l.map f).toArray := by simp
theorem zm11b {α β : Type} (f : α → β) (a : α) (l : List α) : (a :: l).map f = f a :: l.map f := rfl
theorem zm11c {α β : Type} (f : α → β) : ([] : List α).map f = [] := rfl
theorem zm11d {α : Type} (n : Nat) (l : List α) : (l.drop n).length = l.length - n := List.length_drop
theorem zm11e {α : Type} (n : Nat) (l : List α) : (l.take n).length = min n l.length := List.length_take
theorem zp11a {α : Type} (l : List α) (i : Nat) (a : α) : l.toArray.setIfInBounds i a = (l.set i a).toArray := List.setIfInBounds_toArray l i a
theorem zp11b {α : Type} (x : α) (l : List α) (a : α) : (x :: l).set 0 a = a :: l := List.set_cons_zero
theorem zp11c {α : Type} (x : α) (l : List α) (n : Nat) (a : α) : (x :: l).set (n + 1) a = x :: l.set n a := List.set_cons_succ
end Go.Proofs.Ytkcicbigpbdjpaa
set_option maxHeartbeats 8000000
set_option maxRecDepth 100000
section
namespace Go.Proofs.Ytkcicbigpbdjpaa.P
open Go.RowKit Go.Proofs.YtkcicbigpbdjpaaW.PrintWords Go.Proofs.YtkcicbigpbdjpaaW.PrintLast Go.Proofs.YtkcicbigpbdjpaaW.PrintMore
attribute [local go_sem] max2_int min2_int max_two min_two max_three min_three max_four min_four
set_option linter.unusedVariables false
set_option linter.unusedSimpArgs false
def y_l.l0 : Nat → List (S39) → Int → Int → Option (Bool)
 | 0, _, _, _ => none
 | k + 1, x5, x6, x7 => if x7 < x6 then (if 0 ≤ x7 then (if x7 < (x5.length : Int) then (if (((rd_T39 x5 x7).f0).length : Int) = 0 then (some false) else ((y_u.f k ((rd_T39 x5 x7).f0)).bind fun t542 => (if t542 = true then ((y_qb.f k ((rd_T39 x5 x7).f0)).bind fun t543 => (if t543 = true then (y_l.l0 k x5 x6 (wrap64 (x7 + 1))) else (some false))) else (some false)))) else (none)) else (none)) else (some true)
def y_l.f (k : Nat) (l0 : List (S39)) : Option (Bool) := y_l.l0 k l0 (l0.length : Int) 0
theorem y_l.calls (k : Nat) (A0 : Option Addr) (c0 : Nat) (l0 : List (S39)) (r : Bool) (w : World) (hr0 : Kd.C k39 w A0 l0.length l0) (hc0 : l0.length ≤ c0) (h : y_l.f k l0 = some r) :
  Calls Try.prog 22 #[.slice A0 l0.length c0] w fun e w' => e = .returned (.bool r) ∧ Below w.heap.size w w' := by
 have hu39 := Try.underlying39
 have HR0 := z11a hr0
 have HC0 := z11a hc0
 clear hr0 hc0
 have HB := z11a (Below.refl w.heap.size w)
 have H : (y_l.l0 k l0 (l0.length : Int) 0) = some r := h
 clear h
 have H' := z11a H
 clear H
 go_enter Try.func22, Try.ntmps22
 go_wp2
 go_loopg [7] k (fun kq v7 w' => ∃ (x7_1 : Int), v7 = .int .i64 x7_1 ∧ Aside0 (y_l.l0 kq l0 (l0.length : Int) x7_1 = some r) ∧ Aside0 (kq ≤ k) ∧ Aside0 (Below w.heap.size w w'))
 case atStart => exact ⟨(0), (by first | rfl | (simp; done) | (simp [*]; done)), H', ⟨Nat.le_refl _⟩, ⟨by repeat (first | (with_reducible first | exact HB.out | apply z11d | apply z11b | apply z11c) | exact HB.out)⟩⟩
 case round =>
  clear H'
  obtain ⟨x7_1, rfl, HA, HK1, HB⟩ := hrel
  cases gk with
  | zero => exact absurd HA.out (by simp [y_l.l0])
  | succ k1 =>
   have H := HA.out
   clear HA
   simp only [y_l.l0] at H
   by_cases c2 : x7_1 < (l0.length : Int)
   ·rw [if_pos c2] at H
    have c2b0 : decide (x7_1 < (l0.length : Int)) = true := z11h c2
    clear c2
    by_cases c3 : 0 ≤ x7_1
    ·rw [if_pos c3] at H
     have c3b0 : decide (0 ≤ x7_1) = true := z11h c3
     clear c3
     by_cases c4 : x7_1 < (l0.length : Int)
     ·rw [if_pos c4] at H
      have c4b0 : decide (x7_1 < (l0.length : Int)) = true := z11h c4
      clear c4
      by_cases c5 : (((rd_T39 l0 x7_1).f0).length : Int) = 0
      ·rw [if_pos c5] at H
       have c5b0 : ((((rd_T39 l0 x7_1).f0).length : Int) == 0) = true := beq_iff_eq.mpr c5
       have c5b1 : ((((rd_T39 l0 x7_1).f0).length : Int) != 0) = false := bne_eq_false_iff_eq.mpr c5
       clear c5
       obtain rfl := Option.some.inj H
       have p540 : 0 ≤ (x7_1 : Int) := z11g (by first | (with_reducible assumption) | assumption)
       have q540 : x7_1 < (l0.length : Int) := z11g (by first | (with_reducible assumption) | assumption)
       obtain ⟨ad540, A540_0, c540_0, e540, hx540_0, hl540_0, hi540_0⟩ := at_T39 HR0.out x7_1 p540 q540
       cases e540
       replace hx540_0 := (HB.out.cell (z11e w _ hx540_0)).trans hx540_0
       have HR540_0 := z11a hi540_0
       have HC540_0 := z11a hl540_0
       clear hi540_0 hl540_0
       replace p540 := eq_true p540
       replace q540 := eq_true q540
       go_wp2_with (first | ((with_reducible refine gate_dst (N := 4) rfl ?_); refine box_event ?hg (N := 4) ?hd (cs := #[.slice none 0 0]) (t := 39) ?hr ?_; (case hd => rfl); (case hg => rfl); (case hr => first | (go_simp; done) | (go_simp; rfl)); intro gb541 hg w6 hbox hb; have n0_ := z11a (below_step (by repeat (first | (with_reducible first | exact HB.out | apply z11d | apply z11b | apply z11c) | exact HB.out)) hb); have n1_ := z11a (hbox); have n2_ := z11a ((by rw [hg]; exact (below_size (by repeat (first | (with_reducible first | exact HB.out | apply z11d | apply z11b | apply z11c) | exact HB.out))) : w.heap.size ≤ gb541)); have n3_ := z11a ((by rw [hg]; exact (below_size (by repeat (first | (with_reducible first | exact HB.out | apply z11d | apply z11b | apply z11c) | exact HB.out))) : w.heap.size ≤ gb541)); clear HB; have HB := n0_; have BK541 := n1_; have GW541 := n2_; have GE541 := n3_; clear n0_ n1_ n2_ n3_; clear hb hbox hg; have hcz7_0 : w6.cell? ⟨gb541, 0, none⟩ = some (.slice none 0 0) := (blk_cell BK541.out 0).trans rfl; have hfz7_0 := blk_frozen BK541.out 0))
       go_ret
       exact ⟨by first | rfl | (simp [errW_none, errW_some] <;> rfl) | (simp [*, errW_none, errW_some] <;> rfl), by repeat (first | (with_reducible first | exact HB.out | apply z11d | apply z11b | apply z11c | refine below_set ?_ GE541.out) | exact HB.out)⟩
      ·rw [if_neg c5] at H
       have c5b0 : ((((rd_T39 l0 x7_1).f0).length : Int) == 0) = false := beq_eq_false_iff_ne.mpr c5
       have c5b1 : ((((rd_T39 l0 x7_1).f0).length : Int) != 0) = true := bne_iff_ne.mpr c5
       have c5b2 : ¬ (((rd_T39 l0 x7_1).f0) = []) := fun h_ => c5 (by rw [h_]; rfl)
       replace H := z11f.mp H
       obtain ⟨t542, A80, H⟩ := H
       have A8 := z11a A80
       clear A80
       by_cases c9 : t542 = true
       ·subst c9
        rw [if_pos rfl] at H
        replace H := z11f.mp H
        obtain ⟨t543, A100, H⟩ := H
        have A10 := z11a A100
        clear A100
        by_cases c11 : t543 = true
        ·subst c11
         rw [if_pos rfl] at H
         have H' := z11a H
         clear H
         have p540 : 0 ≤ (x7_1 : Int) := z11g (by first | (with_reducible assumption) | assumption)
         have q540 : x7_1 < (l0.length : Int) := z11g (by first | (with_reducible assumption) | assumption)
         obtain ⟨ad540, A540_0, c540_0, e540, hx540_0, hl540_0, hi540_0⟩ := at_T39 HR0.out x7_1 p540 q540
         cases e540
         replace hx540_0 := (HB.out.cell (z11e w _ hx540_0)).trans hx540_0
         have HR540_0 := z11a hi540_0
         have HC540_0 := z11a hl540_0
         clear hi540_0 hl540_0
         replace p540 := eq_true p540
         replace q540 := eq_true q540
         go_wp2_with (first | ((with_reducible refine gate_dst (N := 4) rfl ?_); refine box_event ?hg (N := 4) ?hd (cs := #[.slice none 0 0]) (t := 39) ?hr ?_; (case hd => rfl); (case hg => rfl); (case hr => first | (go_simp; done) | (go_simp; rfl)); intro gb541 hg w12 hbox hb; have n0_ := z11a (below_step (by repeat (first | (with_reducible first | exact HB.out | apply z11d | apply z11b | apply z11c) | exact HB.out)) hb); have n1_ := z11a (hbox); have n2_ := z11a ((by rw [hg]; exact (below_size (by repeat (first | (with_reducible first | exact HB.out | apply z11d | apply z11b | apply z11c) | exact HB.out))) : w.heap.size ≤ gb541)); have n3_ := z11a ((by rw [hg]; exact (below_size (by repeat (first | (with_reducible first | exact HB.out | apply z11d | apply z11b | apply z11c) | exact HB.out))) : w.heap.size ≤ gb541)); clear HB; have HB := n0_; have BK541 := n1_; have GW541 := n2_; have GE541 := n3_; clear n0_ n1_ n2_ n3_; clear hb hbox hg; have hcz13_0 : w12.cell? ⟨gb541, 0, none⟩ = some (.slice none 0 0) := (blk_cell BK541.out 0).trans rfl; have hfz13_0 := blk_frozen BK541.out 0) | (go_at_call 53; (with_reducible refine (y_u.calls k1 _ _ ((rd_T39 l0 x7_1).f0) true _ ?side1 ?side2 A8.out).mono ?_); (case side1 => exact Kd.C_below HR540_0.out (by repeat (first | (with_reducible first | exact HB.out | apply z11d | apply z11b | apply z11c | refine below_set ?_ GE541.out) | exact HB.out))); (case side2 => exact HC540_0.out); rintro e w14 ⟨rfl, hb⟩; have n0_ := z11a (blk_below (g := gb541) (o := .cells #[.slice A540_0 ((rd_T39 l0 x7_1).f0).length c540_0] 39 (0, 0)) (by (with_reducible repeat (first | refine blk_drewN ?_ _ | refine blk_drew ?_ | refine blk_alloc ?_ _)); refine blk_put (cs := #[.slice none 0 0]) ?_ 0 _ rfl; (with_reducible repeat (first | refine blk_drewN ?_ _ | refine blk_drew ?_ | refine blk_alloc ?_ _)); exact BK541.out) hb); have n1_ := z11a (below_step (by repeat (first | (with_reducible first | exact HB.out | apply z11d | apply z11b | apply z11c | refine below_set ?_ GE541.out) | exact HB.out)) hb); clear BK541; clear HB; have BK541 := n0_; have HB := n1_; clear n0_ n1_; (try clear hb); (try clear hb2); (try clear hk); (try clear hi); have hcz15_0 : w14.cell? ⟨gb541, 0, none⟩ = some (.slice A540_0 ((rd_T39 l0 x7_1).f0).length c540_0) := (blk_cell BK541.out 0).trans rfl; have hfz15_0 := blk_frozen BK541.out 0) | (go_at_call 107; (with_reducible refine (y_qb.calls k1 _ _ ((rd_T39 l0 x7_1).f0) true _ ?side1 ?side2 A10.out).mono ?_); (case side1 => repeat (first | exact (Kd.C_below HR540_0.out HB.out) | (with_reducible refine Kd.C_alloc ?_ _) | (with_reducible refine Kd.C_drewN ?_ _) | (with_reducible refine Kd.C_drew ?_))); (case side2 => exact HC540_0.out); rintro e w16 ⟨rfl, hb⟩; have n0_ := z11a (blk_below (g := gb541) (o := .cells #[.slice A540_0 ((rd_T39 l0 x7_1).f0).length c540_0] 39 (0, 0)) (by (with_reducible repeat (first | refine blk_drewN ?_ _ | refine blk_drew ?_ | refine blk_alloc ?_ _)); exact BK541.out) hb); have n1_ := z11a (below_step (by repeat (first | (with_reducible first | exact HB.out | apply z11d | apply z11b | apply z11c | refine below_set ?_ GE541.out) | exact HB.out)) hb); clear BK541; clear HB; have BK541 := n0_; have HB := n1_; clear n0_ n1_; (try clear hb); (try clear hb2); (try clear hk); (try clear hi)))
         go_roundg k1
         case measure => have := HK1.out; omega
         case rel => exact ⟨(wrap64 (x7_1 + 1)), (by first | rfl | (simp; done) | (simp [*]; done)), H', ⟨by have := HK1.out; omega⟩, ⟨by repeat (first | (with_reducible first | exact HB.out | apply z11d | apply z11b | apply z11c | refine below_set ?_ GE541.out) | exact HB.out)⟩⟩
        ·replace c11 := Bool.eq_false_iff.mpr c11
         subst c11
         have H1 : (some false) = some r := by rw [if_neg (show ¬ (false = true) by decide)] at H; exact H
         clear H
         have H := H1
         clear H1
         obtain rfl := Option.some.inj H
         have p540 : 0 ≤ (x7_1 : Int) := z11g (by first | (with_reducible assumption) | assumption)
         have q540 : x7_1 < (l0.length : Int) := z11g (by first | (with_reducible assumption) | assumption)
         obtain ⟨ad540, A540_0, c540_0, e540, hx540_0, hl540_0, hi540_0⟩ := at_T39 HR0.out x7_1 p540 q540
         cases e540
         replace hx540_0 := (HB.out.cell (z11e w _ hx540_0)).trans hx540_0
         have HR540_0 := z11a hi540_0
         have HC540_0 := z11a hl540_0
         clear hi540_0 hl540_0
         replace p540 := eq_true p540
         replace q540 := eq_true q540
         go_wp2_with (first | ((with_reducible refine gate_dst (N := 4) rfl ?_); refine box_event ?hg (N := 4) ?hd (cs := #[.slice none 0 0]) (t := 39) ?hr ?_; (case hd => rfl); (case hg => rfl); (case hr => first | (go_simp; done) | (go_simp; rfl)); intro gb541 hg w17 hbox hb; have n0_ := z11a (below_step (by repeat (first | (with_reducible first | exact HB.out | apply z11d | apply z11b | apply z11c) | exact HB.out)) hb); have n1_ := z11a (hbox); have n2_ := z11a ((by rw [hg]; exact (below_size (by repeat (first | (with_reducible first | exact HB.out | apply z11d | apply z11b | apply z11c) | exact HB.out))) : w.heap.size ≤ gb541)); have n3_ := z11a ((by rw [hg]; exact (below_size (by repeat (first | (with_reducible first | exact HB.out | apply z11d | apply z11b | apply z11c) | exact HB.out))) : w.heap.size ≤ gb541)); clear HB; have HB := n0_; have BK541 := n1_; have GW541 := n2_; have GE541 := n3_; clear n0_ n1_ n2_ n3_; clear hb hbox hg; have hcz18_0 : w17.cell? ⟨gb541, 0, none⟩ = some (.slice none 0 0) := (blk_cell BK541.out 0).trans rfl; have hfz18_0 := blk_frozen BK541.out 0) | (go_at_call 53; (with_reducible refine (y_u.calls k1 _ _ ((rd_T39 l0 x7_1).f0) true _ ?side1 ?side2 A8.out).mono ?_); (case side1 => exact Kd.C_below HR540_0.out (by repeat (first | (with_reducible first | exact HB.out | apply z11d | apply z11b | apply z11c | refine below_set ?_ GE541.out) | exact HB.out))); (case side2 => exact HC540_0.out); rintro e w19 ⟨rfl, hb⟩; have n0_ := z11a (blk_below (g := gb541) (o := .cells #[.slice A540_0 ((rd_T39 l0 x7_1).f0).length c540_0] 39 (0, 0)) (by (with_reducible repeat (first | refine blk_drewN ?_ _ | refine blk_drew ?_ | refine blk_alloc ?_ _)); refine blk_put (cs := #[.slice none 0 0]) ?_ 0 _ rfl; (with_reducible repeat (first | refine blk_drewN ?_ _ | refine blk_drew ?_ | refine blk_alloc ?_ _)); exact BK541.out) hb); have n1_ := z11a (below_step (by repeat (first | (with_reducible first | exact HB.out | apply z11d | apply z11b | apply z11c | refine below_set ?_ GE541.out) | exact HB.out)) hb); clear BK541; clear HB; have BK541 := n0_; have HB := n1_; clear n0_ n1_; (try clear hb); (try clear hb2); (try clear hk); (try clear hi); have hcz20_0 : w19.cell? ⟨gb541, 0, none⟩ = some (.slice A540_0 ((rd_T39 l0 x7_1).f0).length c540_0) := (blk_cell BK541.out 0).trans rfl; have hfz20_0 := blk_frozen BK541.out 0) | (go_at_call 107; (with_reducible refine (y_qb.calls k1 _ _ ((rd_T39 l0 x7_1).f0) false _ ?side1 ?side2 A10.out).mono ?_); (case side1 => repeat (first | exact (Kd.C_below HR540_0.out HB.out) | (with_reducible refine Kd.C_alloc ?_ _) | (with_reducible refine Kd.C_drewN ?_ _) | (with_reducible refine Kd.C_drew ?_))); (case side2 => exact HC540_0.out); rintro e w21 ⟨rfl, hb⟩; have n0_ := z11a (blk_below (g := gb541) (o := .cells #[.slice A540_0 ((rd_T39 l0 x7_1).f0).length c540_0] 39 (0, 0)) (by (with_reducible repeat (first | refine blk_drewN ?_ _ | refine blk_drew ?_ | refine blk_alloc ?_ _)); exact BK541.out) hb); have n1_ := z11a (below_step (by repeat (first | (with_reducible first | exact HB.out | apply z11d | apply z11b | apply z11c | refine below_set ?_ GE541.out) | exact HB.out)) hb); clear BK541; clear HB; have BK541 := n0_; have HB := n1_; clear n0_ n1_; (try clear hb); (try clear hb2); (try clear hk); (try clear hi)))
         go_ret
         exact ⟨by first | rfl | (simp [errW_none, errW_some] <;> rfl) | (simp [*, errW_none, errW_some] <;> rfl), by repeat (first | (with_reducible first | exact HB.out | apply z11d | apply z11b | apply z11c | refine below_set ?_ GE541.out) | exact HB.out)⟩
       ·replace c9 := Bool.eq_false_iff.mpr c9
        subst c9
        have H1 : (some false) = some r := by rw [if_neg (show ¬ (false = true) by decide)] at H; exact H
        clear H
        have H := H1
        clear H1
        obtain rfl := Option.some.inj H
        have p540 : 0 ≤ (x7_1 : Int) := z11g (by first | (with_reducible assumption) | assumption)
        have q540 : x7_1 < (l0.length : Int) := z11g (by first | (with_reducible assumption) | assumption)
        obtain ⟨ad540, A540_0, c540_0, e540, hx540_0, hl540_0, hi540_0⟩ := at_T39 HR0.out x7_1 p540 q540
        cases e540
        replace hx540_0 := (HB.out.cell (z11e w _ hx540_0)).trans hx540_0
        have HR540_0 := z11a hi540_0
        have HC540_0 := z11a hl540_0
        clear hi540_0 hl540_0
        replace p540 := eq_true p540
        replace q540 := eq_true q540
        go_wp2_with (first | ((with_reducible refine gate_dst (N := 4) rfl ?_); refine box_event ?hg (N := 4) ?hd (cs := #[.slice none 0 0]) (t := 39) ?hr ?_; (case hd => rfl); (case hg => rfl); (case hr => first | (go_simp; done) | (go_simp; rfl)); intro gb541 hg w22 hbox hb; have n0_ := z11a (below_step (by repeat (first | (with_reducible first | exact HB.out | apply z11d | apply z11b | apply z11c) | exact HB.out)) hb); have n1_ := z11a (hbox); have n2_ := z11a ((by rw [hg]; exact (below_size (by repeat (first | (with_reducible first | exact HB.out | apply z11d | apply z11b | apply z11c) | exact HB.out))) : w.heap.size ≤ gb541)); have n3_ := z11a ((by rw [hg]; exact (below_size (by repeat (first | (with_reducible first | exact HB.out | apply z11d | apply z11b | apply z11c) | exact HB.out))) : w.heap.size ≤ gb541)); clear HB; have HB := n0_; have BK541 := n1_; have GW541 := n2_; have GE541 := n3_; clear n0_ n1_ n2_ n3_; clear hb hbox hg; have hcz23_0 : w22.cell? ⟨gb541, 0, none⟩ = some (.slice none 0 0) := (blk_cell BK541.out 0).trans rfl; have hfz23_0 := blk_frozen BK541.out 0) | (go_at_call 53; (with_reducible refine (y_u.calls k1 _ _ ((rd_T39 l0 x7_1).f0) false _ ?side1 ?side2 A8.out).mono ?_); (case side1 => exact Kd.C_below HR540_0.out (by repeat (first | (with_reducible first | exact HB.out | apply z11d | apply z11b | apply z11c | refine below_set ?_ GE541.out) | exact HB.out))); (case side2 => exact HC540_0.out); rintro e w24 ⟨rfl, hb⟩; have n0_ := z11a (blk_below (g := gb541) (o := .cells #[.slice A540_0 ((rd_T39 l0 x7_1).f0).length c540_0] 39 (0, 0)) (by (with_reducible repeat (first | refine blk_drewN ?_ _ | refine blk_drew ?_ | refine blk_alloc ?_ _)); refine blk_put (cs := #[.slice none 0 0]) ?_ 0 _ rfl; (with_reducible repeat (first | refine blk_drewN ?_ _ | refine blk_drew ?_ | refine blk_alloc ?_ _)); exact BK541.out) hb); have n1_ := z11a (below_step (by repeat (first | (with_reducible first | exact HB.out | apply z11d | apply z11b | apply z11c | refine below_set ?_ GE541.out) | exact HB.out)) hb); clear BK541; clear HB; have BK541 := n0_; have HB := n1_; clear n0_ n1_; (try clear hb); (try clear hb2); (try clear hk); (try clear hi)))
        go_ret
        exact ⟨by first | rfl | (simp [errW_none, errW_some] <;> rfl) | (simp [*, errW_none, errW_some] <;> rfl), by repeat (first | (with_reducible first | exact HB.out | apply z11d | apply z11b | apply z11c | refine below_set ?_ GE541.out) | exact HB.out)⟩
     ·rw [if_neg c4] at H
      exact absurd H (by simp)
    ·rw [if_neg c3] at H
     exact absurd H (by simp)
   ·rw [if_neg c2] at H
    have c2b0 : decide (x7_1 < (l0.length : Int)) = false := decide_eq_false c2
    clear c2
    obtain rfl := Option.some.inj H
    go_wp2
    go_ret
    exact ⟨by first | rfl | (simp [errW_none, errW_some] <;> rfl) | (simp [*, errW_none, errW_some] <;> rfl), by repeat (first | (with_reducible first | exact HB.out | apply z11d | apply z11b | apply z11c) | exact HB.out)⟩
def y_v.l0 : Nat → List (S71) → Int → Option (Bool)
 | 0, _, _ => none
 | k + 1, x0, x3 => if x3 < (x0.length : Int) then (if 0 ≤ (wrap64 (x3 - 1)) then (if (wrap64 (x3 - 1)) < (x0.length : Int) then (if 0 ≤ x3 then ((y_g.f k ((rd_T71 x0 (wrap64 (x3 - 1))).f0) ((rd_T71 x0 (wrap64 (x3 - 1))).f1) ((rd_T71 x0 (wrap64 (x3 - 1))).f2) ((rd_T71 x0 x3).f0) ((rd_T71 x0 x3).f1) ((rd_T71 x0 x3).f2)).bind fun t546 => (if t546 > 0 then (some false) else (y_v.l0 k x0 (wrap64 (x3 + 1))))) else (none)) else (none)) else (none)) else (some true)
def y_v.f (k : Nat) (l0 : List (S71)) : Option (Bool) := y_v.l0 k l0 1
def y_v.T4 : Bool × List (List Nat × List Nat) := (true, [([], []), ([], []), ([1], [1]), ([0, 2], [0, 2]), ([3], [3]), ([], []), ([], []), ([5, 6], [5, 6]), ([7], [7]), ([4, 8], [4, 8]), ([9], [9])])
def y_v.B4 : List Nat := [0, 0, 2, 7, 15, 0, 0, 96, 224, 511, 1023]
theorem y_v.tab4 : rtab .any (opsOf Try.f52 4) = y_v.T4 := by kernel_rfl
theorem y_v.bits4 : waitsOk y_v.T4.2 y_v.B4 = true := by kernel_rfl
theorem y_v.calls (k : Nat) (A0 : Option Addr) (c0 : Nat) (l0 : List (S71)) (r : Bool) (w : World) (hr0 : Kd.C k71 w A0 l0.length l0) (hc0 : l0.length ≤ c0) (h : y_v.f k l0 = some r) :
  Calls Try.prog 52 #[.slice A0 l0.length c0] w fun e w' => e = .returned (.bool r) ∧ Below w.heap.size w w' := by
 have hu71 := Try.underlying71
 have HR0 := z11a hr0
 have HC0 := z11a hc0
 clear hr0 hc0
 have HB := z11a (Below.refl w.heap.size w)
 have H : (y_v.l0 k l0 1) = some r := h
 clear h
 have H' := z11a H
 clear H
 go_enter Try.func52, Try.ntmps52
 go_wp2
 go_loopg [3] k (fun kq v3 w' => ∃ (x3_1 : Int), v3 = .int .i64 x3_1 ∧ Aside0 (y_v.l0 kq l0 x3_1 = some r) ∧ Aside0 (kq ≤ k) ∧ Aside0 (Below w.heap.size w w'))
 case atStart => exact ⟨(1), (by first | rfl | (simp; done) | (simp [*]; done)), H', ⟨Nat.le_refl _⟩, ⟨by repeat (first | (with_reducible first | exact HB.out | apply z11d | apply z11b | apply z11c) | exact HB.out)⟩⟩
 case round =>
  clear H'
  obtain ⟨x3_1, rfl, HA, HK1, HB⟩ := hrel
  cases gk with
  | zero => exact absurd HA.out (by simp [y_v.l0])
  | succ k1 =>
   have H := HA.out
   clear HA
   simp only [y_v.l0] at H
   by_cases c2 : x3_1 < (l0.length : Int)
   ·rw [if_pos c2] at H
    have c2b0 : decide (x3_1 < (l0.length : Int)) = true := z11h c2
    clear c2
    obtain ⟨ji3, hji3⟩ : ∃ j_ : Int, (wrap64 (x3_1 - 1)) = j_ := ⟨_, rfl⟩
    replace H : (if 0 ≤ (ji3) then (if (ji3) < (l0.length : Int) then (if 0 ≤ x3_1 then ((y_g.f k1 ((rd_T71 l0 (ji3)).f0) ((rd_T71 l0 (ji3)).f1) ((rd_T71 l0 (ji3)).f2) ((rd_T71 l0 x3_1).f0) ((rd_T71 l0 x3_1).f1) ((rd_T71 l0 x3_1).f2)).bind fun t546 => (if t546 > 0 then (some false) else (y_v.l0 k1 l0 (wrap64 (x3_1 + 1))))) else (none)) else (none)) else (none)) = some r := by first | (rw [hji3] at H; exact H) | (simp only [hji3] at H ⊢; exact H)
    have hji3w : (IntKind.i64.wrap (x3_1 - 1)) = ji3 := (i64_w _).trans hji3
    by_cases c4 : 0 ≤ (ji3)
    ·rw [if_pos c4] at H
     have c4b0 : decide (0 ≤ (ji3)) = true := z11h c4
     clear c4
     by_cases c5 : (ji3) < (l0.length : Int)
     ·rw [if_pos c5] at H
      have c5b0 : decide ((ji3) < (l0.length : Int)) = true := z11h c5
      clear c5
      by_cases c6 : 0 ≤ x3_1
      ·rw [if_pos c6] at H
       have c6b0 : decide (0 ≤ x3_1) = true := z11h c6
       clear c6
       replace H := z11f.mp H
       obtain ⟨t546, A70, H⟩ := H
       have A7 := z11a A70
       clear A70
       by_cases c8 : t546 > 0
       ·rw [if_pos c8] at H
        have c8b0 : decide (0 < t546) = true := z11h c8
        clear c8
        obtain rfl := Option.some.inj H
        try go_wp2
        have n0_ := z11a (z11c HB.out)
        clear HB
        have HB := n0_
        clear n0_
        have p544 : 0 ≤ ((ji3) : Int) := z11g (by first | (with_reducible assumption) | assumption)
        have q544 : (ji3) < (l0.length : Int) := z11g (by first | (with_reducible assumption) | assumption)
        obtain ⟨ad544, e544, hx544_0, hx544_1, hx544_2⟩ := at_T71 HR0.out (ji3) p544 q544
        have hw544_2 := hx544_2
        have hw544_1 := hx544_1
        have hw544_0 := hx544_0
        cases e544
        replace hx544_0 := (HB.out.cell (z11e w _ hx544_0)).trans hx544_0
        replace hx544_1 := (HB.out.cell (z11e w _ hx544_1)).trans hx544_1
        replace hx544_2 := (HB.out.cell (z11e w _ hx544_2)).trans hx544_2
        replace p544 := eq_true p544
        replace q544 := eq_true q544
        have p545 : 0 ≤ (x3_1 : Int) := z11g (by first | (with_reducible assumption) | assumption)
        have q545 : x3_1 < (l0.length : Int) := z11g (by first | (with_reducible assumption) | assumption)
        obtain ⟨ad545, e545, hx545_0, hx545_1, hx545_2⟩ := at_T71 HR0.out x3_1 p545 q545
        have hw545_2 := hx545_2
        have hw545_1 := hx545_1
        have hw545_0 := hx545_0
        obtain rfl : ad544 = ad545 := (by injection e545)
        replace hx545_0 := (HB.out.cell (z11e w _ hx545_0)).trans hx545_0
        replace hx545_1 := (HB.out.cell (z11e w _ hx545_1)).trans hx545_1
        replace hx545_2 := (HB.out.cell (z11e w _ hx545_2)).trans hx545_2
        replace p545 := eq_true p545
        replace q545 := eq_true q545
        refine start_ (n := 11) (S := fun w' => w'.cell? (ad544.add (((ji3)).toNat * 3)) = some (.int .i64 ((rd_T71 l0 (ji3)).f0)) ∧ w'.cell? ⟨(ad544.add (((ji3)).toNat * 3)).block, (ad544.add (((ji3)).toNat * 3)).off + 1, none⟩ = some (.int .i64 ((rd_T71 l0 (ji3)).f1)) ∧ w'.cell? ⟨(ad544.add (((ji3)).toNat * 3)).block, (ad544.add (((ji3)).toNat * 3)).off + 2, none⟩ = some (.int .i64 ((rd_T71 l0 (ji3)).f2)) ∧ w'.cell? (ad544.add ((x3_1).toNat * 3)) = some (.int .i64 ((rd_T71 l0 x3_1).f0)) ∧ w'.cell? ⟨(ad544.add ((x3_1).toNat * 3)).block, (ad544.add ((x3_1).toNat * 3)).off + 1, none⟩ = some (.int .i64 ((rd_T71 l0 x3_1).f1)) ∧ w'.cell? ⟨(ad544.add ((x3_1).toNat * 3)).block, (ad544.add ((x3_1).toNat * 3)).off + 2, none⟩ = some (.int .i64 ((rd_T71 l0 x3_1).f2))) (ds := []) zq11_2 (by kernel_rfl) rfl rfl ⟨((HB.out.cell (z11e w _ hw544_0)).trans hw544_0), ((HB.out.cell (z11e w _ hw544_1)).trans hw544_1), ((HB.out.cell (z11e w _ hw544_2)).trans hw544_2), ((HB.out.cell (z11e w _ hw545_0)).trans hw545_0), ((HB.out.cell (z11e w _ hw545_1)).trans hw545_1), ((HB.out.cell (z11e w _ hw545_2)).trans hw545_2)⟩ (fun hHeld => ?_); refine with_tabW y_v.tab4 y_v.bits4 (fun HT_ HW_ => ?_)
        generalize wr.drew = w9 at HB hx544_0 hx544_1 hx544_2 hx545_0 hx545_1 hx545_2 hHeld ⊢
        refine pure_ (i := 0) (N := some 10) (v := ?_) (a' := ?_) zq11_3 rfl rfl (any_of HT_.out (by kernel_rfl)) (fun _ _ _ h => h) (Or.inl ⟨by rfl, ?_⟩) ?_ ?_
        rotate_left
        ·intro w'
         go_simp
         with_reducible rfl
        rotate_left
        ·simp only [Act.put, zp11a, zp11b, zp11c, i64_w, i32_w]
         rfl
        refine pure_ (i := 1) (N := some 11) (v := ?_) (a' := ?_) zq11_4 rfl rfl (any_of HT_.out (by kernel_rfl)) (fun _ _ _ h => h) (Or.inl ⟨by rfl, ?_⟩) ?_ ?_
        rotate_left
        ·intro w'
         go_simp
         with_reducible rfl
        rotate_left
        ·simp only [Act.put, zp11a, zp11b, zp11c, i64_w, i32_w]
         rfl
        refine pure_ (i := 2) (N := some 12) (v := ?_) (a' := ?_) #[zt11,zt11,zt11,zf11,zf11,zf11,zf11,zf11,zf11,zf11,zf11] rfl rfl (any_of HT_.out (by kernel_rfl)) (fun _ _ _ h => h) (Or.inl ⟨by rfl, ?_⟩) ?_ ?_
        rotate_left
        ·intro w'
         go_simp
         with_reducible rfl
        rotate_left
        ·simp only [Act.put, zp11a, zp11b, zp11c, i64_w, i32_w]
         rfl
        refine pure_ (i := 3) (N := some 13) (v := ?_) (a' := ?_) #[zt11,zt11,zt11,zt11,zf11,zf11,zf11,zf11,zf11,zf11,zf11] rfl rfl (any_of HT_.out (by kernel_rfl)) (fun _ _ _ h => h) (Or.inl ⟨by rfl, ?_⟩) ?_ ?_
        rotate_left
        ·intro w'
         go_simp
         with_reducible rfl
        rotate_left
        ·simp only [Act.put, zp11a, zp11b, zp11c, i64_w, i32_w]
         rfl
        refine pure_ (i := 5) (N := some 15) (v := ?_) (a' := ?_) #[zt11,zt11,zt11,zt11,zf11,zt11,zf11,zf11,zf11,zf11,zf11] rfl rfl (any_of HT_.out (by kernel_rfl)) (fun _ _ _ h => h) (Or.inl ⟨by rfl, ?_⟩) ?_ ?_
        rotate_left
        ·intro w'
         go_simp
         with_reducible rfl
        rotate_left
        ·simp only [Act.put, zp11a, zp11b, zp11c, i64_w, i32_w]
         rfl
        refine pure_ (i := 6) (N := some 16) (v := ?_) (a' := ?_) #[zt11,zt11,zt11,zt11,zf11,zt11,zt11,zf11,zf11,zf11,zf11] rfl rfl (any_of HT_.out (by kernel_rfl)) (fun _ _ _ h => h) (Or.inl ⟨by rfl, ?_⟩) ?_ ?_
        rotate_left
        ·intro w'
         go_simp
         with_reducible rfl
        rotate_left
        ·simp only [Act.put, zp11a, zp11b, zp11c, i64_w, i32_w]
         rfl
        refine pure_ (i := 7) (N := some 17) (v := ?_) (a' := ?_) #[zt11,zt11,zt11,zt11,zf11,zt11,zt11,zt11,zf11,zf11,zf11] rfl rfl (any_of HT_.out (by kernel_rfl)) (fun _ _ _ h => h) (Or.inl ⟨by rfl, ?_⟩) ?_ ?_
        rotate_left
        ·intro w'
         go_simp
         with_reducible rfl
        rotate_left
        ·simp only [Act.put, zp11a, zp11b, zp11c, i64_w, i32_w]
         rfl
        refine take_ (i := 4) (N := some 14) (v := ?_) (a' := ?_) zq11_1 rfl rfl (take_ofW HT_.out HW_.out (by kernel_rfl)) (fun _ _ _ h => h) (Or.inl ⟨by rfl, ?_⟩) hHeld ?_ ?_
        rotate_left
        ·rintro w' ⟨s0, s1, s2, s3, s4, s5⟩
         go_simp
         with_reducible rfl
        rotate_left
        ·simp only [Act.put, zp11a, zp11b, zp11c, i64_w, i32_w]
         rfl
        refine take_ (i := 8) (N := some 18) (v := ?_) (a' := ?_) zq11_0 rfl rfl (take_ofW HT_.out HW_.out (by kernel_rfl)) (fun _ _ _ h => h) (Or.inl ⟨by rfl, ?_⟩) hHeld ?_ ?_
        rotate_left
        ·rintro w' ⟨s0, s1, s2, s3, s4, s5⟩
         go_simp
         with_reducible rfl
        rotate_left
        ·simp only [Act.put, zp11a, zp11b, zp11c, i64_w, i32_w]
         rfl
        refine one_ (i := 9) (N := some 19) zq11_5 rfl rfl (one_of HT_.out (by kernel_rfl)) (by decide) (fun K hK => ?_)
        refine goes_ Try.func116 (by kernel_rfl) rfl #[.agg #[.int .i64 ((rd_T71 l0 (ji3)).f0), .int .i64 ((rd_T71 l0 (ji3)).f1), .int .i64 ((rd_T71 l0 (ji3)).f2)], .agg #[.int .i64 ((rd_T71 l0 x3_1).f0), .int .i64 ((rd_T71 l0 x3_1).f1), .int .i64 ((rd_T71 l0 x3_1).f2)]] (by rfl) rfl rfl (by (try simp only [zm11a, zm11b, zm11c]); first | done | (simp only [hji3]; rfl) | rfl | (simp only [zm11d, zm11e]; rfl)) ?_
        with_reducible refine (y_g.calls k1 ((rd_T71 l0 (ji3)).f0) ((rd_T71 l0 (ji3)).f1) ((rd_T71 l0 (ji3)).f2) ((rd_T71 l0 x3_1).f0) ((rd_T71 l0 x3_1).f1) ((rd_T71 l0 x3_1).f2) t546 _ A7.out).mono ?_
        rintro e w10 ⟨rfl, hb⟩
        refine ⟨_, rfl, ?_⟩
        have n0_ := z11a (below_step (by repeat (first | (with_reducible first | exact HB.out | apply z11d | apply z11b | apply z11c) | exact HB.out)) hb)
        clear HB
        have HB := n0_
        clear n0_
        (try clear hb)
        (try clear hb2)
        (try clear hk)
        (try clear hi)
        refine hK.out _ _ ⟨((HB.out.cell (z11e w _ hw544_0)).trans hw544_0), ((HB.out.cell (z11e w _ hw544_1)).trans hw544_1), ((HB.out.cell (z11e w _ hw544_2)).trans hw544_2), ((HB.out.cell (z11e w _ hw545_0)).trans hw545_0), ((HB.out.cell (z11e w _ hw545_1)).trans hw545_1), ((HB.out.cell (z11e w _ hw545_2)).trans hw545_2)⟩ (fun hHeld => ?_)
        clear hK K
        refine norm_ (a' := ?_) ?_ ?_
        rotate_left
        ·show Act.put _ (some 19) _ = _
         simp only [Act.put, zp11a, zp11b, zp11c, i64_w, i32_w]
         rfl
        refine pure_ (i := 10) (N := some 20) (v := ?_) (a' := ?_) zq11_6 rfl rfl (any_of HT_.out (by kernel_rfl)) (fun _ _ _ h => h) (Or.inl ⟨by rfl, ?_⟩) ?_ ?_
        rotate_left
        ·intro w'
         go_simp
         with_reducible rfl
        rotate_left
        ·simp only [Act.put, zp11a, zp11b, zp11c, i64_w, i32_w]
         rfl
        refine done_ (done_of HT_.out (by kernel_rfl)) ?_
        try go_wp2
        go_ret
        exact ⟨by first | rfl | (simp [errW_none, errW_some] <;> rfl) | (simp only [← hji3]; first | rfl | (simp [errW_none, errW_some] <;> rfl)) | (simp [*, errW_none, errW_some] <;> rfl), by repeat (first | (with_reducible first | exact HB.out | apply z11d | apply z11b | apply z11c) | exact HB.out)⟩
       ·rw [if_neg c8] at H
        have c8b0 : decide (0 < t546) = false := decide_eq_false c8
        clear c8
        have H' := z11a H
        clear H
        try go_wp2
        have n0_ := z11a (z11c HB.out)
        clear HB
        have HB := n0_
        clear n0_
        have p544 : 0 ≤ ((ji3) : Int) := z11g (by first | (with_reducible assumption) | assumption)
        have q544 : (ji3) < (l0.length : Int) := z11g (by first | (with_reducible assumption) | assumption)
        obtain ⟨ad544, e544, hx544_0, hx544_1, hx544_2⟩ := at_T71 HR0.out (ji3) p544 q544
        have hw544_2 := hx544_2
        have hw544_1 := hx544_1
        have hw544_0 := hx544_0
        cases e544
        replace hx544_0 := (HB.out.cell (z11e w _ hx544_0)).trans hx544_0
        replace hx544_1 := (HB.out.cell (z11e w _ hx544_1)).trans hx544_1
        replace hx544_2 := (HB.out.cell (z11e w _ hx544_2)).trans hx544_2
        replace p544 := eq_true p544
        replace q544 := eq_true q544
        have p545 : 0 ≤ (x3_1 : Int) := z11g (by first | (with_reducible assumption) | assumption)
        have q545 : x3_1 < (l0.length : Int) := z11g (by first | (with_reducible assumption) | assumption)
        obtain ⟨ad545, e545, hx545_0, hx545_1, hx545_2⟩ := at_T71 HR0.out x3_1 p545 q545
        have hw545_2 := hx545_2
        have hw545_1 := hx545_1
        have hw545_0 := hx545_0
        obtain rfl : ad544 = ad545 := (by injection e545)
        replace hx545_0 := (HB.out.cell (z11e w _ hx545_0)).trans hx545_0
        replace hx545_1 := (HB.out.cell (z11e w _ hx545_1)).trans hx545_1
        replace hx545_2 := (HB.out.cell (z11e w _ hx545_2)).trans hx545_2
        replace p545 := eq_true p545
        replace q545 := eq_true q545
        refine start_ (n := 11) (S := fun w' => w'.cell? (ad544.add (((ji3)).toNat * 3)) = some (.int .i64 ((rd_T71 l0 (ji3)).f0)) ∧ w'.cell? ⟨(ad544.add (((ji3)).toNat * 3)).block, (ad544.add (((ji3)).toNat * 3)).off + 1, none⟩ = some (.int .i64 ((rd_T71 l0 (ji3)).f1)) ∧ w'.cell? ⟨(ad544.add (((ji3)).toNat * 3)).block, (ad544.add (((ji3)).toNat * 3)).off + 2, none⟩ = some (.int .i64 ((rd_T71 l0 (ji3)).f2)) ∧ w'.cell? (ad544.add ((x3_1).toNat * 3)) = some (.int .i64 ((rd_T71 l0 x3_1).f0)) ∧ w'.cell? ⟨(ad544.add ((x3_1).toNat * 3)).block, (ad544.add ((x3_1).toNat * 3)).off + 1, none⟩ = some (.int .i64 ((rd_T71 l0 x3_1).f1)) ∧ w'.cell? ⟨(ad544.add ((x3_1).toNat * 3)).block, (ad544.add ((x3_1).toNat * 3)).off + 2, none⟩ = some (.int .i64 ((rd_T71 l0 x3_1).f2))) (ds := []) zq11_2 (by kernel_rfl) rfl rfl ⟨((HB.out.cell (z11e w _ hw544_0)).trans hw544_0), ((HB.out.cell (z11e w _ hw544_1)).trans hw544_1), ((HB.out.cell (z11e w _ hw544_2)).trans hw544_2), ((HB.out.cell (z11e w _ hw545_0)).trans hw545_0), ((HB.out.cell (z11e w _ hw545_1)).trans hw545_1), ((HB.out.cell (z11e w _ hw545_2)).trans hw545_2)⟩ (fun hHeld => ?_); refine with_tabW y_v.tab4 y_v.bits4 (fun HT_ HW_ => ?_)
        generalize wr.drew = w11 at HB hx544_0 hx544_1 hx544_2 hx545_0 hx545_1 hx545_2 hHeld ⊢
        refine pure_ (i := 0) (N := some 10) (v := ?_) (a' := ?_) zq11_3 rfl rfl (any_of HT_.out (by kernel_rfl)) (fun _ _ _ h => h) (Or.inl ⟨by rfl, ?_⟩) ?_ ?_
        rotate_left
        ·intro w'
         go_simp
         with_reducible rfl
        rotate_left
        ·simp only [Act.put, zp11a, zp11b, zp11c, i64_w, i32_w]
         rfl
        refine pure_ (i := 1) (N := some 11) (v := ?_) (a' := ?_) zq11_4 rfl rfl (any_of HT_.out (by kernel_rfl)) (fun _ _ _ h => h) (Or.inl ⟨by rfl, ?_⟩) ?_ ?_
        rotate_left
        ·intro w'
         go_simp
         with_reducible rfl
        rotate_left
        ·simp only [Act.put, zp11a, zp11b, zp11c, i64_w, i32_w]
         rfl
        refine pure_ (i := 2) (N := some 12) (v := ?_) (a' := ?_) #[zt11,zt11,zt11,zf11,zf11,zf11,zf11,zf11,zf11,zf11,zf11] rfl rfl (any_of HT_.out (by kernel_rfl)) (fun _ _ _ h => h) (Or.inl ⟨by rfl, ?_⟩) ?_ ?_
        rotate_left
        ·intro w'
         go_simp
         with_reducible rfl
        rotate_left
        ·simp only [Act.put, zp11a, zp11b, zp11c, i64_w, i32_w]
         rfl
        refine pure_ (i := 3) (N := some 13) (v := ?_) (a' := ?_) #[zt11,zt11,zt11,zt11,zf11,zf11,zf11,zf11,zf11,zf11,zf11] rfl rfl (any_of HT_.out (by kernel_rfl)) (fun _ _ _ h => h) (Or.inl ⟨by rfl, ?_⟩) ?_ ?_
        rotate_left
        ·intro w'
         go_simp
         with_reducible rfl
        rotate_left
        ·simp only [Act.put, zp11a, zp11b, zp11c, i64_w, i32_w]
         rfl
        refine pure_ (i := 5) (N := some 15) (v := ?_) (a' := ?_) #[zt11,zt11,zt11,zt11,zf11,zt11,zf11,zf11,zf11,zf11,zf11] rfl rfl (any_of HT_.out (by kernel_rfl)) (fun _ _ _ h => h) (Or.inl ⟨by rfl, ?_⟩) ?_ ?_
        rotate_left
        ·intro w'
         go_simp
         with_reducible rfl
        rotate_left
        ·simp only [Act.put, zp11a, zp11b, zp11c, i64_w, i32_w]
         rfl
        refine pure_ (i := 6) (N := some 16) (v := ?_) (a' := ?_) #[zt11,zt11,zt11,zt11,zf11,zt11,zt11,zf11,zf11,zf11,zf11] rfl rfl (any_of HT_.out (by kernel_rfl)) (fun _ _ _ h => h) (Or.inl ⟨by rfl, ?_⟩) ?_ ?_
        rotate_left
        ·intro w'
         go_simp
         with_reducible rfl
        rotate_left
        ·simp only [Act.put, zp11a, zp11b, zp11c, i64_w, i32_w]
         rfl
        refine pure_ (i := 7) (N := some 17) (v := ?_) (a' := ?_) #[zt11,zt11,zt11,zt11,zf11,zt11,zt11,zt11,zf11,zf11,zf11] rfl rfl (any_of HT_.out (by kernel_rfl)) (fun _ _ _ h => h) (Or.inl ⟨by rfl, ?_⟩) ?_ ?_
        rotate_left
        ·intro w'
         go_simp
         with_reducible rfl
        rotate_left
        ·simp only [Act.put, zp11a, zp11b, zp11c, i64_w, i32_w]
         rfl
        refine take_ (i := 4) (N := some 14) (v := ?_) (a' := ?_) zq11_1 rfl rfl (take_ofW HT_.out HW_.out (by kernel_rfl)) (fun _ _ _ h => h) (Or.inl ⟨by rfl, ?_⟩) hHeld ?_ ?_
        rotate_left
        ·rintro w' ⟨s0, s1, s2, s3, s4, s5⟩
         go_simp
         with_reducible rfl
        rotate_left
        ·simp only [Act.put, zp11a, zp11b, zp11c, i64_w, i32_w]
         rfl
        refine take_ (i := 8) (N := some 18) (v := ?_) (a' := ?_) zq11_0 rfl rfl (take_ofW HT_.out HW_.out (by kernel_rfl)) (fun _ _ _ h => h) (Or.inl ⟨by rfl, ?_⟩) hHeld ?_ ?_
        rotate_left
        ·rintro w' ⟨s0, s1, s2, s3, s4, s5⟩
         go_simp
         with_reducible rfl
        rotate_left
        ·simp only [Act.put, zp11a, zp11b, zp11c, i64_w, i32_w]
         rfl
        refine one_ (i := 9) (N := some 19) zq11_5 rfl rfl (one_of HT_.out (by kernel_rfl)) (by decide) (fun K hK => ?_)
        refine goes_ Try.func116 (by kernel_rfl) rfl #[.agg #[.int .i64 ((rd_T71 l0 (ji3)).f0), .int .i64 ((rd_T71 l0 (ji3)).f1), .int .i64 ((rd_T71 l0 (ji3)).f2)], .agg #[.int .i64 ((rd_T71 l0 x3_1).f0), .int .i64 ((rd_T71 l0 x3_1).f1), .int .i64 ((rd_T71 l0 x3_1).f2)]] (by rfl) rfl rfl (by (try simp only [zm11a, zm11b, zm11c]); first | done | (simp only [hji3]; rfl) | rfl | (simp only [zm11d, zm11e]; rfl)) ?_
        with_reducible refine (y_g.calls k1 ((rd_T71 l0 (ji3)).f0) ((rd_T71 l0 (ji3)).f1) ((rd_T71 l0 (ji3)).f2) ((rd_T71 l0 x3_1).f0) ((rd_T71 l0 x3_1).f1) ((rd_T71 l0 x3_1).f2) t546 _ A7.out).mono ?_
        rintro e w12 ⟨rfl, hb⟩
        refine ⟨_, rfl, ?_⟩
        have n0_ := z11a (below_step (by repeat (first | (with_reducible first | exact HB.out | apply z11d | apply z11b | apply z11c) | exact HB.out)) hb)
        clear HB
        have HB := n0_
        clear n0_
        (try clear hb)
        (try clear hb2)
        (try clear hk)
        (try clear hi)
        refine hK.out _ _ ⟨((HB.out.cell (z11e w _ hw544_0)).trans hw544_0), ((HB.out.cell (z11e w _ hw544_1)).trans hw544_1), ((HB.out.cell (z11e w _ hw544_2)).trans hw544_2), ((HB.out.cell (z11e w _ hw545_0)).trans hw545_0), ((HB.out.cell (z11e w _ hw545_1)).trans hw545_1), ((HB.out.cell (z11e w _ hw545_2)).trans hw545_2)⟩ (fun hHeld => ?_)
        clear hK K
        refine norm_ (a' := ?_) ?_ ?_
        rotate_left
        ·show Act.put _ (some 19) _ = _
         simp only [Act.put, zp11a, zp11b, zp11c, i64_w, i32_w]
         rfl
        refine pure_ (i := 10) (N := some 20) (v := ?_) (a' := ?_) zq11_6 rfl rfl (any_of HT_.out (by kernel_rfl)) (fun _ _ _ h => h) (Or.inl ⟨by rfl, ?_⟩) ?_ ?_
        rotate_left
        ·intro w'
         go_simp
         with_reducible rfl
        rotate_left
        ·simp only [Act.put, zp11a, zp11b, zp11c, i64_w, i32_w]
         rfl
        refine done_ (done_of HT_.out (by kernel_rfl)) ?_
        try go_wp2
        go_roundg k1
        case measure => have := HK1.out; omega
        case rel => exact ⟨(wrap64 (x3_1 + 1)), (by first | rfl | (simp; done) | (simp [*]; done)), H', ⟨by have := HK1.out; omega⟩, ⟨by repeat (first | (with_reducible first | exact HB.out | apply z11d | apply z11b | apply z11c) | exact HB.out)⟩⟩
      ·rw [if_neg c6] at H
       exact absurd H (by simp)
     ·rw [if_neg c5] at H
      exact absurd H (by simp)
    ·rw [if_neg c4] at H
     exact absurd H (by simp)
   ·rw [if_neg c2] at H
    have c2b0 : decide (x3_1 < (l0.length : Int)) = false := decide_eq_false c2
    clear c2
    obtain rfl := Option.some.inj H
    go_wp2
    go_ret
    exact ⟨by first | rfl | (simp [errW_none, errW_some] <;> rfl) | (simp [*, errW_none, errW_some] <;> rfl), by repeat (first | (with_reducible first | exact HB.out | apply z11d | apply z11b | apply z11c) | exact HB.out)⟩
def y_q.l0 : Nat → List (S39) → Int → Option (Bool)
 | 0, _, _ => none
 | k + 1, x0, x3 => if x3 < (x0.length : Int) then (if 0 ≤ x3 then (if (((rd_T39 x0 x3).f0).length : Int) = 0 then (some false) else ((y_v.f k ((rd_T39 x0 x3).f0)).bind fun t549 => (if t549 = true then ((y_y.f k ((rd_T39 x0 x3).f0)).bind fun t551 => (if t551 = true then (y_q.l0 k x0 (wrap64 (x3 + 1))) else (some false))) else (some false)))) else (none)) else (some true)
def y_q.f (k : Nat) (l0 : List (S39)) : Option (Bool) := y_q.l0 k l0 0
theorem y_q.calls (k : Nat) (A0 : Option Addr) (c0 : Nat) (l0 : List (S39)) (r : Bool) (w : World) (hr0 : Kd.C k39 w A0 l0.length l0) (hc0 : l0.length ≤ c0) (h : y_q.f k l0 = some r) :
  Calls Try.prog 23 #[.slice A0 l0.length c0] w fun e w' => e = .returned (.bool r) ∧ Below w.heap.size w w' := by
 have HR0 := z11a hr0
 have HC0 := z11a hc0
 clear hr0 hc0
 have HB := z11a (Below.refl w.heap.size w)
 have H : (y_q.l0 k l0 0) = some r := h
 clear h
 have H' := z11a H
 clear H
 go_enter Try.func23, Try.ntmps23
 go_wp2
 go_loopg [3] k (fun kq v3 w' => ∃ (x3_1 : Int), v3 = .int .i64 x3_1 ∧ Aside0 (y_q.l0 kq l0 x3_1 = some r) ∧ Aside0 (kq ≤ k) ∧ Aside0 (Below w.heap.size w w'))
 case atStart => exact ⟨(0), (by first | rfl | (simp; done) | (simp [*]; done)), H', ⟨Nat.le_refl _⟩, ⟨by repeat (first | (with_reducible first | exact HB.out | apply z11d | apply z11b | apply z11c) | exact HB.out)⟩⟩
 case round =>
  clear H'
  obtain ⟨x3_1, rfl, HA, HK1, HB⟩ := hrel
  cases gk with
  | zero => exact absurd HA.out (by simp [y_q.l0])
  | succ k1 =>
   have H := HA.out
   clear HA
   simp only [y_q.l0] at H
   by_cases c2 : x3_1 < (l0.length : Int)
   ·rw [if_pos c2] at H
    have c2b0 : decide (x3_1 < (l0.length : Int)) = true := z11h c2
    clear c2
    by_cases c3 : 0 ≤ x3_1
    ·rw [if_pos c3] at H
     have c3b0 : decide (0 ≤ x3_1) = true := z11h c3
     clear c3
     by_cases c4 : (((rd_T39 l0 x3_1).f0).length : Int) = 0
     ·rw [if_pos c4] at H
      have c4b0 : ((((rd_T39 l0 x3_1).f0).length : Int) == 0) = true := beq_iff_eq.mpr c4
      have c4b1 : ((((rd_T39 l0 x3_1).f0).length : Int) != 0) = false := bne_eq_false_iff_eq.mpr c4
      clear c4
      obtain rfl := Option.some.inj H
      have p547 : 0 ≤ (x3_1 : Int) := z11g (by first | (with_reducible assumption) | assumption)
      have q547 : x3_1 < (l0.length : Int) := z11g (by first | (with_reducible assumption) | assumption)
      obtain ⟨ad547, A547_0, c547_0, e547, hx547_0, hl547_0, hi547_0⟩ := at_T39 HR0.out x3_1 p547 q547
      cases e547
      replace hx547_0 := (HB.out.cell (z11e w _ hx547_0)).trans hx547_0
      have HR547_0 := z11a hi547_0
      have HC547_0 := z11a hl547_0
      clear hi547_0 hl547_0
      replace p547 := eq_true p547
      replace q547 := eq_true q547
      go_wp2
      go_ret
      exact ⟨by first | rfl | (simp [errW_none, errW_some] <;> rfl) | (simp [*, errW_none, errW_some] <;> rfl), by repeat (first | (with_reducible first | exact HB.out | apply z11d | apply z11b | apply z11c) | exact HB.out)⟩
     ·rw [if_neg c4] at H
      have c4b0 : ((((rd_T39 l0 x3_1).f0).length : Int) == 0) = false := beq_eq_false_iff_ne.mpr c4
      have c4b1 : ((((rd_T39 l0 x3_1).f0).length : Int) != 0) = true := bne_iff_ne.mpr c4
      have c4b2 : ¬ (((rd_T39 l0 x3_1).f0) = []) := fun h_ => c4 (by rw [h_]; rfl)
      replace H := z11f.mp H
      obtain ⟨t549, A50, H⟩ := H
      have A5 := z11a A50
      clear A50
      by_cases c6 : t549 = true
      ·subst c6
       rw [if_pos rfl] at H
       replace H := z11f.mp H
       obtain ⟨t551, A70, H⟩ := H
       have A7 := z11a A70
       clear A70
       by_cases c8 : t551 = true
       ·subst c8
        rw [if_pos rfl] at H
        have H' := z11a H
        clear H
        have p547 : 0 ≤ (x3_1 : Int) := z11g (by first | (with_reducible assumption) | assumption)
        have q547 : x3_1 < (l0.length : Int) := z11g (by first | (with_reducible assumption) | assumption)
        obtain ⟨ad547, A547_0, c547_0, e547, hx547_0, hl547_0, hi547_0⟩ := at_T39 HR0.out x3_1 p547 q547
        cases e547
        replace hx547_0 := (HB.out.cell (z11e w _ hx547_0)).trans hx547_0
        have HR547_0 := z11a hi547_0
        have HC547_0 := z11a hl547_0
        clear hi547_0 hl547_0
        replace p547 := eq_true p547
        replace q547 := eq_true q547
        have p548 : 0 ≤ (x3_1 : Int) := z11g (by first | (with_reducible assumption) | assumption)
        have q548 : x3_1 < (l0.length : Int) := z11g (by first | (with_reducible assumption) | assumption)
        obtain ⟨ad548, A548_0, c548_0, e548, hx548_0, hl548_0, hi548_0⟩ := at_T39 HR0.out x3_1 p548 q548
        obtain rfl : ad547 = ad548 := (by injection e548)
        replace hx548_0 := (HB.out.cell (z11e w _ hx548_0)).trans hx548_0
        have HR548_0 := z11a hi548_0
        have HC548_0 := z11a hl548_0
        clear hi548_0 hl548_0
        replace p548 := eq_true p548
        replace q548 := eq_true q548
        have ea_ := Option.some.inj (hx547_0.symm.trans hx548_0)
        injection ea_ with ea_ en_ ec_
        subst ea_
        subst ec_
        clear en_
        go_wp2_with (first | (go_at_call 52; (with_reducible refine (y_v.calls k1 _ _ ((rd_T39 l0 x3_1).f0) true _ ?side1 ?side2 A5.out).mono ?_); (case side1 => repeat (first | exact (Kd.C_below HR548_0.out HB.out) | (with_reducible refine Kd.C_alloc ?_ _) | (with_reducible refine Kd.C_drewN ?_ _) | (with_reducible refine Kd.C_drew ?_))); (case side2 => exact HC548_0.out); rintro e w9 ⟨rfl, hb⟩; have n0_ := z11a (below_step (by repeat (first | (with_reducible first | exact HB.out | apply z11d | apply z11b | apply z11c) | exact HB.out)) hb); clear HB; have HB := n0_; clear n0_; (try clear hb); (try clear hb2); (try clear hk); (try clear hi); have p550 : 0 ≤ (x3_1 : Int) := z11g (by first | (with_reducible assumption) | assumption); have q550 : x3_1 < (l0.length : Int) := z11g (by first | (with_reducible assumption) | assumption); obtain ⟨ad550, A550_0, c550_0, e550, hx550_0, hl550_0, hi550_0⟩ := at_T39 HR0.out x3_1 p550 q550; obtain rfl : ad547 = ad550 := (by injection e550); replace hx550_0 := (HB.out.cell (z11e w _ hx550_0)).trans hx550_0; have HR550_0 := z11a hi550_0; have HC550_0 := z11a hl550_0; clear hi550_0 hl550_0; replace p550 := eq_true p550; replace q550 := eq_true q550) | (go_at_call 93; (with_reducible refine (y_y.calls k1 _ _ ((rd_T39 l0 x3_1).f0) true _ ?side1 ?side2 A7.out).mono ?_); (case side1 => repeat (first | exact (Kd.C_below HR550_0.out HB.out) | (with_reducible refine Kd.C_alloc ?_ _) | (with_reducible refine Kd.C_drewN ?_ _) | (with_reducible refine Kd.C_drew ?_))); (case side2 => exact HC550_0.out); rintro e w10 ⟨rfl, hb⟩; have n0_ := z11a (below_step (by repeat (first | (with_reducible first | exact HB.out | apply z11d | apply z11b | apply z11c) | exact HB.out)) hb); clear HB; have HB := n0_; clear n0_; (try clear hb); (try clear hb2); (try clear hk); (try clear hi)))
        go_roundg k1
        case measure => have := HK1.out; omega
        case rel => exact ⟨(wrap64 (x3_1 + 1)), (by first | rfl | (simp; done) | (simp [*]; done)), H', ⟨by have := HK1.out; omega⟩, ⟨by repeat (first | (with_reducible first | exact HB.out | apply z11d | apply z11b | apply z11c) | exact HB.out)⟩⟩
       ·replace c8 := Bool.eq_false_iff.mpr c8
        subst c8
        have H1 : (some false) = some r := by rw [if_neg (show ¬ (false = true) by decide)] at H; exact H
        clear H
        have H := H1
        clear H1
        obtain rfl := Option.some.inj H
        have p547 : 0 ≤ (x3_1 : Int) := z11g (by first | (with_reducible assumption) | assumption)
        have q547 : x3_1 < (l0.length : Int) := z11g (by first | (with_reducible assumption) | assumption)
        obtain ⟨ad547, A547_0, c547_0, e547, hx547_0, hl547_0, hi547_0⟩ := at_T39 HR0.out x3_1 p547 q547
        cases e547
        replace hx547_0 := (HB.out.cell (z11e w _ hx547_0)).trans hx547_0
        have HR547_0 := z11a hi547_0
        have HC547_0 := z11a hl547_0
        clear hi547_0 hl547_0
        replace p547 := eq_true p547
        replace q547 := eq_true q547
        have p548 : 0 ≤ (x3_1 : Int) := z11g (by first | (with_reducible assumption) | assumption)
        have q548 : x3_1 < (l0.length : Int) := z11g (by first | (with_reducible assumption) | assumption)
        obtain ⟨ad548, A548_0, c548_0, e548, hx548_0, hl548_0, hi548_0⟩ := at_T39 HR0.out x3_1 p548 q548
        obtain rfl : ad547 = ad548 := (by injection e548)
        replace hx548_0 := (HB.out.cell (z11e w _ hx548_0)).trans hx548_0
        have HR548_0 := z11a hi548_0
        have HC548_0 := z11a hl548_0
        clear hi548_0 hl548_0
        replace p548 := eq_true p548
        replace q548 := eq_true q548
        have ea_ := Option.some.inj (hx547_0.symm.trans hx548_0)
        injection ea_ with ea_ en_ ec_
        subst ea_
        subst ec_
        clear en_
        go_wp2_with (first | (go_at_call 52; (with_reducible refine (y_v.calls k1 _ _ ((rd_T39 l0 x3_1).f0) true _ ?side1 ?side2 A5.out).mono ?_); (case side1 => repeat (first | exact (Kd.C_below HR548_0.out HB.out) | (with_reducible refine Kd.C_alloc ?_ _) | (with_reducible refine Kd.C_drewN ?_ _) | (with_reducible refine Kd.C_drew ?_))); (case side2 => exact HC548_0.out); rintro e w11 ⟨rfl, hb⟩; have n0_ := z11a (below_step (by repeat (first | (with_reducible first | exact HB.out | apply z11d | apply z11b | apply z11c) | exact HB.out)) hb); clear HB; have HB := n0_; clear n0_; (try clear hb); (try clear hb2); (try clear hk); (try clear hi); have p550 : 0 ≤ (x3_1 : Int) := z11g (by first | (with_reducible assumption) | assumption); have q550 : x3_1 < (l0.length : Int) := z11g (by first | (with_reducible assumption) | assumption); obtain ⟨ad550, A550_0, c550_0, e550, hx550_0, hl550_0, hi550_0⟩ := at_T39 HR0.out x3_1 p550 q550; obtain rfl : ad547 = ad550 := (by injection e550); replace hx550_0 := (HB.out.cell (z11e w _ hx550_0)).trans hx550_0; have HR550_0 := z11a hi550_0; have HC550_0 := z11a hl550_0; clear hi550_0 hl550_0; replace p550 := eq_true p550; replace q550 := eq_true q550) | (go_at_call 93; (with_reducible refine (y_y.calls k1 _ _ ((rd_T39 l0 x3_1).f0) false _ ?side1 ?side2 A7.out).mono ?_); (case side1 => repeat (first | exact (Kd.C_below HR550_0.out HB.out) | (with_reducible refine Kd.C_alloc ?_ _) | (with_reducible refine Kd.C_drewN ?_ _) | (with_reducible refine Kd.C_drew ?_))); (case side2 => exact HC550_0.out); rintro e w12 ⟨rfl, hb⟩; have n0_ := z11a (below_step (by repeat (first | (with_reducible first | exact HB.out | apply z11d | apply z11b | apply z11c) | exact HB.out)) hb); clear HB; have HB := n0_; clear n0_; (try clear hb); (try clear hb2); (try clear hk); (try clear hi)))
        go_ret
        exact ⟨by first | rfl | (simp [errW_none, errW_some] <;> rfl) | (simp [*, errW_none, errW_some] <;> rfl), by repeat (first | (with_reducible first | exact HB.out | apply z11d | apply z11b | apply z11c) | exact HB.out)⟩
      ·replace c6 := Bool.eq_false_iff.mpr c6
       subst c6
       have H1 : (some false) = some r := by rw [if_neg (show ¬ (false = true) by decide)] at H; exact H
       clear H
       have H := H1
       clear H1
       obtain rfl := Option.some.inj H
       have p547 : 0 ≤ (x3_1 : Int) := z11g (by first | (with_reducible assumption) | assumption)
       have q547 : x3_1 < (l0.length : Int) := z11g (by first | (with_reducible assumption) | assumption)
       obtain ⟨ad547, A547_0, c547_0, e547, hx547_0, hl547_0, hi547_0⟩ := at_T39 HR0.out x3_1 p547 q547
       cases e547
       replace hx547_0 := (HB.out.cell (z11e w _ hx547_0)).trans hx547_0
       have HR547_0 := z11a hi547_0
       have HC547_0 := z11a hl547_0
       clear hi547_0 hl547_0
       replace p547 := eq_true p547
       replace q547 := eq_true q547
       have p548 : 0 ≤ (x3_1 : Int) := z11g (by first | (with_reducible assumption) | assumption)
       have q548 : x3_1 < (l0.length : Int) := z11g (by first | (with_reducible assumption) | assumption)
       obtain ⟨ad548, A548_0, c548_0, e548, hx548_0, hl548_0, hi548_0⟩ := at_T39 HR0.out x3_1 p548 q548
       obtain rfl : ad547 = ad548 := (by injection e548)
       replace hx548_0 := (HB.out.cell (z11e w _ hx548_0)).trans hx548_0
       have HR548_0 := z11a hi548_0
       have HC548_0 := z11a hl548_0
       clear hi548_0 hl548_0
       replace p548 := eq_true p548
       replace q548 := eq_true q548
       have ea_ := Option.some.inj (hx547_0.symm.trans hx548_0)
       injection ea_ with ea_ en_ ec_
       subst ea_
       subst ec_
       clear en_
       go_wp2_with (first | (go_at_call 52; (with_reducible refine (y_v.calls k1 _ _ ((rd_T39 l0 x3_1).f0) false _ ?side1 ?side2 A5.out).mono ?_); (case side1 => repeat (first | exact (Kd.C_below HR548_0.out HB.out) | (with_reducible refine Kd.C_alloc ?_ _) | (with_reducible refine Kd.C_drewN ?_ _) | (with_reducible refine Kd.C_drew ?_))); (case side2 => exact HC548_0.out); rintro e w13 ⟨rfl, hb⟩; have n0_ := z11a (below_step (by repeat (first | (with_reducible first | exact HB.out | apply z11d | apply z11b | apply z11c) | exact HB.out)) hb); clear HB; have HB := n0_; clear n0_; (try clear hb); (try clear hb2); (try clear hk); (try clear hi)))
       go_ret
       exact ⟨by first | rfl | (simp [errW_none, errW_some] <;> rfl) | (simp [*, errW_none, errW_some] <;> rfl), by repeat (first | (with_reducible first | exact HB.out | apply z11d | apply z11b | apply z11c) | exact HB.out)⟩
    ·rw [if_neg c3] at H
     exact absurd H (by simp)
   ·rw [if_neg c2] at H
    have c2b0 : decide (x3_1 < (l0.length : Int)) = false := decide_eq_false c2
    clear c2
    obtain rfl := Option.some.inj H
    go_wp2
    go_ret
    exact ⟨by first | rfl | (simp [errW_none, errW_some] <;> rfl) | (simp [*, errW_none, errW_some] <;> rfl), by repeat (first | (with_reducible first | exact HB.out | apply z11d | apply z11b | apply z11c) | exact HB.out)⟩
def y_kb.l0 : Nat → ByteArray → ByteArray → List ByteArray → Int → Int → Option (ByteArray)
 | 0, _, _, _, _, _ => none
 | k + 1, x1, x5, x8, x9, x10 => if x10 < x9 then (if 0 ≤ x10 then (if x10 < (x8.length : Int) then (if x10 > 0 then (if x5.size + x1.size ≤ 9223372036854775807 then (if (x5 ++ x1).size + (rdOf ByteArray.empty x8 x10).size ≤ 9223372036854775807 then (y_kb.l0 k x1 ((x5 ++ x1) ++ (rdOf ByteArray.empty x8 x10)) x8 x9 (wrap64 (x10 + 1))) else (none)) else (none)) else (if x5.size + (rdOf ByteArray.empty x8 x10).size ≤ 9223372036854775807 then (y_kb.l0 k x1 (x5 ++ (rdOf ByteArray.empty x8 x10)) x8 x9 (wrap64 (x10 + 1))) else (none))) else (none)) else (none)) else (some x5)
def y_kb.f (k : Nat) (l0 : List ByteArray) (a1 : ByteArray) : Option (ByteArray) := y_kb.l0 k a1 (⟨#[]⟩ : ByteArray) l0 (l0.length : Int) 0
theorem y_kb.calls (k : Nat) (A0 : Option Addr) (c0 : Nat) (l0 : List ByteArray) (a1 : ByteArray) (r : ByteArray) (w : World) (hr0 : Kd.C Kd.string w A0 l0.length l0) (hc0 : l0.length ≤ c0) (h : y_kb.f k l0 a1 = some r) :
  Calls Try.prog 120 #[.slice A0 l0.length c0, .string a1] w fun e w' => e = .returned (.string r) ∧ Drawn0 w w' := by
 have HR0 := z11a hr0
 have HC0 := z11a hc0
 clear hr0 hc0
 have H : (y_kb.l0 k a1 (⟨#[]⟩ : ByteArray) l0 (l0.length : Int) 0) = some r := h
 clear h
 have H' := z11a H
 clear H
 go_enter Try.func120, Try.ntmps120
 go_wp2
 go_loopg [5, 10] k (fun kq v5 v10 w' => ∃ (x5_1 : ByteArray) (x10_1 : Int), v5 = .string x5_1 ∧ v10 = .int .i64 x10_1 ∧ Aside0 (y_kb.l0 kq a1 x5_1 l0 (l0.length : Int) x10_1 = some r) ∧ Aside0 (kq ≤ k) ∧ Drawn0 w w')
 case atStart => exact ⟨((⟨#[]⟩ : ByteArray)), (0), (by first | rfl | (simp; done) | (simp [*]; done)), (by first | rfl | (simp; done) | (simp [*]; done)), H', ⟨Nat.le_refl _⟩, by repeat (first | exact Drawn0.refl _ | apply Drawn0.step)⟩
 case round =>
  clear H'
  try clear c1
  try clear p2
  obtain ⟨x5_1, x10_1, rfl, rfl, HA, HK1, ⟨m1, rfl⟩⟩ := hrel
  cases gk with
  | zero => exact absurd HA.out (by simp [y_kb.l0])
  | succ k1 =>
   have H := HA.out
   clear HA
   simp only [y_kb.l0] at H
   by_cases c3 : x10_1 < (l0.length : Int)
   ·rw [if_pos c3] at H
    have c3b0 : decide (x10_1 < (l0.length : Int)) = true := z11h c3
    clear c3
    by_cases c4 : 0 ≤ x10_1
    ·rw [if_pos c4] at H
     have c4b0 : decide (0 ≤ x10_1) = true := z11h c4
     clear c4
     by_cases c5 : x10_1 < (l0.length : Int)
     ·rw [if_pos c5] at H
      have c5b0 : decide (x10_1 < (l0.length : Int)) = true := z11h c5
      clear c5
      by_cases c6 : x10_1 > 0
      ·rw [if_pos c6] at H
       have c6b0 : decide (0 < x10_1) = true := z11h c6
       clear c6
       by_cases c7 : x5_1.size + a1.size ≤ 9223372036854775807
       ·rw [if_pos c7] at H
        have c7b0 := eq_true c7
        have c7b1 : decide (x5_1.size + a1.size ≤ 9223372036854775807) = true := z11h c7
        try have c7b2 : (9223372036854775807 < x5_1.size + a1.size) = False := eq_false (Nat.not_lt.2 c7)
        by_cases c8 : (x5_1 ++ a1).size + (rdOf ByteArray.empty l0 x10_1).size ≤ 9223372036854775807
        ·rw [if_pos c8] at H
         have c8b0 := eq_true c8
         have c8b1 : decide ((x5_1 ++ a1).size + (rdOf ByteArray.empty l0 x10_1).size ≤ 9223372036854775807) = true := z11h c8
         try have c8b2 : (9223372036854775807 < (x5_1 ++ a1).size + (rdOf ByteArray.empty l0 x10_1).size) = False := eq_false (Nat.not_lt.2 c8)
         try have c8b3 : (9223372036854775807 < x5_1.size + a1.size + (rdOf ByteArray.empty l0 x10_1).size) = False := eq_false (by have h_ := c8; simp only [ByteArray.size_append, show ∀ b_ : UInt8, (⟨#[b_]⟩ : ByteArray).size = 1 from fun _ => rfl] at h_; omega)
         have H' := z11a H
         clear H
         have p552 : 0 ≤ (x10_1 : Int) := z11g (by first | (with_reducible assumption) | assumption)
         have q552 : x10_1 < (l0.length : Int) := z11g (by first | (with_reducible assumption) | assumption)
         obtain ⟨ad552, e552, hx552_0⟩ := Kd.at_string HR0.out x10_1 p552 q552
         cases e552
         replace p552 := eq_true p552
         replace q552 := eq_true q552
         go_wp2
         go_roundg k1
         case measure => have := HK1.out; omega
         case rel => exact ⟨((x5_1 ++ a1) ++ (rdOf ByteArray.empty l0 x10_1)), (wrap64 (x10_1 + 1)), (by first | rfl | (simp; done) | (simp [*]; done)), (by first | rfl | (simp; done) | (simp [*]; done)), H', ⟨by have := HK1.out; omega⟩, by repeat (first | exact Drawn0.refl _ | apply Drawn0.step)⟩
        ·rw [if_neg c8] at H
         exact absurd H (by simp)
       ·rw [if_neg c7] at H
        exact absurd H (by simp)
      ·rw [if_neg c6] at H
       have c6b0 : decide (0 < x10_1) = false := decide_eq_false c6
       clear c6
       by_cases c9 : x5_1.size + (rdOf ByteArray.empty l0 x10_1).size ≤ 9223372036854775807
       ·rw [if_pos c9] at H
        have c9b0 := eq_true c9
        have c9b1 : decide (x5_1.size + (rdOf ByteArray.empty l0 x10_1).size ≤ 9223372036854775807) = true := z11h c9
        try have c9b2 : (9223372036854775807 < x5_1.size + (rdOf ByteArray.empty l0 x10_1).size) = False := eq_false (Nat.not_lt.2 c9)
        have H' := z11a H
        clear H
        have p552 : 0 ≤ (x10_1 : Int) := z11g (by first | (with_reducible assumption) | assumption)
        have q552 : x10_1 < (l0.length : Int) := z11g (by first | (with_reducible assumption) | assumption)
        obtain ⟨ad552, e552, hx552_0⟩ := Kd.at_string HR0.out x10_1 p552 q552
        cases e552
        replace p552 := eq_true p552
        replace q552 := eq_true q552
        go_wp2
        go_roundg k1
        case measure => have := HK1.out; omega
        case rel => exact ⟨(x5_1 ++ (rdOf ByteArray.empty l0 x10_1)), (wrap64 (x10_1 + 1)), (by first | rfl | (simp; done) | (simp [*]; done)), (by first | rfl | (simp; done) | (simp [*]; done)), H', ⟨by have := HK1.out; omega⟩, by repeat (first | exact Drawn0.refl _ | apply Drawn0.step)⟩
       ·rw [if_neg c9] at H
        exact absurd H (by simp)
     ·rw [if_neg c5] at H
      exact absurd H (by simp)
    ·rw [if_neg c4] at H
     exact absurd H (by simp)
   ·rw [if_neg c3] at H
    have c3b0 : decide (x10_1 < (l0.length : Int)) = false := decide_eq_false c3
    clear c3
    obtain rfl := Option.some.inj H
    go_wp2
    go_ret
    exact ⟨by first | rfl | (simp; done) | (simp [*]; done), by repeat (first | exact Drawn0.refl _ | apply Drawn0.step)⟩
def y_cb.f : Nat → Int → Option (ByteArray)
 | 0, _ => none
 | k + 1, a0 => if a0 < 10 then (some (strOfNums (([(IntKind.u64.wrap (48 + a0)) % 256] : List Int)))) else ((y_cb.f k (IntKind.u64.wrap (Int.tdiv a0 10))).bind fun t556 => ((some (([(IntKind.u64.wrap (48 + (Int.tmod a0 10))) % 256] : List Int) : List Int)).bind fun y557 => (if t556.size + (strOfNums y557).size ≤ 9223372036854775807 then (some (t556 ++ (strOfNums y557))) else (none))))
def y_cb.T3 : Bool × List (List Nat × List Nat) := (true, [([], []), ([0], [0]), ([1], [1]), ([], []), ([3], [3]), ([4], [4]), ([5], [5]), ([6], [6]), ([7], [7]), ([2, 8], [2, 8]), ([9, 2, 0, 1, 2, 3, 4, 5, 6, 7, 8, 9], [9])])
def y_cb.B3 : List Nat := [0, 1, 3, 0, 8, 24, 56, 120, 248, 511, 1023]
theorem y_cb.tab3 : rtab .any (opsOf Try.f168 3) = y_cb.T3 := by kernel_rfl
theorem y_cb.bits3 : waitsOk y_cb.T3.2 y_cb.B3 = true := by kernel_rfl
theorem y_cb.calls (k : Nat) : ∀ (a0 : Int) (r : ByteArray) (w : World) (h : y_cb.f k a0 = some r),
  Calls Try.prog 168 #[.int .u64 a0] w fun e w' => e = .returned (.string r) ∧ Below w.heap.size w w' := by
 induction k using Nat.strongRecOn with
 | _ k ih =>
 intro a0 r w h
 cases k with
 | zero => exact absurd h (by simp [y_cb.f])
 | succ k =>
 simp only [y_cb.f] at h
 have HB := z11a (Below.refl w.heap.size w)
 have H : (if a0 < 10 then (some (strOfNums (([(IntKind.u64.wrap (48 + a0)) % 256] : List Int)))) else ((y_cb.f k (IntKind.u64.wrap (Int.tdiv a0 10))).bind fun t556 => ((some (([(IntKind.u64.wrap (48 + (Int.tmod a0 10))) % 256] : List Int) : List Int)).bind fun y557 => (if t556.size + (strOfNums y557).size ≤ 9223372036854775807 then (some (t556 ++ (strOfNums y557))) else (none))))) = some r := h
 clear h
 by_cases c2 : a0 < 10
 ·rw [if_pos c2] at H
  have c2b0 : decide (a0 < 10) = true := z11h c2
  clear c2
  obtain ⟨y553, hy553⟩ : ∃ y_ : List Int, y_ = (([(IntKind.u64.wrap (48 + a0)) % 256] : List Int)) := ⟨_, rfl⟩
  replace H : (some (strOfNums y553)) = some r := by first | (rw [hy553]; with_reducible exact H) | (have H2_ := (Option.bind_some _ _).symm.trans H; rw [hy553]; with_reducible exact H2_) | (have H2_ := (Option.bind_some _ _).symm.trans H; with_reducible exact H2_) | with_reducible exact H | (rw [hy553]; exact H) | exact H
  have Ny553 := z11a hy553
  clear hy553
  obtain rfl := Option.some.inj H
  go_enter Try.func168, Try.ntmps168
  go_wp2_with (first | ((with_reducible refine gate_dst (N := 8) rfl ?_); refine Kd.R_lit (Kd.int .u8) _ 5 ?hg (N := 8) ?hd (xs := ([(IntKind.u64.wrap (48 + a0)) % 256] : List Int)) (inner := [.int .u8 ((IntKind.u64.wrap (48 + a0)) % 256)]) (ok := fun _ => True) (okp := fun _ => True) ?hr ?hp (fun _ hk => hk) trivial (Below.refl _ _) (Nat.le_refl _) (by simp) ?_; (case hd => rfl); (case hg => rfl); (case hr => first | (go_simp; done) | (go_simp; rfl)); (case hp => exact (Reps.one (show Kd.M (Kd.int .u8) _ _ _ ((IntKind.u64.wrap (48 + a0)) % 256) [.int .u8 ((IntKind.u64.wrap (48 + a0)) % 256)] from rfl) (Reps.none _ _))); intro v554 w3 ho4 hb hg_ hnew_; clear hg_ hnew_; (first | rw [← Ny553.out] at ho4 | (simp only [Int.reduceToNat] at ho4; rw [← Ny553.out] at ho4)); have n0_ := z11a (Kd.R_lower ho4 (below_size (by repeat (first | (with_reducible first | exact HB.out | apply z11d | apply z11b | apply z11c) | exact HB.out)))); have n1_ := z11a (below_step (by repeat (first | (with_reducible first | exact HB.out | apply z11d | apply z11b | apply z11c) | exact HB.out)) hb); clear HB; have HO555 := n0_; have HB := n1_; clear n0_ n1_; clear hb ho4; have hcv5 := own_string (P := Try.prog) Try.underlying22 Try.underlying5 Try.underlying9 (Kd.own_of_R HO555.out)))
  go_ret
  exact ⟨by first | rfl | (simp [errW_none, errW_some] <;> rfl) | (simp [*, errW_none, errW_some] <;> rfl), by repeat (first | (with_reducible first | exact HB.out | apply z11d | apply z11b | apply z11c) | exact HB.out)⟩
 ·rw [if_neg c2] at H
  have c2b0 : decide (a0 < 10) = false := decide_eq_false c2
  clear c2
  replace H := z11f.mp H
  obtain ⟨t556, A60, H⟩ := H
  have A6 := z11a A60
  clear A60
  obtain ⟨y557, hy557⟩ : ∃ y_ : List Int, y_ = (([(IntKind.u64.wrap (48 + (Int.tmod a0 10))) % 256] : List Int)) := ⟨_, rfl⟩
  replace H : (if t556.size + (strOfNums y557).size ≤ 9223372036854775807 then (some (t556 ++ (strOfNums y557))) else (none)) = some r := by first | (rw [hy557]; with_reducible exact H) | (have H2_ := (Option.bind_some _ _).symm.trans H; rw [hy557]; with_reducible exact H2_) | (have H2_ := (Option.bind_some _ _).symm.trans H; with_reducible exact H2_) | with_reducible exact H | (rw [hy557]; exact H) | exact H
  have Ny557 := z11a hy557
  clear hy557
  by_cases c7 : t556.size + (strOfNums y557).size ≤ 9223372036854775807
  ·rw [if_pos c7] at H
   have c7b0 := eq_true c7
   have c7b1 : decide (t556.size + (strOfNums y557).size ≤ 9223372036854775807) = true := z11h c7
   try have c7b2 : (9223372036854775807 < t556.size + (strOfNums y557).size) = False := eq_false (Nat.not_lt.2 c7)
   obtain rfl := Option.some.inj H
   go_enter Try.func168, Try.ntmps168
   try go_wp2
   have n0_ := z11a (z11c HB.out)
   clear HB
   have HB := n0_
   clear n0_
   refine start_ (n := 11) (S := fun w' => True) (ds := []) zq11_2 (by kernel_rfl) rfl rfl trivial (fun hHeld => ?_); refine with_tabW y_cb.tab3 y_cb.bits3 (fun HT_ HW_ => ?_)
   generalize w.drew = w8 at HB hHeld ⊢
   refine pure_ (i := 0) (N := some 10) (v := ?_) (a' := ?_) zq11_3 rfl rfl (any_of HT_.out (by kernel_rfl)) (fun _ _ _ h => h) (Or.inl ⟨by rfl, ?_⟩) ?_ ?_
   rotate_left
   ·intro w'
    go_simp
    with_reducible rfl
   rotate_left
   ·simp only [Act.put, zp11a, zp11b, zp11c, i64_w, i32_w]
    rfl
   refine pure_ (i := 1) (N := some 11) (v := ?_) (a' := ?_) zq11_4 rfl rfl (any_of HT_.out (by kernel_rfl)) (fun _ _ _ h => h) (Or.inl ⟨by rfl, ?_⟩) ?_ ?_
   rotate_left
   ·intro w'
    go_simp
    with_reducible rfl
   rotate_left
   ·simp only [Act.put, zp11a, zp11b, zp11c, i64_w, i32_w]
    rfl
   refine pure_ (i := 3) (N := some 13) (v := ?_) (a' := ?_) #[zt11,zt11,zf11,zt11,zf11,zf11,zf11,zf11,zf11,zf11,zf11] rfl rfl (any_of HT_.out (by kernel_rfl)) (fun _ _ _ h => h) (Or.inl ⟨by rfl, ?_⟩) ?_ ?_
   rotate_left
   ·intro w'
    go_simp
    with_reducible rfl
   rotate_left
   ·simp only [Act.put, zp11a, zp11b, zp11c, i64_w, i32_w]
    rfl
   refine pure_ (i := 4) (N := some 14) (v := ?_) (a' := ?_) #[zt11,zt11,zf11,zt11,zt11,zf11,zf11,zf11,zf11,zf11,zf11] rfl rfl (any_of HT_.out (by kernel_rfl)) (fun _ _ _ h => h) (Or.inl ⟨by rfl, ?_⟩) ?_ ?_
   rotate_left
   ·intro w'
    go_simp
    with_reducible rfl
   rotate_left
   ·simp only [Act.put, zp11a, zp11b, zp11c, i64_w, i32_w]
    rfl
   refine pure_ (i := 5) (N := some 15) (v := ?_) (a' := ?_) #[zt11,zt11,zf11,zt11,zt11,zt11,zf11,zf11,zf11,zf11,zf11] rfl rfl (any_of HT_.out (by kernel_rfl)) (fun _ _ _ h => h) (Or.inl ⟨by rfl, ?_⟩) ?_ ?_
   rotate_left
   ·intro w'
    go_simp
    with_reducible rfl
   rotate_left
   ·simp only [Act.put, zp11a, zp11b, zp11c, i64_w, i32_w]
    rfl
   refine pure_ (i := 6) (N := some 16) (v := ?_) (a' := ?_) #[zt11,zt11,zf11,zt11,zt11,zt11,zt11,zf11,zf11,zf11,zf11] rfl rfl (any_of HT_.out (by kernel_rfl)) (fun _ _ _ h => h) (Or.inl ⟨by rfl, ?_⟩) ?_ ?_
   rotate_left
   ·intro w'
    go_simp
    with_reducible rfl
   rotate_left
   ·simp only [Act.put, zp11a, zp11b, zp11c, i64_w, i32_w]
    rfl
   refine join_ (σ := Value) 2 zq11_0 (fun s_ => [(12, .string t556), (17, s_), (18, .string (strOfNums y557))]) (fun s_ w' => (Kd.R (Kd.int .u8) 5 w' w.heap.size (fun _ => True) s_ y557) ∧ (Below w.heap.size w w')) ?_ ?_
   rotate_left
   ·intro hCont
    refine two_ (i := 2) (j := 7) (Ni := some 12) (Nj := some 17) #[zt11,zt11,zt11,zt11,zt11,zt11,zt11,zf11,zf11,zf11,zf11] #[zt11,zt11,zf11,zt11,zt11,zt11,zt11,zt11,zf11,zf11,zf11] rfl rfl rfl rfl (two_of HT_.out (by kernel_rfl)) (by decide) (by decide) (fun K hK => ?_) (fun K hK => ?_)
    ·skip
     refine goes_ Try.func168 (by kernel_rfl) rfl #[.int .u64 (IntKind.u64.wrap (Int.tdiv a0 10))] (by rfl) rfl rfl (by (try simp only [zm11a, zm11b, zm11c]); first | done | rfl | (simp only [zm11d, zm11e]; rfl)) ?_
     with_reducible refine (ih k (by omega) (IntKind.u64.wrap (Int.tdiv a0 10)) t556 _ A6.out).mono ?_
     rintro e w9 ⟨rfl, hb⟩
     refine ⟨_, rfl, ?_⟩
     have n0_ := z11a (below_step (by repeat (first | (with_reducible first | exact HB.out | apply z11d | apply z11b | apply z11c) | exact HB.out)) hb)
     clear HB
     have HB := n0_
     clear n0_
     (try clear hb)
     (try clear hb2)
     (try clear hk)
     (try clear hi)
     refine hK.out _ _ trivial (fun hHeld => ?_)
     clear hK K
     refine norm_ (a' := ?_) ?_ ?_
     rotate_left
     ·show Act.put _ (some 12) _ = _
      simp only [Act.put, zp11a, zp11b, zp11c, i64_w, i32_w]
      rfl
     refine one_ (i := 7) (N := some 17) zq11_1 rfl rfl (one_of HT_.out (by kernel_rfl)) (by decide) (fun K hK => ?_)
     refine Kd.R_lit_step (Kd.int .u8) _ 5 ?hg (N := 17) ?hd (xs := ([(IntKind.u64.wrap (48 + (Int.tmod a0 10))) % 256] : List Int)) (inner := [.int .u8 ((IntKind.u64.wrap (48 + (Int.tmod a0 10))) % 256)]) (ok := fun _ => True) (okp := fun _ => True) ?hr ?hp (fun _ hk => hk) trivial (Below.refl _ _) (Nat.le_refl _) (by simp) ?_; (case hd => rfl); (case hg => rfl); (case hr => first | (go_simp; done) | (go_simp; rfl)); (case hp => exact (Reps.one (show Kd.M (Kd.int .u8) _ _ _ ((IntKind.u64.wrap (48 + (Int.tmod a0 10))) % 256) [.int .u8 ((IntKind.u64.wrap (48 + (Int.tmod a0 10))) % 256)] from rfl) (Reps.none _ _)))
     intro v558 w10 ho11 hb hg_ hnew_
     clear hg_ hnew_
     (first | rw [← Ny557.out] at ho11 | (simp only [Int.reduceToNat] at ho11; rw [← Ny557.out] at ho11))
     have n0_ := z11a (Kd.R_lower ho11 (below_size (by repeat (first | (with_reducible first | exact HB.out | apply z11d | apply z11b | apply z11c) | exact HB.out))))
     have n1_ := z11a (below_step (by repeat (first | (with_reducible first | exact HB.out | apply z11d | apply z11b | apply z11c) | exact HB.out)) hb)
     clear HB
     have HO559 := n0_
     have HB := n1_
     clear n0_ n1_
     clear hb ho11
     refine hK.out _ _ trivial (fun hHeld => ?_)
     clear hK K
     refine norm_ (a' := ?_) ?_ ?_
     rotate_left
     ·show Act.put _ (some 17) _ = _
      simp only [Act.put, zp11a, zp11b, zp11c, i64_w, i32_w]
      rfl
     refine one_ (i := 8) (N := some 18) zq11_0 rfl rfl (one_of HT_.out (by kernel_rfl)) (by decide) (fun K hK => ?_)
     have hcv12 := own_string (P := Try.prog) Try.underlying22 Try.underlying5 Try.underlying9 (Kd.own_of_R HO559.out)
     refine value_ (w1 := ?_) (v := ?_) (by rfl) rfl ?_ ?_
     rotate_left 2
     ·go_simp
      constructor
      ·rfl
      ·rfl
     clear hcv12
     refine hK.out _ _ trivial (fun hHeld => ?_)
     clear hK K
     refine norm_ (a' := ?_) ?_ ?_
     rotate_left
     ·show Act.put _ (some 18) _ = _
      simp only [Act.put, zp11a, zp11b, zp11c, i64_w, i32_w]
      rfl
     exact norm_ (by simp only [putAll, Act.put, zp11a, zp11b, zp11c]) (hCont (v558) _ ⟨(by (with_reducible repeat (first | apply Kd.R_alloc | apply Kd.R_drewN | apply Kd.R_drew)); exact HO559.out), (by repeat (first | (with_reducible first | exact HB.out | apply z11d | apply z11b | apply z11c) | exact HB.out))⟩)
    ·skip
     refine Kd.R_lit_step (Kd.int .u8) _ 5 ?hg (N := 17) ?hd (xs := ([(IntKind.u64.wrap (48 + (Int.tmod a0 10))) % 256] : List Int)) (inner := [.int .u8 ((IntKind.u64.wrap (48 + (Int.tmod a0 10))) % 256)]) (ok := fun _ => True) (okp := fun _ => True) ?hr ?hp (fun _ hk => hk) trivial (Below.refl _ _) (Nat.le_refl _) (by simp) ?_; (case hd => rfl); (case hg => rfl); (case hr => first | (go_simp; done) | (go_simp; rfl)); (case hp => exact (Reps.one (show Kd.M (Kd.int .u8) _ _ _ ((IntKind.u64.wrap (48 + (Int.tmod a0 10))) % 256) [.int .u8 ((IntKind.u64.wrap (48 + (Int.tmod a0 10))) % 256)] from rfl) (Reps.none _ _)))
     intro v558 w9 ho10 hb hg_ hnew_
     clear hg_ hnew_
     (first | rw [← Ny557.out] at ho10 | (simp only [Int.reduceToNat] at ho10; rw [← Ny557.out] at ho10))
     have n0_ := z11a (Kd.R_lower ho10 (below_size (by repeat (first | (with_reducible first | exact HB.out | apply z11d | apply z11b | apply z11c) | exact HB.out))))
     have n1_ := z11a (below_step (by repeat (first | (with_reducible first | exact HB.out | apply z11d | apply z11b | apply z11c) | exact HB.out)) hb)
     clear HB
     have HO559 := n0_
     have HB := n1_
     clear n0_ n1_
     clear hb ho10
     refine hK.out _ _ trivial (fun hHeld => ?_)
     clear hK K
     refine norm_ (a' := ?_) ?_ ?_
     rotate_left
     ·show Act.put _ (some 17) _ = _
      simp only [Act.put, zp11a, zp11b, zp11c, i64_w, i32_w]
      rfl
     refine two_ (i := 2) (j := 8) (Ni := some 12) (Nj := some 18) zq11_1 #[zt11,zt11,zf11,zt11,zt11,zt11,zt11,zt11,zt11,zf11,zf11] rfl rfl rfl rfl (two_of HT_.out (by kernel_rfl)) (by decide) (by decide) (fun K hK => ?_) (fun K hK => ?_)
     ·skip
      refine goes_ Try.func168 (by kernel_rfl) rfl #[.int .u64 (IntKind.u64.wrap (Int.tdiv a0 10))] (by rfl) rfl rfl (by (try simp only [zm11a, zm11b, zm11c]); first | done | rfl | (simp only [zm11d, zm11e]; rfl)) ?_
      with_reducible refine (ih k (by omega) (IntKind.u64.wrap (Int.tdiv a0 10)) t556 _ A6.out).mono ?_
      rintro e w11 ⟨rfl, hb⟩
      refine ⟨_, rfl, ?_⟩
      have n0_ := z11a (Kd.R_below (by (with_reducible repeat (first | apply Kd.R_alloc | apply Kd.R_drewN | apply Kd.R_drew)); exact HO559.out) hb)
      have n1_ := z11a (below_step (by repeat (first | (with_reducible first | exact HB.out | apply z11d | apply z11b | apply z11c) | exact HB.out)) hb)
      clear HO559
      clear HB
      have HO559 := n0_
      have HB := n1_
      clear n0_ n1_
      (try clear hb)
      (try clear hb2)
      (try clear hk)
      (try clear hi)
      refine hK.out _ _ trivial (fun hHeld => ?_)
      clear hK K
      refine norm_ (a' := ?_) ?_ ?_
      rotate_left
      ·show Act.put _ (some 12) _ = _
       simp only [Act.put, zp11a, zp11b, zp11c, i64_w, i32_w]
       rfl
      refine one_ (i := 8) (N := some 18) zq11_0 rfl rfl (one_of HT_.out (by kernel_rfl)) (by decide) (fun K hK => ?_)
      have hcv12 := own_string (P := Try.prog) Try.underlying22 Try.underlying5 Try.underlying9 (Kd.own_of_R HO559.out)
      refine value_ (w1 := ?_) (v := ?_) (by rfl) rfl ?_ ?_
      rotate_left 2
      ·go_simp
       constructor
       ·rfl
       ·rfl
      clear hcv12
      refine hK.out _ _ trivial (fun hHeld => ?_)
      clear hK K
      refine norm_ (a' := ?_) ?_ ?_
      rotate_left
      ·show Act.put _ (some 18) _ = _
       simp only [Act.put, zp11a, zp11b, zp11c, i64_w, i32_w]
       rfl
      exact norm_ (by simp only [putAll, Act.put, zp11a, zp11b, zp11c]) (hCont (v558) _ ⟨(by (with_reducible repeat (first | apply Kd.R_alloc | apply Kd.R_drewN | apply Kd.R_drew)); exact HO559.out), (by repeat (first | (with_reducible first | exact HB.out | apply z11d | apply z11b | apply z11c) | exact HB.out))⟩)
     ·skip
      have hcv11 := own_string (P := Try.prog) Try.underlying22 Try.underlying5 Try.underlying9 (Kd.own_of_R HO559.out)
      refine value_ (w1 := ?_) (v := ?_) (by rfl) rfl ?_ ?_
      rotate_left 2
      ·go_simp
       constructor
       ·rfl
       ·rfl
      clear hcv11
      refine hK.out _ _ trivial (fun hHeld => ?_)
      clear hK K
      refine norm_ (a' := ?_) ?_ ?_
      rotate_left
      ·show Act.put _ (some 18) _ = _
       simp only [Act.put, zp11a, zp11b, zp11c, i64_w, i32_w]
       rfl
      refine one_ (i := 2) (N := some 12) zq11_0 rfl rfl (one_of HT_.out (by kernel_rfl)) (by decide) (fun K hK => ?_)
      refine goes_ Try.func168 (by kernel_rfl) rfl #[.int .u64 (IntKind.u64.wrap (Int.tdiv a0 10))] (by rfl) rfl rfl (by (try simp only [zm11a, zm11b, zm11c]); first | done | rfl | (simp only [zm11d, zm11e]; rfl)) ?_
      with_reducible refine (ih k (by omega) (IntKind.u64.wrap (Int.tdiv a0 10)) t556 _ A6.out).mono ?_
      rintro e w12 ⟨rfl, hb⟩
      refine ⟨_, rfl, ?_⟩
      have n0_ := z11a (Kd.R_below (by (with_reducible repeat (first | apply Kd.R_alloc | apply Kd.R_drewN | apply Kd.R_drew)); exact HO559.out) hb)
      have n1_ := z11a (below_step (by repeat (first | (with_reducible first | exact HB.out | apply z11d | apply z11b | apply z11c) | exact HB.out)) hb)
      clear HO559
      clear HB
      have HO559 := n0_
      have HB := n1_
      clear n0_ n1_
      (try clear hb)
      (try clear hb2)
      (try clear hk)
      (try clear hi)
      refine hK.out _ _ trivial (fun hHeld => ?_)
      clear hK K
      refine norm_ (a' := ?_) ?_ ?_
      rotate_left
      ·show Act.put _ (some 12) _ = _
       simp only [Act.put, zp11a, zp11b, zp11c, i64_w, i32_w]
       rfl
      exact norm_ (by simp only [putAll, Act.put, zp11a, zp11b, zp11c]) (hCont (v558) _ ⟨(by (with_reducible repeat (first | apply Kd.R_alloc | apply Kd.R_drewN | apply Kd.R_drew)); exact HO559.out), (by repeat (first | (with_reducible first | exact HB.out | apply z11d | apply z11b | apply z11c) | exact HB.out))⟩)
   rintro v558 w13 ⟨h0_, h1_⟩
   have n0_ : Aside0 (Kd.R (Kd.int .u8) 5 w13 w.heap.size (fun _ => True) v558 y557) := ⟨h0_⟩
   have n1_ : Aside0 (Below w.heap.size w w13) := ⟨h1_⟩
   clear HB
   clear h0_ h1_
   have HO559 := n0_
   have HB := n1_
   clear n0_ n1_
   have hHeld := trivial
   refine norm_ (a' := ?_) ?_ ?_
   rotate_left
   ·simp only [putAll, Act.put, zp11a, zp11b, zp11c]
    rfl
   refine pure_ (i := 9) (N := some 19) (v := ?_) (a' := ?_) zq11_5 rfl rfl (any_of HT_.out (by kernel_rfl)) (fun _ _ _ h => h) (Or.inl ⟨by rfl, ?_⟩) ?_ ?_
   rotate_left
   ·intro w'
    go_simp
    with_reducible rfl
   rotate_left
   ·simp only [Act.put, zp11a, zp11b, zp11c, i64_w, i32_w]
    rfl
   refine pure_ (i := 10) (N := some 2) (v := ?_) (a' := ?_) zq11_6 rfl rfl (any_of HT_.out (by kernel_rfl)) (fun _ _ _ h => h) (Or.inl ⟨by rfl, ?_⟩) ?_ ?_
   rotate_left
   ·intro w'
    go_simp
    with_reducible rfl
   rotate_left
   ·simp only [Act.put, zp11a, zp11b, zp11c, i64_w, i32_w]
    rfl
   refine done_ (done_of HT_.out (by kernel_rfl)) ?_
   try go_wp2
   go_ret
   exact ⟨by first | rfl | (simp [errW_none, errW_some] <;> rfl) | (simp [*, errW_none, errW_some] <;> rfl), by repeat (first | (with_reducible first | exact HB.out | apply z11d | apply z11b | apply z11c) | exact HB.out)⟩
  ·rw [if_neg c7] at H
   exact absurd H (by simp)
def y_fb.f (k : Nat) (a0 : Int) : Option (ByteArray) := if a0 < 0 then ((y_cb.f k (IntKind.u64.wrap (-(IntKind.u64.wrap (a0))))).bind fun t560 => (if 1 + t560.size ≤ 9223372036854775807 then (some ((⟨#[45]⟩ : ByteArray) ++ t560)) else (none))) else ((y_cb.f k (IntKind.u64.wrap (a0))).bind fun t561 => (some t561))
theorem y_fb.calls (k : Nat) (a0 : Int) (r : ByteArray) (w : World) (h : y_fb.f k a0 = some r) :
  Calls Try.prog 162 #[.int .i64 a0] w fun e w' => e = .returned (.string r) ∧ Below w.heap.size w w' := by
 have HB := z11a (Below.refl w.heap.size w)
 have H := h
 unfold y_fb.f at H
 clear h
 by_cases c2 : a0 < 0
 ·rw [if_pos c2] at H
  have c2b0 : decide (a0 < 0) = true := z11h c2
  clear c2
  replace H := z11f.mp H
  obtain ⟨t560, A30, H⟩ := H
  have A3 := z11a A30
  clear A30
  by_cases c4 : 1 + t560.size ≤ 9223372036854775807
  ·rw [if_pos c4] at H
   have c4b0 := eq_true c4
   have c4b1 : decide (1 + t560.size ≤ 9223372036854775807) = true := z11h c4
   try have c4b2 : (9223372036854775807 < 1 + t560.size) = False := eq_false (Nat.not_lt.2 c4)
   obtain rfl := Option.some.inj H
   go_enter Try.func162, Try.ntmps162
   go_wp2_with (first | ((with_reducible refine gate_callee (f := 168) rfl ?_); refine goesL_ (some 8) rfl rfl Try.func168 (by kernel_rfl) rfl #[.int .u64 (IntKind.u64.wrap (-(IntKind.u64.wrap (a0))))] rfl (by (try simp only [zm11a, zm11b, zm11c]); first | done | rfl | (simp only [zm11d, zm11e]; rfl)) ?_; (with_reducible refine (y_cb.calls k (IntKind.u64.wrap (-(IntKind.u64.wrap (a0)))) t560 _ A3.out).mono ?_); rintro e w5 ⟨rfl, hb⟩; refine ⟨_, rfl, ?_⟩; have n0_ := z11a (below_step (by repeat (first | (with_reducible first | exact HB.out | apply z11d | apply z11b | apply z11c) | exact HB.out)) hb); clear HB; have HB := n0_; clear n0_; (try clear hb); (try clear hb2); (try clear hk); (try clear hi)))
   go_ret
   exact ⟨by first | rfl | (simp [errW_none, errW_some] <;> rfl) | (simp [*, errW_none, errW_some] <;> rfl), by repeat (first | (with_reducible first | exact HB.out | apply z11d | apply z11b | apply z11c) | exact HB.out)⟩
  ·rw [if_neg c4] at H
   exact absurd H (by simp)
 ·rw [if_neg c2] at H
  have c2b0 : decide (a0 < 0) = false := decide_eq_false c2
  clear c2
  replace H := z11f.mp H
  obtain ⟨t561, A60, H⟩ := H
  have A6 := z11a A60
  clear A60
  obtain rfl := Option.some.inj H
  go_enter Try.func162, Try.ntmps162
  go_wp2_with (first | ((with_reducible refine gate_callee (f := 168) rfl ?_); refine goesL_ (some 12) rfl rfl Try.func168 (by kernel_rfl) rfl #[.int .u64 (IntKind.u64.wrap (a0))] rfl (by (try simp only [zm11a, zm11b, zm11c]); first | done | rfl | (simp only [zm11d, zm11e]; rfl)) ?_; (with_reducible refine (y_cb.calls k (IntKind.u64.wrap (a0)) t561 _ A6.out).mono ?_); rintro e w7 ⟨rfl, hb⟩; refine ⟨_, rfl, ?_⟩; have n0_ := z11a (below_step (by repeat (first | (with_reducible first | exact HB.out | apply z11d | apply z11b | apply z11c) | exact HB.out)) hb); clear HB; have HB := n0_; clear n0_; (try clear hb); (try clear hb2); (try clear hk); (try clear hi)))
  go_ret
  exact ⟨by first | rfl | (simp [errW_none, errW_some] <;> rfl) | (simp [*, errW_none, errW_some] <;> rfl), by repeat (first | (with_reducible first | exact HB.out | apply z11d | apply z11b | apply z11c) | exact HB.out)⟩
end Go.Proofs.Ytkcicbigpbdjpaa.P
end
