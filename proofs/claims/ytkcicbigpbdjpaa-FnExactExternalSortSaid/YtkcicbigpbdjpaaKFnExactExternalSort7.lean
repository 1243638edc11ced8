-- merged by pack.py out of Px5 Px6 Px7 (words: printed by the kit's print.sh; what this claim does not use is left out)

import Derived.Test.YtkcicbigpbdjpaaKFnExactExternalSort1
import Derived.Test.YtkcicbigpbdjpaaKFnExactExternalSort6
namespace Go.Proofs.Ytkcicbigpbdjpaa
abbrev zt7 : Bool := true
abbrev zf7 : Bool := false
section
open Go.RowKit Go.Proofs.YtkcicbigpbdjpaaW.PrintWords Go.Proofs.YtkcicbigpbdjpaaW.PrintLast Go.Proofs.YtkcicbigpbdjpaaW.PrintMore
abbrev z7a := @Aside0.mk
abbrev z7b := @pw_below_drewN
abbrev z7c := @below_drew1
abbrev z7d := @below_alloc
abbrev z7e := @World.block_lt_of_cell?
abbrev z7f := @Option.bind_eq_some_iff
abbrev z7g := @of_decide_eq_true
abbrev z7h := @decide_eq_true
end
theorem zm7a {α β : Type} (f : α → β) (l : List α) : l.toArray.map f = (l.map f).toArray := by simp
theorem zm7b {α β : Type} (f : α → β) (a : α) (l : List α) : (a :: l).map f = f a :: l.map f := rfl
theorem zm7c {α β : Type} (f : α → β) : ([] : List α).map f = [] := rfl
theorem zm7d {α : Type} (n : Nat) (l : List α) : (l.drop n).length = l.length - n := List.length_drop
theorem zm7e {α : Type} (n : Nat) (l : List α) : (l.take n).length = min n l.length := List.length_take
theorem zp7a {α : Type} (l : List α) (i : Nat) (a : α) : l.toArray.setIfInBounds i a = (l.set i a).toArray := List.setIfInBounds_toArray l i a
theorem zp7b {α : Type} (x : α) (l : List α) (a : α) : (x :: l).set 0 a = a :: l := List.set_cons_zero
theorem zp7c {α : Type} (x : α) (l : List α) (n : Nat) (a : α) : (x :: l).set (n + 1) a = x :: l.set n a := List.set_cons_succ
end Go.Proofs.Ytkcicbigpbdjpaa
set_option maxHeartbeats 8000000
set_option maxRecDepth 100000
section
namespace Go.Proofs.Ytkcicbigpbdjpaa.P
open Go.RowKit Go.Proofs.YtkcicbigpbdjpaaW.PrintWords Go.Proofs.YtkcicbigpbdjpaaW.PrintLast Go.Proofs.YtkcicbigpbdjpaaW.PrintMore
attribute [local go_sem] max2_int min2_int max_two min_two max_three min_three max_four min_four
set_option linter.unusedVariables false
set_option linter.unusedSimpArgs false
def y_y.f (a0 : Int) (a1 : Int) (a2 : Int) : Option (Bool) := if a0 ≥ a1 then (some (decide (a0 ≤ a2))) else (some false)
theorem y_y.calls (a0 : Int) (a1 : Int) (a2 : Int) (r : Bool) (w : World) (h : y_y.f a0 a1 a2 = some r) :
  Calls Try.prog 141 #[.int .i64 a0, .int .i64 a1, .int .i64 a2] w fun e w' => e = .returned (.bool r) ∧ Drawn0 w w' := by
 have H : (if a0 ≥ a1 then (some (decide (a0 ≤ a2))) else (some false)) = some r := h
 clear h
 by_cases c4 : a0 ≥ a1
 ·rw [if_pos c4] at H
  have c4b0 : decide (a1 ≤ a0) = true := z7h c4
  clear c4
  obtain rfl := Option.some.inj H
  go_enter Try.func141, Try.ntmps141
  go_wp2
  go_ret
  exact ⟨by first | rfl | (simp; done) | (simp [*]; done), by repeat (first | exact Drawn0.refl _ | apply Drawn0.step)⟩
 ·rw [if_neg c4] at H
  have c4b0 : decide (a1 ≤ a0) = false := decide_eq_false c4
  clear c4
  obtain rfl := Option.some.inj H
  go_enter Try.func141, Try.ntmps141
  go_wp2
  go_ret
  exact ⟨by first | rfl | (simp; done) | (simp [*]; done), by repeat (first | exact Drawn0.refl _ | apply Drawn0.step)⟩
def y_jb.f (a0_0 : Int) (a0_1 : Int) (a0_2 : Int) : Option (Bool) := (y_y.f a0_0 0 9).bind fun t241 => (if t241 = true then ((y_y.f a0_1 0 99).bind fun t242 => (if t242 = true then ((y_y.f a0_2 0 3).bind fun t243 => (some t243)) else (some false))) else (some false))
theorem y_jb.calls (a0_0 : Int) (a0_1 : Int) (a0_2 : Int) (r : Bool) (w : World) (h : y_jb.f a0_0 a0_1 a0_2 = some r) :
  Calls Try.prog 157 #[.agg #[.int .i64 a0_0, .int .i64 a0_1, .int .i64 a0_2]] w fun e w' => e = .returned (.bool r) ∧ Below w.heap.size w w' := by
 have hu71 := Try.underlying71
 have HB := z7a (Below.refl w.heap.size w)
 have H := h
 unfold y_jb.f at H
 clear h
 replace H := z7f.mp H
 obtain ⟨t241, A20, H⟩ := H
 have A2 := z7a A20
 clear A20
 by_cases c3 : t241 = true
 ·subst c3
  rw [if_pos rfl] at H
  replace H := z7f.mp H
  obtain ⟨t242, A40, H⟩ := H
  have A4 := z7a A40
  clear A40
  by_cases c5 : t242 = true
  ·subst c5
   rw [if_pos rfl] at H
   replace H := z7f.mp H
   obtain ⟨t243, A60, H⟩ := H
   have A6 := z7a A60
   clear A60
   obtain rfl := Option.some.inj H
   go_enter Try.func157, Try.ntmps157
   go_wp2_with (first | ((with_reducible refine gate_dst (N := 1) rfl ?_); refine box_event ?hg (N := 1) ?hd (cs := #[.int .i64 a0_0, .int .i64 a0_1, .int .i64 a0_2]) (t := 71) ?hr ?_; (case hd => rfl); (case hg => rfl); (case hr => first | (go_simp; done) | (go_simp; rfl)); intro gb240 hg w7 hbox hb; have n0_ := z7a (below_step (by repeat (first | (with_reducible first | exact HB.out | apply z7d | apply z7b | apply z7c) | exact HB.out)) hb); have n1_ := z7a (hbox); have n2_ := z7a ((by rw [hg]; exact (below_size (by repeat (first | (with_reducible first | exact HB.out | apply z7d | apply z7b | apply z7c) | exact HB.out))) : w.heap.size ≤ gb240)); have n3_ := z7a ((by rw [hg]; exact (below_size (by repeat (first | (with_reducible first | exact HB.out | apply z7d | apply z7b | apply z7c) | exact HB.out))) : w.heap.size ≤ gb240)); clear HB; have HB := n0_; have BK240 := n1_; have GW240 := n2_; have GE240 := n3_; clear n0_ n1_ n2_ n3_; clear hb hbox hg; obtain ⟨hcz8_0, hcz8_1, hcz8_2⟩ := cells_3 BK240.out; obtain ⟨hfz8_0, hfz8_1, hfz8_2⟩ := frz_3 BK240.out) | ((with_reducible refine gate_callee (f := 141) rfl ?_); refine goesL_ (some 5) rfl rfl Try.func141 (by kernel_rfl) rfl #[.int .i64 a0_0, .int .i64 0, .int .i64 9] rfl (by (try simp only [zm7a, zm7b, zm7c]); first | done | rfl | (simp only [zm7d, zm7e]; rfl)) ?_; (with_reducible refine (y_y.calls a0_0 0 9 true _ A2.out).mono ?_); rintro e w' ⟨rfl, ⟨nd, rfl⟩⟩; refine ⟨_, rfl, ?_⟩) | (go_at_call 141; (with_reducible refine (y_y.calls a0_1 0 99 true _ A4.out).mono ?_); rintro e w' ⟨rfl, ⟨nd, rfl⟩⟩) | (go_at_call 141; (with_reducible refine (y_y.calls a0_2 0 3 t243 _ A6.out).mono ?_); rintro e w' ⟨rfl, ⟨nd, rfl⟩⟩))
   go_ret
   exact ⟨by first | rfl | (simp [errW_none, errW_some] <;> rfl) | (simp [*, errW_none, errW_some] <;> rfl), by repeat (first | (with_reducible first | exact HB.out | apply z7d | apply z7b | apply z7c | refine below_set ?_ GE240.out) | exact HB.out)⟩
  ·replace c5 := Bool.eq_false_iff.mpr c5
   subst c5
   have H1 : (some false) = some r := by rw [if_neg (show ¬ (false = true) by decide)] at H; exact H
   clear H
   have H := H1
   clear H1
   obtain rfl := Option.some.inj H
   go_enter Try.func157, Try.ntmps157
   go_wp2_with (first | ((with_reducible refine gate_dst (N := 1) rfl ?_); refine box_event ?hg (N := 1) ?hd (cs := #[.int .i64 a0_0, .int .i64 a0_1, .int .i64 a0_2]) (t := 71) ?hr ?_; (case hd => rfl); (case hg => rfl); (case hr => first | (go_simp; done) | (go_simp; rfl)); intro gb240 hg w9 hbox hb; have n0_ := z7a (below_step (by repeat (first | (with_reducible first | exact HB.out | apply z7d | apply z7b | apply z7c) | exact HB.out)) hb); have n1_ := z7a (hbox); have n2_ := z7a ((by rw [hg]; exact (below_size (by repeat (first | (with_reducible first | exact HB.out | apply z7d | apply z7b | apply z7c) | exact HB.out))) : w.heap.size ≤ gb240)); have n3_ := z7a ((by rw [hg]; exact (below_size (by repeat (first | (with_reducible first | exact HB.out | apply z7d | apply z7b | apply z7c) | exact HB.out))) : w.heap.size ≤ gb240)); clear HB; have HB := n0_; have BK240 := n1_; have GW240 := n2_; have GE240 := n3_; clear n0_ n1_ n2_ n3_; clear hb hbox hg; obtain ⟨hcz10_0, hcz10_1, hcz10_2⟩ := cells_3 BK240.out; obtain ⟨hfz10_0, hfz10_1, hfz10_2⟩ := frz_3 BK240.out) | ((with_reducible refine gate_callee (f := 141) rfl ?_); refine goesL_ (some 5) rfl rfl Try.func141 (by kernel_rfl) rfl #[.int .i64 a0_0, .int .i64 0, .int .i64 9] rfl (by (try simp only [zm7a, zm7b, zm7c]); first | done | rfl | (simp only [zm7d, zm7e]; rfl)) ?_; (with_reducible refine (y_y.calls a0_0 0 9 true _ A2.out).mono ?_); rintro e w' ⟨rfl, ⟨nd, rfl⟩⟩; refine ⟨_, rfl, ?_⟩) | (go_at_call 141; (with_reducible refine (y_y.calls a0_1 0 99 false _ A4.out).mono ?_); rintro e w' ⟨rfl, ⟨nd, rfl⟩⟩))
   go_ret
   exact ⟨by first | rfl | (simp [errW_none, errW_some] <;> rfl) | (simp [*, errW_none, errW_some] <;> rfl), by repeat (first | (with_reducible first | exact HB.out | apply z7d | apply z7b | apply z7c | refine below_set ?_ GE240.out) | exact HB.out)⟩
 ·replace c3 := Bool.eq_false_iff.mpr c3
  subst c3
  have H1 : (some false) = some r := by rw [if_neg (show ¬ (false = true) by decide)] at H; exact H
  clear H
  have H := H1
  clear H1
  obtain rfl := Option.some.inj H
  go_enter Try.func157, Try.ntmps157
  go_wp2_with (first | ((with_reducible refine gate_dst (N := 1) rfl ?_); refine box_event ?hg (N := 1) ?hd (cs := #[.int .i64 a0_0, .int .i64 a0_1, .int .i64 a0_2]) (t := 71) ?hr ?_; (case hd => rfl); (case hg => rfl); (case hr => first | (go_simp; done) | (go_simp; rfl)); intro gb240 hg w11 hbox hb; have n0_ := z7a (below_step (by repeat (first | (with_reducible first | exact HB.out | apply z7d | apply z7b | apply z7c) | exact HB.out)) hb); have n1_ := z7a (hbox); have n2_ := z7a ((by rw [hg]; exact (below_size (by repeat (first | (with_reducible first | exact HB.out | apply z7d | apply z7b | apply z7c) | exact HB.out))) : w.heap.size ≤ gb240)); have n3_ := z7a ((by rw [hg]; exact (below_size (by repeat (first | (with_reducible first | exact HB.out | apply z7d | apply z7b | apply z7c) | exact HB.out))) : w.heap.size ≤ gb240)); clear HB; have HB := n0_; have BK240 := n1_; have GW240 := n2_; have GE240 := n3_; clear n0_ n1_ n2_ n3_; clear hb hbox hg; obtain ⟨hcz12_0, hcz12_1, hcz12_2⟩ := cells_3 BK240.out; obtain ⟨hfz12_0, hfz12_1, hfz12_2⟩ := frz_3 BK240.out) | ((with_reducible refine gate_callee (f := 141) rfl ?_); refine goesL_ (some 5) rfl rfl Try.func141 (by kernel_rfl) rfl #[.int .i64 a0_0, .int .i64 0, .int .i64 9] rfl (by (try simp only [zm7a, zm7b, zm7c]); first | done | rfl | (simp only [zm7d, zm7e]; rfl)) ?_; (with_reducible refine (y_y.calls a0_0 0 9 false _ A2.out).mono ?_); rintro e w' ⟨rfl, ⟨nd, rfl⟩⟩; refine ⟨_, rfl, ?_⟩))
  go_ret
  exact ⟨by first | rfl | (simp [errW_none, errW_some] <;> rfl) | (simp [*, errW_none, errW_some] <;> rfl), by repeat (first | (with_reducible first | exact HB.out | apply z7d | apply z7b | apply z7c | refine below_set ?_ GE240.out) | exact HB.out)⟩
def y_u.l0 : Nat → List (S71) → Int → Int → Option (Bool)
 | 0, _, _, _ => none
 | k + 1, x5, x6, x7 => if x7 < x6 then (if 0 ≤ x7 then (if x7 < (x5.length : Int) then ((y_jb.f ((rd_T71 x5 x7).f0) ((rd_T71 x5 x7).f1) ((rd_T71 x5 x7).f2)).bind fun t246 => (if t246 = true then (y_u.l0 k x5 x6 (wrap64 (x7 + 1))) else (some false))) else (none)) else (none)) else (some true)
def y_u.f (k : Nat) (l0 : List (S71)) : Option (Bool) := y_u.l0 k l0 (l0.length : Int) 0
theorem y_u.mono_l : ∀ k, (∀ y0 y1 y2, LeO (y_u.l0 k y0 y1 y2) (y_u.l0 (k + 1) y0 y1 y2))
 | 0 => fun _ _ _ r h => by simp [y_u.l0] at h
 | k + 1 => by
  have ih0 := y_u.mono_l k
  ·intro y0 y1 y2
   unfold y_u.l0
   repeat' first
   | (with_reducible exact ih0 _ _ _)
   | (with_reducible exact LeO.refl _)
   | (with_reducible exact LeO.none _)
   | (with_reducible refine LeO.ite ?_ ?_)
   | (with_reducible refine LeO.bind ?_ (fun _ => ?_))
   | exact ih0 _ _ _
   | exact LeO.none _
   | refine LeO.ite ?_ ?_
   | refine LeO.bind ?_ (fun _ => ?_)
theorem y_u.mono : ∀ a0 k, LeO (y_u.f k a0) (y_u.f (k + 1) a0) := by
 intro a0 k
 have ih0 := y_u.mono_l k
 unfold y_u.f
 repeat' first
   | (with_reducible exact ih0 _ _ _)
   | (with_reducible exact LeO.refl _)
   | (with_reducible exact LeO.none _)
   | (with_reducible refine LeO.ite ?_ ?_)
   | (with_reducible refine LeO.bind ?_ (fun _ => ?_))
   | exact ih0 _ _ _
   | exact LeO.none _
   | refine LeO.ite ?_ ?_
   | refine LeO.bind ?_ (fun _ => ?_)
theorem y_u.calls (k : Nat) (A0 : Option Addr) (c0 : Nat) (l0 : List (S71)) (r : Bool) (w : World) (hr0 : Kd.C k71 w A0 l0.length l0) (hc0 : l0.length ≤ c0) (h : y_u.f k l0 = some r) :
  Calls Try.prog 156 #[.slice A0 l0.length c0] w fun e w' => e = .returned (.bool r) ∧ Below w.heap.size w w' := by
 have hu71 := Try.underlying71
 have HR0 := z7a hr0
 have HC0 := z7a hc0
 clear hr0 hc0
 have HB := z7a (Below.refl w.heap.size w)
 have H : (y_u.l0 k l0 (l0.length : Int) 0) = some r := h
 clear h
 have H' := z7a H
 clear H
 go_enter Try.func156, Try.ntmps156
 go_wp2
 go_loopg [7] k (fun kq v7 w' => ∃ (x7_1 : Int), v7 = .int .i64 x7_1 ∧ Aside0 (y_u.l0 kq l0 (l0.length : Int) x7_1 = some r) ∧ Aside0 (kq ≤ k) ∧ Aside0 (Below w.heap.size w w'))
 case atStart => exact ⟨(0), (by first | rfl | (simp; done) | (simp [*]; done)), H', ⟨Nat.le_refl _⟩, ⟨by repeat (first | (with_reducible first | exact HB.out | apply z7d | apply z7b | apply z7c) | exact HB.out)⟩⟩
 case round =>
  clear H'
  try clear c1
  obtain ⟨x7_1, rfl, HA, HK1, HB⟩ := hrel
  cases gk with
  | zero => exact absurd HA.out (by simp [y_u.l0])
  | succ k1 =>
   have H := HA.out
   clear HA
   simp only [y_u.l0] at H
   by_cases c2 : x7_1 < (l0.length : Int)
   ·rw [if_pos c2] at H
    have c2b0 : decide (x7_1 < (l0.length : Int)) = true := z7h c2
    clear c2
    by_cases c3 : 0 ≤ x7_1
    ·rw [if_pos c3] at H
     have c3b0 : decide (0 ≤ x7_1) = true := z7h c3
     clear c3
     by_cases c4 : x7_1 < (l0.length : Int)
     ·rw [if_pos c4] at H
      have c4b0 : decide (x7_1 < (l0.length : Int)) = true := z7h c4
      clear c4
      replace H := z7f.mp H
      obtain ⟨t246, A50, H⟩ := H
      have A5 := z7a A50
      clear A50
      by_cases c6 : t246 = true
      ·subst c6
       rw [if_pos rfl] at H
       have H' := z7a H
       clear H
       have p244 : 0 ≤ (x7_1 : Int) := z7g (by first | (with_reducible assumption) | assumption)
       have q244 : x7_1 < (l0.length : Int) := z7g (by first | (with_reducible assumption) | assumption)
       obtain ⟨ad244, e244, hx244_0, hx244_1, hx244_2⟩ := at_T71 HR0.out x7_1 p244 q244
       cases e244
       replace hx244_0 := (HB.out.cell (z7e w _ hx244_0)).trans hx244_0
       replace hx244_1 := (HB.out.cell (z7e w _ hx244_1)).trans hx244_1
       replace hx244_2 := (HB.out.cell (z7e w _ hx244_2)).trans hx244_2
       replace p244 := eq_true p244
       replace q244 := eq_true q244
       go_wp2_with (first | ((with_reducible refine gate_dst (N := 4) rfl ?_); refine box_event ?hg (N := 4) ?hd (cs := #[.int .i64 0, .int .i64 0, .int .i64 0]) (t := 71) ?hr ?_; (case hd => rfl); (case hg => rfl); (case hr => first | (go_simp; done) | (go_simp; rfl)); intro gb245 hg w7 hbox hb; have n0_ := z7a (below_step (by repeat (first | (with_reducible first | exact HB.out | apply z7d | apply z7b | apply z7c) | exact HB.out)) hb); have n1_ := z7a (hbox); have n2_ := z7a ((by rw [hg]; exact (below_size (by repeat (first | (with_reducible first | exact HB.out | apply z7d | apply z7b | apply z7c) | exact HB.out))) : w.heap.size ≤ gb245)); have n3_ := z7a ((by rw [hg]; exact (below_size (by repeat (first | (with_reducible first | exact HB.out | apply z7d | apply z7b | apply z7c) | exact HB.out))) : w.heap.size ≤ gb245)); clear HB; have HB := n0_; have BK245 := n1_; have GW245 := n2_; have GE245 := n3_; clear n0_ n1_ n2_ n3_; clear hb hbox hg; obtain ⟨hcz8_0, hcz8_1, hcz8_2⟩ := cells_3 BK245.out; obtain ⟨hfz8_0, hfz8_1, hfz8_2⟩ := frz_3 BK245.out) | ((with_reducible refine gate_callee (f := 157) rfl ?_); refine goesL_ (some 12) rfl rfl Try.func157 (by kernel_rfl) rfl #[.agg #[.int .i64 ((rd_T71 l0 x7_1).f0), .int .i64 ((rd_T71 l0 x7_1).f1), .int .i64 ((rd_T71 l0 x7_1).f2)]] rfl (by (try simp only [zm7a, zm7b, zm7c]); first | done | rfl | (simp only [zm7d, zm7e]; rfl)) ?_; (with_reducible refine (y_jb.calls ((rd_T71 l0 x7_1).f0) ((rd_T71 l0 x7_1).f1) ((rd_T71 l0 x7_1).f2) true _ A5.out).mono ?_); rintro e w9 ⟨rfl, hb⟩; refine ⟨_, rfl, ?_⟩; have n0_ := z7a (blk_below (g := gb245) (o := .cells #[.int .i64 ((rd_T71 l0 x7_1).f0), .int .i64 ((rd_T71 l0 x7_1).f1), .int .i64 ((rd_T71 l0 x7_1).f2)] 71 (0, 0)) (by (with_reducible repeat (first | refine blk_drewN ?_ _ | refine blk_drew ?_ | refine blk_alloc ?_ _)); refine blk_put (cs := #[.int .i64 ((rd_T71 l0 x7_1).f0), .int .i64 ((rd_T71 l0 x7_1).f1), .int .i64 0]) ?_ 2 _ rfl; (with_reducible repeat (first | refine blk_drewN ?_ _ | refine blk_drew ?_ | refine blk_alloc ?_ _)); refine blk_put (cs := #[.int .i64 ((rd_T71 l0 x7_1).f0), .int .i64 0, .int .i64 0]) ?_ 1 _ rfl; (with_reducible repeat (first | refine blk_drewN ?_ _ | refine blk_drew ?_ | refine blk_alloc ?_ _)); refine blk_put (cs := #[.int .i64 0, .int .i64 0, .int .i64 0]) ?_ 0 _ rfl; (with_reducible repeat (first | refine blk_drewN ?_ _ | refine blk_drew ?_ | refine blk_alloc ?_ _)); exact BK245.out) hb); have n1_ := z7a (below_step (by repeat (first | (with_reducible first | exact HB.out | apply z7d | apply z7b | apply z7c | refine below_set ?_ GE245.out) | exact HB.out)) hb); clear BK245; clear HB; have BK245 := n0_; have HB := n1_; clear n0_ n1_; (try clear hb); (try clear hb2); (try clear hk); (try clear hi)))
       go_roundg k1
       case measure => have := HK1.out; omega
       case rel => exact ⟨(wrap64 (x7_1 + 1)), (by first | rfl | (simp; done) | (simp [*]; done)), H', ⟨by have := HK1.out; omega⟩, ⟨by repeat (first | (with_reducible first | exact HB.out | apply z7d | apply z7b | apply z7c | refine below_set ?_ GE245.out) | exact HB.out)⟩⟩
      ·replace c6 := Bool.eq_false_iff.mpr c6
       subst c6
       have H1 : (some false) = some r := by rw [if_neg (show ¬ (false = true) by decide)] at H; exact H
       clear H
       have H := H1
       clear H1
       obtain rfl := Option.some.inj H
       have p244 : 0 ≤ (x7_1 : Int) := z7g (by first | (with_reducible assumption) | assumption)
       have q244 : x7_1 < (l0.length : Int) := z7g (by first | (with_reducible assumption) | assumption)
       obtain ⟨ad244, e244, hx244_0, hx244_1, hx244_2⟩ := at_T71 HR0.out x7_1 p244 q244
       cases e244
       replace hx244_0 := (HB.out.cell (z7e w _ hx244_0)).trans hx244_0
       replace hx244_1 := (HB.out.cell (z7e w _ hx244_1)).trans hx244_1
       replace hx244_2 := (HB.out.cell (z7e w _ hx244_2)).trans hx244_2
       replace p244 := eq_true p244
       replace q244 := eq_true q244
       go_wp2_with (first | ((with_reducible refine gate_dst (N := 4) rfl ?_); refine box_event ?hg (N := 4) ?hd (cs := #[.int .i64 0, .int .i64 0, .int .i64 0]) (t := 71) ?hr ?_; (case hd => rfl); (case hg => rfl); (case hr => first | (go_simp; done) | (go_simp; rfl)); intro gb245 hg w10 hbox hb; have n0_ := z7a (below_step (by repeat (first | (with_reducible first | exact HB.out | apply z7d | apply z7b | apply z7c) | exact HB.out)) hb); have n1_ := z7a (hbox); have n2_ := z7a ((by rw [hg]; exact (below_size (by repeat (first | (with_reducible first | exact HB.out | apply z7d | apply z7b | apply z7c) | exact HB.out))) : w.heap.size ≤ gb245)); have n3_ := z7a ((by rw [hg]; exact (below_size (by repeat (first | (with_reducible first | exact HB.out | apply z7d | apply z7b | apply z7c) | exact HB.out))) : w.heap.size ≤ gb245)); clear HB; have HB := n0_; have BK245 := n1_; have GW245 := n2_; have GE245 := n3_; clear n0_ n1_ n2_ n3_; clear hb hbox hg; obtain ⟨hcz11_0, hcz11_1, hcz11_2⟩ := cells_3 BK245.out; obtain ⟨hfz11_0, hfz11_1, hfz11_2⟩ := frz_3 BK245.out) | ((with_reducible refine gate_callee (f := 157) rfl ?_); refine goesL_ (some 12) rfl rfl Try.func157 (by kernel_rfl) rfl #[.agg #[.int .i64 ((rd_T71 l0 x7_1).f0), .int .i64 ((rd_T71 l0 x7_1).f1), .int .i64 ((rd_T71 l0 x7_1).f2)]] rfl (by (try simp only [zm7a, zm7b, zm7c]); first | done | rfl | (simp only [zm7d, zm7e]; rfl)) ?_; (with_reducible refine (y_jb.calls ((rd_T71 l0 x7_1).f0) ((rd_T71 l0 x7_1).f1) ((rd_T71 l0 x7_1).f2) false _ A5.out).mono ?_); rintro e w12 ⟨rfl, hb⟩; refine ⟨_, rfl, ?_⟩; have n0_ := z7a (blk_below (g := gb245) (o := .cells #[.int .i64 ((rd_T71 l0 x7_1).f0), .int .i64 ((rd_T71 l0 x7_1).f1), .int .i64 ((rd_T71 l0 x7_1).f2)] 71 (0, 0)) (by (with_reducible repeat (first | refine blk_drewN ?_ _ | refine blk_drew ?_ | refine blk_alloc ?_ _)); refine blk_put (cs := #[.int .i64 ((rd_T71 l0 x7_1).f0), .int .i64 ((rd_T71 l0 x7_1).f1), .int .i64 0]) ?_ 2 _ rfl; (with_reducible repeat (first | refine blk_drewN ?_ _ | refine blk_drew ?_ | refine blk_alloc ?_ _)); refine blk_put (cs := #[.int .i64 ((rd_T71 l0 x7_1).f0), .int .i64 0, .int .i64 0]) ?_ 1 _ rfl; (with_reducible repeat (first | refine blk_drewN ?_ _ | refine blk_drew ?_ | refine blk_alloc ?_ _)); refine blk_put (cs := #[.int .i64 0, .int .i64 0, .int .i64 0]) ?_ 0 _ rfl; (with_reducible repeat (first | refine blk_drewN ?_ _ | refine blk_drew ?_ | refine blk_alloc ?_ _)); exact BK245.out) hb); have n1_ := z7a (below_step (by repeat (first | (with_reducible first | exact HB.out | apply z7d | apply z7b | apply z7c | refine below_set ?_ GE245.out) | exact HB.out)) hb); clear BK245; clear HB; have BK245 := n0_; have HB := n1_; clear n0_ n1_; (try clear hb); (try clear hb2); (try clear hk); (try clear hi)))
       go_ret
       exact ⟨by first | rfl | (simp [errW_none, errW_some] <;> rfl) | (simp [*, errW_none, errW_some] <;> rfl), by repeat (first | (with_reducible first | exact HB.out | apply z7d | apply z7b | apply z7c | refine below_set ?_ GE245.out) | exact HB.out)⟩
     ·rw [if_neg c4] at H
      exact absurd H (by simp)
    ·rw [if_neg c3] at H
     exact absurd H (by simp)
   ·rw [if_neg c2] at H
    have c2b0 : decide (x7_1 < (l0.length : Int)) = false := decide_eq_false c2
    clear c2
    obtain rfl := Option.some.inj H
    go_wp2
    go_ret
    exact ⟨by first | rfl | (simp [errW_none, errW_some] <;> rfl) | (simp [*, errW_none, errW_some] <;> rfl), by repeat (first | (with_reducible first | exact HB.out | apply z7d | apply z7b | apply z7c) | exact HB.out)⟩
def y_t.f (k : Nat) (l0 : List (S71)) : Option (Bool) := if (l0.length : Int) ≤ 24 then ((y_u.f k l0).bind fun t247 => (some t247)) else (some false)
theorem y_t.mono : ∀ a0 k, LeO (y_t.f k a0) (y_t.f (k + 1) a0) := by
 intro a0 k
 unfold y_t.f
 repeat' first
   | (with_reducible exact y_u.mono _ _)
   | (with_reducible exact LeO.refl _)
   | (with_reducible exact LeO.none _)
   | (with_reducible refine LeO.ite ?_ ?_)
   | (with_reducible refine LeO.bind ?_ (fun _ => ?_))
   | exact y_u.mono _ _
   | exact LeO.none _
   | refine LeO.ite ?_ ?_
   | refine LeO.bind ?_ (fun _ => ?_)
theorem y_t.calls (k : Nat) (A0 : Option Addr) (c0 : Nat) (l0 : List (S71)) (r : Bool) (w : World) (hr0 : Kd.C k71 w A0 l0.length l0) (hc0 : l0.length ≤ c0) (h : y_t.f k l0 = some r) :
  Calls Try.prog 107 #[.slice A0 l0.length c0] w fun e w' => e = .returned (.bool r) ∧ Below w.heap.size w w' := by
 have HR0 := z7a hr0
 have HC0 := z7a hc0
 clear hr0 hc0
 have HB := z7a (Below.refl w.heap.size w)
 have H : (if (l0.length : Int) ≤ 24 then ((y_u.f k l0).bind fun t247 => (some t247)) else (some false)) = some r := h
 clear h
 by_cases c2 : (l0.length : Int) ≤ 24
 ·rw [if_pos c2] at H
  have c2b0 : decide ((l0.length : Int) ≤ 24) = true := z7h c2
  have c2b1 : decide (l0.length ≤ 24) = true := z7h (by omega)
  clear c2
  replace H := z7f.mp H
  obtain ⟨t247, A30, H⟩ := H
  have A3 := z7a A30
  clear A30
  obtain rfl := Option.some.inj H
  go_enter Try.func107, Try.ntmps107
  go_wp2_with (first | (go_at_call 156; (with_reducible refine (y_u.calls k _ _ l0 t247 _ ?side1 ?side2 A3.out).mono ?_); (case side1 => repeat (first | exact HR0.out | (with_reducible refine Kd.C_alloc ?_ _) | (with_reducible refine Kd.C_drewN ?_ _) | (with_reducible refine Kd.C_drew ?_))); (case side2 => exact HC0.out); rintro e w4 ⟨rfl, hb⟩; have n0_ := z7a (below_step (by repeat (first | (with_reducible first | exact HB.out | apply z7d | apply z7b | apply z7c) | exact HB.out)) hb); clear HB; have HB := n0_; clear n0_; (try clear hb); (try clear hb2); (try clear hk); (try clear hi)))
  go_ret
  exact ⟨by first | rfl | (simp [errW_none, errW_some] <;> rfl) | (simp [*, errW_none, errW_some] <;> rfl), by repeat (first | (with_reducible first | exact HB.out | apply z7d | apply z7b | apply z7c) | exact HB.out)⟩
 ·rw [if_neg c2] at H
  have c2b0 : decide ((l0.length : Int) ≤ 24) = false := decide_eq_false c2
  have c2b1 : decide (l0.length ≤ 24) = false := decide_eq_false (by omega)
  clear c2
  obtain rfl := Option.some.inj H
  go_enter Try.func107, Try.ntmps107
  go_wp2
  go_ret
  exact ⟨by first | rfl | (simp [errW_none, errW_some] <;> rfl) | (simp [*, errW_none, errW_some] <;> rfl), by repeat (first | (with_reducible first | exact HB.out | apply z7d | apply z7b | apply z7c) | exact HB.out)⟩
def y_qb.f (a0 : Int) : Option (Bool) := (y_y.f a0 8 60).bind fun t248 => (some t248)
theorem y_qb.calls (a0 : Int) (r : Bool) (w : World) (h : y_qb.f a0 = some r) :
  Calls Try.prog 108 #[.int .i64 a0] w fun e w' => e = .returned (.bool r) ∧ Drawn0 w w' := by
 have H : ((y_y.f a0 8 60).bind fun t248 => (some t248)) = some r := h
 clear h
 replace H := z7f.mp H
 obtain ⟨t248, A20, H⟩ := H
 have A2 := z7a A20
 clear A20
 obtain rfl := Option.some.inj H
 go_enter Try.func108, Try.ntmps108
 go_wp2_with (first | ((with_reducible refine gate_callee (f := 141) rfl ?_); refine goesL_ (some 4) rfl rfl Try.func141 (by kernel_rfl) rfl #[.int .i64 a0, .int .i64 8, .int .i64 60] rfl (by (try simp only [zm7a, zm7b, zm7c]); first | done | rfl | (simp only [zm7d, zm7e]; rfl)) ?_; (with_reducible refine (y_y.calls a0 8 60 t248 _ A2.out).mono ?_); rintro e w' ⟨rfl, ⟨nd, rfl⟩⟩; refine ⟨_, rfl, ?_⟩))
 go_ret
 exact ⟨by first | rfl | (simp; done) | (simp [*]; done), by repeat (first | exact Drawn0.refl _ | apply Drawn0.step)⟩
def y_mb.f (a0_0 : Int) (a0_1 : Int) (a0_2 : Int) : Option (Int) := (y_jb.f a0_0 a0_1 a0_2).bind fun t250 => (if t250 = true then (some (wrap64 (1 + a0_2))) else (some 0))
theorem y_mb.calls (a0_0 : Int) (a0_1 : Int) (a0_2 : Int) (r : Int) (w : World) (h : y_mb.f a0_0 a0_1 a0_2 = some r) :
  Calls Try.prog 110 #[.agg #[.int .i64 a0_0, .int .i64 a0_1, .int .i64 a0_2]] w fun e w' => e = .returned (.int .i64 r) ∧ Below w.heap.size w w' := by
 have hu71 := Try.underlying71
 have HB := z7a (Below.refl w.heap.size w)
 have H := h
 unfold y_mb.f at H
 clear h
 replace H := z7f.mp H
 obtain ⟨t250, A20, H⟩ := H
 have A2 := z7a A20
 clear A20
 by_cases c3 : t250 = true
 ·subst c3
  rw [if_pos rfl] at H
  obtain rfl := Option.some.inj H
  go_enter Try.func110, Try.ntmps110
  go_wp2_with (first | ((with_reducible refine gate_dst (N := 1) rfl ?_); refine box_event ?hg (N := 1) ?hd (cs := #[.int .i64 a0_0, .int .i64 a0_1, .int .i64 a0_2]) (t := 71) ?hr ?_; (case hd => rfl); (case hg => rfl); (case hr => first | (go_simp; done) | (go_simp; rfl)); intro gb249 hg w4 hbox hb; have n0_ := z7a (below_step (by repeat (first | (with_reducible first | exact HB.out | apply z7d | apply z7b | apply z7c) | exact HB.out)) hb); have n1_ := z7a (hbox); have n2_ := z7a ((by rw [hg]; exact (below_size (by repeat (first | (with_reducible first | exact HB.out | apply z7d | apply z7b | apply z7c) | exact HB.out))) : w.heap.size ≤ gb249)); have n3_ := z7a ((by rw [hg]; exact (below_size (by repeat (first | (with_reducible first | exact HB.out | apply z7d | apply z7b | apply z7c) | exact HB.out))) : w.heap.size ≤ gb249)); clear HB; have HB := n0_; have BK249 := n1_; have GW249 := n2_; have GE249 := n3_; clear n0_ n1_ n2_ n3_; clear hb hbox hg; obtain ⟨hcz5_0, hcz5_1, hcz5_2⟩ := cells_3 BK249.out; obtain ⟨hfz5_0, hfz5_1, hfz5_2⟩ := frz_3 BK249.out) | ((with_reducible refine gate_callee (f := 157) rfl ?_); refine goesL_ (some 4) rfl rfl Try.func157 (by kernel_rfl) rfl #[.agg #[.int .i64 a0_0, .int .i64 a0_1, .int .i64 a0_2]] rfl (by (try simp only [zm7a, zm7b, zm7c]); first | done | rfl | (simp only [zm7d, zm7e]; rfl)) ?_; (with_reducible refine (y_jb.calls a0_0 a0_1 a0_2 true _ A2.out).mono ?_); rintro e w6 ⟨rfl, hb⟩; refine ⟨_, rfl, ?_⟩; have n0_ := z7a (blk_below (g := gb249) (o := .cells #[.int .i64 a0_0, .int .i64 a0_1, .int .i64 a0_2] 71 (0, 0)) (by (with_reducible repeat (first | refine blk_drewN ?_ _ | refine blk_drew ?_ | refine blk_alloc ?_ _)); exact BK249.out) hb); have n1_ := z7a (below_step (by repeat (first | (with_reducible first | exact HB.out | apply z7d | apply z7b | apply z7c | refine below_set ?_ GE249.out) | exact HB.out)) hb); clear BK249; clear HB; have BK249 := n0_; have HB := n1_; clear n0_ n1_; (try clear hb); (try clear hb2); (try clear hk); (try clear hi); obtain ⟨hcz7_0, hcz7_1, hcz7_2⟩ := cells_3 BK249.out; obtain ⟨hfz7_0, hfz7_1, hfz7_2⟩ := frz_3 BK249.out))
  go_ret
  exact ⟨by first | rfl | (simp [errW_none, errW_some] <;> rfl) | (simp [*, errW_none, errW_some] <;> rfl), by repeat (first | (with_reducible first | exact HB.out | apply z7d | apply z7b | apply z7c | refine below_set ?_ GE249.out) | exact HB.out)⟩
 ·replace c3 := Bool.eq_false_iff.mpr c3
  subst c3
  have H1 : (some 0) = some r := by rw [if_neg (show ¬ (false = true) by decide)] at H; exact H
  clear H
  have H := H1
  clear H1
  obtain rfl := Option.some.inj H
  go_enter Try.func110, Try.ntmps110
  go_wp2_with (first | ((with_reducible refine gate_dst (N := 1) rfl ?_); refine box_event ?hg (N := 1) ?hd (cs := #[.int .i64 a0_0, .int .i64 a0_1, .int .i64 a0_2]) (t := 71) ?hr ?_; (case hd => rfl); (case hg => rfl); (case hr => first | (go_simp; done) | (go_simp; rfl)); intro gb249 hg w8 hbox hb; have n0_ := z7a (below_step (by repeat (first | (with_reducible first | exact HB.out | apply z7d | apply z7b | apply z7c) | exact HB.out)) hb); have n1_ := z7a (hbox); have n2_ := z7a ((by rw [hg]; exact (below_size (by repeat (first | (with_reducible first | exact HB.out | apply z7d | apply z7b | apply z7c) | exact HB.out))) : w.heap.size ≤ gb249)); have n3_ := z7a ((by rw [hg]; exact (below_size (by repeat (first | (with_reducible first | exact HB.out | apply z7d | apply z7b | apply z7c) | exact HB.out))) : w.heap.size ≤ gb249)); clear HB; have HB := n0_; have BK249 := n1_; have GW249 := n2_; have GE249 := n3_; clear n0_ n1_ n2_ n3_; clear hb hbox hg; obtain ⟨hcz9_0, hcz9_1, hcz9_2⟩ := cells_3 BK249.out; obtain ⟨hfz9_0, hfz9_1, hfz9_2⟩ := frz_3 BK249.out) | ((with_reducible refine gate_callee (f := 157) rfl ?_); refine goesL_ (some 4) rfl rfl Try.func157 (by kernel_rfl) rfl #[.agg #[.int .i64 a0_0, .int .i64 a0_1, .int .i64 a0_2]] rfl (by (try simp only [zm7a, zm7b, zm7c]); first | done | rfl | (simp only [zm7d, zm7e]; rfl)) ?_; (with_reducible refine (y_jb.calls a0_0 a0_1 a0_2 false _ A2.out).mono ?_); rintro e w10 ⟨rfl, hb⟩; refine ⟨_, rfl, ?_⟩; have n0_ := z7a (blk_below (g := gb249) (o := .cells #[.int .i64 a0_0, .int .i64 a0_1, .int .i64 a0_2] 71 (0, 0)) (by (with_reducible repeat (first | refine blk_drewN ?_ _ | refine blk_drew ?_ | refine blk_alloc ?_ _)); exact BK249.out) hb); have n1_ := z7a (below_step (by repeat (first | (with_reducible first | exact HB.out | apply z7d | apply z7b | apply z7c | refine below_set ?_ GE249.out) | exact HB.out)) hb); clear BK249; clear HB; have BK249 := n0_; have HB := n1_; clear n0_ n1_; (try clear hb); (try clear hb2); (try clear hk); (try clear hi)))
  go_ret
  exact ⟨by first | rfl | (simp [errW_none, errW_some] <;> rfl) | (simp [*, errW_none, errW_some] <;> rfl), by repeat (first | (with_reducible first | exact HB.out | apply z7d | apply z7b | apply z7c | refine below_set ?_ GE249.out) | exact HB.out)⟩
def y_i.l0 : Nat → Int → List (S71) → Int → Int → Option (Int)
 | 0, _, _, _, _ => none
 | k + 1, x3, x6, x7, x8 => if x8 < x7 then (if 0 ≤ x8 then (if x8 < (x6.length : Int) then ((y_mb.f ((rd_T71 x6 x8).f0) ((rd_T71 x6 x8).f1) ((rd_T71 x6 x8).f2)).bind fun t253 => (y_i.l0 k (wrap64 (x3 + t253)) x6 x7 (wrap64 (x8 + 1)))) else (none)) else (none)) else (some x3)
def y_i.f (k : Nat) (l0 : List (S71)) : Option (Int) := y_i.l0 k 0 l0 (l0.length : Int) 0
theorem y_i.mono_l : ∀ k, (∀ y0 y1 y2 y3, LeO (y_i.l0 k y0 y1 y2 y3) (y_i.l0 (k + 1) y0 y1 y2 y3))
 | 0 => fun _ _ _ _ r h => by simp [y_i.l0] at h
 | k + 1 => by
  have ih0 := y_i.mono_l k
  ·intro y0 y1 y2 y3
   unfold y_i.l0
   repeat' first
   | (with_reducible exact ih0 _ _ _ _)
   | (with_reducible exact LeO.refl _)
   | (with_reducible exact LeO.none _)
   | (with_reducible refine LeO.ite ?_ ?_)
   | (with_reducible refine LeO.bind ?_ (fun _ => ?_))
   | exact ih0 _ _ _ _
   | exact LeO.none _
   | refine LeO.ite ?_ ?_
   | refine LeO.bind ?_ (fun _ => ?_)
theorem y_i.mono : ∀ a0 k, LeO (y_i.f k a0) (y_i.f (k + 1) a0) := by
 intro a0 k
 have ih0 := y_i.mono_l k
 unfold y_i.f
 repeat' first
   | (with_reducible exact ih0 _ _ _ _)
   | (with_reducible exact LeO.refl _)
   | (with_reducible exact LeO.none _)
   | (with_reducible refine LeO.ite ?_ ?_)
   | (with_reducible refine LeO.bind ?_ (fun _ => ?_))
   | exact ih0 _ _ _ _
   | exact LeO.none _
   | refine LeO.ite ?_ ?_
   | refine LeO.bind ?_ (fun _ => ?_)
theorem y_i.calls (k : Nat) (A0 : Option Addr) (c0 : Nat) (l0 : List (S71)) (r : Int) (w : World) (hr0 : Kd.C k71 w A0 l0.length l0) (hc0 : l0.length ≤ c0) (h : y_i.f k l0 = some r) :
  Calls Try.prog 109 #[.slice A0 l0.length c0] w fun e w' => e = .returned (.int .i64 r) ∧ Below w.heap.size w w' := by
 have hu71 := Try.underlying71
 have HR0 := z7a hr0
 have HC0 := z7a hc0
 clear hr0 hc0
 have HB := z7a (Below.refl w.heap.size w)
 have H : (y_i.l0 k 0 l0 (l0.length : Int) 0) = some r := h
 clear h
 have H' := z7a H
 clear H
 go_enter Try.func109, Try.ntmps109
 go_wp2
 go_loopg [3, 8] k (fun kq v3 v8 w' => ∃ (x3_1 : Int) (x8_1 : Int), v3 = .int .i64 x3_1 ∧ v8 = .int .i64 x8_1 ∧ Aside0 (y_i.l0 kq x3_1 l0 (l0.length : Int) x8_1 = some r) ∧ Aside0 (kq ≤ k) ∧ Aside0 (Below w.heap.size w w'))
 case atStart => exact ⟨(0), (0), (by first | rfl | (simp; done) | (simp [*]; done)), (by first | rfl | (simp; done) | (simp [*]; done)), H', ⟨Nat.le_refl _⟩, ⟨by repeat (first | (with_reducible first | exact HB.out | apply z7d | apply z7b | apply z7c) | exact HB.out)⟩⟩
 case round =>
  clear H'
  try clear c1
  obtain ⟨x3_1, x8_1, rfl, rfl, HA, HK1, HB⟩ := hrel
  cases gk with
  | zero => exact absurd HA.out (by simp [y_i.l0])
  | succ k1 =>
   have H := HA.out
   clear HA
   simp only [y_i.l0] at H
   by_cases c2 : x8_1 < (l0.length : Int)
   ·rw [if_pos c2] at H
    have c2b0 : decide (x8_1 < (l0.length : Int)) = true := z7h c2
    clear c2
    by_cases c3 : 0 ≤ x8_1
    ·rw [if_pos c3] at H
     have c3b0 : decide (0 ≤ x8_1) = true := z7h c3
     clear c3
     by_cases c4 : x8_1 < (l0.length : Int)
     ·rw [if_pos c4] at H
      have c4b0 : decide (x8_1 < (l0.length : Int)) = true := z7h c4
      clear c4
      replace H := z7f.mp H
      obtain ⟨t253, A50, H⟩ := H
      have A5 := z7a A50
      clear A50
      have H' := z7a H
      clear H
      have p251 : 0 ≤ (x8_1 : Int) := z7g (by first | (with_reducible assumption) | assumption)
      have q251 : x8_1 < (l0.length : Int) := z7g (by first | (with_reducible assumption) | assumption)
      obtain ⟨ad251, e251, hx251_0, hx251_1, hx251_2⟩ := at_T71 HR0.out x8_1 p251 q251
      cases e251
      replace hx251_0 := (HB.out.cell (z7e w _ hx251_0)).trans hx251_0
      replace hx251_1 := (HB.out.cell (z7e w _ hx251_1)).trans hx251_1
      replace hx251_2 := (HB.out.cell (z7e w _ hx251_2)).trans hx251_2
      replace p251 := eq_true p251
      replace q251 := eq_true q251
      go_wp2_with (first | ((with_reducible refine gate_dst (N := 5) rfl ?_); refine box_event ?hg (N := 5) ?hd (cs := #[.int .i64 0, .int .i64 0, .int .i64 0]) (t := 71) ?hr ?_; (case hd => rfl); (case hg => rfl); (case hr => first | (go_simp; done) | (go_simp; rfl)); intro gb252 hg w6 hbox hb; have n0_ := z7a (below_step (by repeat (first | (with_reducible first | exact HB.out | apply z7d | apply z7b | apply z7c) | exact HB.out)) hb); have n1_ := z7a (hbox); have n2_ := z7a ((by rw [hg]; exact (below_size (by repeat (first | (with_reducible first | exact HB.out | apply z7d | apply z7b | apply z7c) | exact HB.out))) : w.heap.size ≤ gb252)); have n3_ := z7a ((by rw [hg]; exact (below_size (by repeat (first | (with_reducible first | exact HB.out | apply z7d | apply z7b | apply z7c) | exact HB.out))) : w.heap.size ≤ gb252)); clear HB; have HB := n0_; have BK252 := n1_; have GW252 := n2_; have GE252 := n3_; clear n0_ n1_ n2_ n3_; clear hb hbox hg; obtain ⟨hcz7_0, hcz7_1, hcz7_2⟩ := cells_3 BK252.out; obtain ⟨hfz7_0, hfz7_1, hfz7_2⟩ := frz_3 BK252.out) | ((with_reducible refine gate_callee (f := 110) rfl ?_); refine goesL_ (some 14) rfl rfl Try.func110 (by kernel_rfl) rfl #[.agg #[.int .i64 ((rd_T71 l0 x8_1).f0), .int .i64 ((rd_T71 l0 x8_1).f1), .int .i64 ((rd_T71 l0 x8_1).f2)]] rfl (by (try simp only [zm7a, zm7b, zm7c]); first | done | rfl | (simp only [zm7d, zm7e]; rfl)) ?_; (with_reducible refine (y_mb.calls ((rd_T71 l0 x8_1).f0) ((rd_T71 l0 x8_1).f1) ((rd_T71 l0 x8_1).f2) t253 _ A5.out).mono ?_); rintro e w8 ⟨rfl, hb⟩; refine ⟨_, rfl, ?_⟩; have n0_ := z7a (blk_below (g := gb252) (o := .cells #[.int .i64 ((rd_T71 l0 x8_1).f0), .int .i64 ((rd_T71 l0 x8_1).f1), .int .i64 ((rd_T71 l0 x8_1).f2)] 71 (0, 0)) (by (with_reducible repeat (first | refine blk_drewN ?_ _ | refine blk_drew ?_ | refine blk_alloc ?_ _)); refine blk_put (cs := #[.int .i64 ((rd_T71 l0 x8_1).f0), .int .i64 ((rd_T71 l0 x8_1).f1), .int .i64 0]) ?_ 2 _ rfl; (with_reducible repeat (first | refine blk_drewN ?_ _ | refine blk_drew ?_ | refine blk_alloc ?_ _)); refine blk_put (cs := #[.int .i64 ((rd_T71 l0 x8_1).f0), .int .i64 0, .int .i64 0]) ?_ 1 _ rfl; (with_reducible repeat (first | refine blk_drewN ?_ _ | refine blk_drew ?_ | refine blk_alloc ?_ _)); refine blk_put (cs := #[.int .i64 0, .int .i64 0, .int .i64 0]) ?_ 0 _ rfl; (with_reducible repeat (first | refine blk_drewN ?_ _ | refine blk_drew ?_ | refine blk_alloc ?_ _)); exact BK252.out) hb); have n1_ := z7a (below_step (by repeat (first | (with_reducible first | exact HB.out | apply z7d | apply z7b | apply z7c | refine below_set ?_ GE252.out) | exact HB.out)) hb); clear BK252; clear HB; have BK252 := n0_; have HB := n1_; clear n0_ n1_; (try clear hb); (try clear hb2); (try clear hk); (try clear hi)))
      go_roundg k1
      case measure => have := HK1.out; omega
      case rel => exact ⟨(wrap64 (x3_1 + t253)), (wrap64 (x8_1 + 1)), (by first | rfl | (simp; done) | (simp [*]; done)), (by first | rfl | (simp; done) | (simp [*]; done)), H', ⟨by have := HK1.out; omega⟩, ⟨by repeat (first | (with_reducible first | exact HB.out | apply z7d | apply z7b | apply z7c | refine below_set ?_ GE252.out) | exact HB.out)⟩⟩
     ·rw [if_neg c4] at H
      exact absurd H (by simp)
    ·rw [if_neg c3] at H
     exact absurd H (by simp)
   ·rw [if_neg c2] at H
    have c2b0 : decide (x8_1 < (l0.length : Int)) = false := decide_eq_false c2
    clear c2
    obtain rfl := Option.some.inj H
    go_wp2
    go_ret
    exact ⟨by first | rfl | (simp [errW_none, errW_some] <;> rfl) | (simp [*, errW_none, errW_some] <;> rfl), by repeat (first | (with_reducible first | exact HB.out | apply z7d | apply z7b | apply z7c) | exact HB.out)⟩
def y_fb.f (a0_0 : Int) (a0_1 : Int) (a0_2 : Int) (l1 : List (S71)) : Option (Bool) := if (l1.length : Int) > 0 then (if 0 ≤ (wrap64 ((l1.length : Int) - 1)) then (if (wrap64 ((l1.length : Int) - 1)) < (l1.length : Int) then ((y_eb.f a0_0 a0_1 a0_2 ((rd_T71 l1 (wrap64 ((l1.length : Int) - 1))).f0) ((rd_T71 l1 (wrap64 ((l1.length : Int) - 1))).f1) ((rd_T71 l1 (wrap64 ((l1.length : Int) - 1))).f2)).bind fun t256 => (some (decide (t256 < 0)))) else (none)) else (none)) else (some false)
def y_fb.T1 : Bool × List (List Nat × List Nat) := (true, [([], []), ([0], [0]), ([1], [1]), ([2], [2]), ([3], [3]), ([3], [3]), ([3], [3]), ([6, 3], [3, 6]), ([7, 3], [3, 7]), ([5, 8, 3], [3, 5, 8]), ([9, 3], [3, 9]), ([4, 10, 3, 3], [3, 4, 10]), ([11, 3], [3, 11]), ([3, 12], [3, 12]), ([13, 11, 0, 1, 2, 3, 4, 5, 6, 7, 8, 9, 10, 11, 12, 13], [13])])
def y_fb.B1 : List Nat := [0, 1, 3, 7, 15, 15, 15, 79, 207, 495, 1007, 2047, 4095, 8191, 16383]
theorem y_fb.tab1 : rtab .any (opsOf Try.f111 1) = y_fb.T1 := by kernel_rfl
theorem y_fb.bits1 : waitsOk y_fb.T1.2 y_fb.B1 = true := by kernel_rfl
theorem y_fb.calls (a0_0 : Int) (a0_1 : Int) (a0_2 : Int) (A1 : Option Addr) (c1 : Nat) (l1 : List (S71)) (r : Bool) (w : World) (hr1 : Kd.C k71 w A1 l1.length l1) (hc1 : l1.length ≤ c1) (h : y_fb.f a0_0 a0_1 a0_2 l1 = some r) :
  Calls Try.prog 111 #[.agg #[.int .i64 a0_0, .int .i64 a0_1, .int .i64 a0_2], .slice A1 l1.length c1] w fun e w' => e = .returned (.bool r) ∧ Below w.heap.size w w' := by
 have hu71 := Try.underlying71
 have HR1 := z7a hr1
 have HC1 := z7a hc1
 clear hr1 hc1
 have HB := z7a (Below.refl w.heap.size w)
 have H := h
 unfold y_fb.f at H
 clear h
 by_cases c3 : (l1.length : Int) > 0
 ·rw [if_pos c3] at H
  have c3b0 : decide (0 < (l1.length : Int)) = true := z7h c3
  have c3b1 : decide (0 < l1.length) = true := z7h (by omega)
  clear c3
  obtain ⟨ji4, hji4⟩ : ∃ j_ : Int, (wrap64 ((l1.length : Int) - 1)) = j_ := ⟨_, rfl⟩
  replace H : (if 0 ≤ (ji4) then (if (ji4) < (l1.length : Int) then ((y_eb.f a0_0 a0_1 a0_2 ((rd_T71 l1 (ji4)).f0) ((rd_T71 l1 (ji4)).f1) ((rd_T71 l1 (ji4)).f2)).bind fun t256 => (some (decide (t256 < 0)))) else (none)) else (none)) = some r := by first | (rw [hji4] at H; exact H) | (simp only [hji4] at H ⊢; exact H)
  have hji4w : (IntKind.i64.wrap ((l1.length : Int) - 1)) = ji4 := (i64_w _).trans hji4
  by_cases c5 : 0 ≤ (ji4)
  ·rw [if_pos c5] at H
   have c5b0 : decide (0 ≤ (ji4)) = true := z7h c5
   clear c5
   by_cases c6 : (ji4) < (l1.length : Int)
   ·rw [if_pos c6] at H
    have c6b0 : decide ((ji4) < (l1.length : Int)) = true := z7h c6
    clear c6
    replace H := z7f.mp H
    obtain ⟨t256, A70, H⟩ := H
    have A7 := z7a A70
    clear A70
    obtain rfl := Option.some.inj H
    go_enter Try.func111, Try.ntmps111
    try go_wp2_with (first | ((with_reducible refine gate_dst (N := 2) rfl ?_); (try (refine gate_guard (by rfl) ?_; dsimp only)); refine box_event ?hg (N := 2) ?hd (cs := #[.int .i64 a0_0, .int .i64 a0_1, .int .i64 a0_2]) (t := 71) ?hr ?_; (case hd => rfl); (case hg => rfl); (case hr => first | (go_simp; done) | (go_simp; rfl)); intro gb254 hg w8 hbox hb; have n0_ := z7a (below_step (by repeat (first | (with_reducible first | exact HB.out | apply z7d | apply z7b | apply z7c) | exact HB.out)) hb); have n1_ := z7a (hbox); have n2_ := z7a ((by rw [hg]; exact (below_size (by repeat (first | (with_reducible first | exact HB.out | apply z7d | apply z7b | apply z7c) | exact HB.out))) : w.heap.size ≤ gb254)); have n3_ := z7a ((by rw [hg]; exact (below_size (by repeat (first | (with_reducible first | exact HB.out | apply z7d | apply z7b | apply z7c) | exact HB.out))) : w.heap.size ≤ gb254)); clear HB; have HB := n0_; have BK254 := n1_; have GW254 := n2_; have GE254 := n3_; clear n0_ n1_ n2_ n3_; clear hb hbox hg))
    have n0_ := z7a (blk_drew BK254.out)
    have n1_ := z7a (z7c HB.out)
    clear BK254
    clear HB
    have BK254 := n0_
    have HB := n1_
    clear n0_ n1_
    have p255 : 0 ≤ ((ji4) : Int) := z7g (by first | (with_reducible assumption) | assumption)
    have q255 : (ji4) < (l1.length : Int) := z7g (by first | (with_reducible assumption) | assumption)
    obtain ⟨ad255, e255, hx255_0, hx255_1, hx255_2⟩ := at_T71 HR1.out (ji4) p255 q255
    have hw255_2 := hx255_2
    have hw255_1 := hx255_1
    have hw255_0 := hx255_0
    cases e255
    replace hx255_0 := (HB.out.cell (z7e w _ hx255_0)).trans hx255_0
    replace hx255_1 := (HB.out.cell (z7e w _ hx255_1)).trans hx255_1
    replace hx255_2 := (HB.out.cell (z7e w _ hx255_2)).trans hx255_2
    replace p255 := eq_true p255
    replace q255 := eq_true q255
    refine start_ (n := 15) (S := fun w' => w'.cell? ⟨gb254, 0, none⟩ = some (.int .i64 a0_0) ∧ w'.cell? ⟨gb254, 1, none⟩ = some (.int .i64 a0_1) ∧ w'.cell? ⟨gb254, 2, none⟩ = some (.int .i64 a0_2) ∧ w'.cell? (ad255.add (((ji4)).toNat * 3)) = some (.int .i64 ((rd_T71 l1 (ji4)).f0)) ∧ w'.cell? ⟨(ad255.add (((ji4)).toNat * 3)).block, (ad255.add (((ji4)).toNat * 3)).off + 1, none⟩ = some (.int .i64 ((rd_T71 l1 (ji4)).f1)) ∧ w'.cell? ⟨(ad255.add (((ji4)).toNat * 3)).block, (ad255.add (((ji4)).toNat * 3)).off + 2, none⟩ = some (.int .i64 ((rd_T71 l1 (ji4)).f2))) (ds := []) #[zf7,zf7,zf7,zf7,zf7,zf7,zf7,zf7,zf7,zf7,zf7,zf7,zf7,zf7,zf7] (by kernel_rfl) rfl rfl ⟨(blk_cell BK254.out 0).trans rfl, (blk_cell BK254.out 1).trans rfl, (blk_cell BK254.out 2).trans rfl, ((HB.out.cell (z7e w _ hw255_0)).trans hw255_0), ((HB.out.cell (z7e w _ hw255_1)).trans hw255_1), ((HB.out.cell (z7e w _ hw255_2)).trans hw255_2)⟩ (fun hHeld => ?_); refine with_tabW y_fb.tab1 y_fb.bits1 (fun HT_ HW_ => ?_)
    generalize w8.drew = w9 at BK254 HB hx255_0 hx255_1 hx255_2 hHeld ⊢
    refine pure_ (i := 0) (N := some 5) (v := ?_) (a' := ?_) #[zt7,zf7,zf7,zf7,zf7,zf7,zf7,zf7,zf7,zf7,zf7,zf7,zf7,zf7,zf7] rfl rfl (any_of HT_.out (by kernel_rfl)) (fun _ _ _ h => h) (Or.inl ⟨by rfl, ?_⟩) ?_ ?_
    rotate_left
    ·intro w'
     go_simp
     with_reducible rfl
    rotate_left
    ·simp only [Act.put, zp7a, zp7b, zp7c, i64_w, i32_w]
     rfl
    refine pure_ (i := 1) (N := some 6) (v := ?_) (a' := ?_) #[zt7,zt7,zf7,zf7,zf7,zf7,zf7,zf7,zf7,zf7,zf7,zf7,zf7,zf7,zf7] rfl rfl (any_of HT_.out (by kernel_rfl)) (fun _ _ _ h => h) (Or.inl ⟨by rfl, ?_⟩) ?_ ?_
    rotate_left
    ·intro w'
     go_simp
     with_reducible rfl
    rotate_left
    ·simp only [Act.put, zp7a, zp7b, zp7c, i64_w, i32_w]
     rfl
    refine pure_ (i := 2) (N := some 7) (v := ?_) (a' := ?_) #[zt7,zt7,zt7,zf7,zf7,zf7,zf7,zf7,zf7,zf7,zf7,zf7,zf7,zf7,zf7] rfl rfl (any_of HT_.out (by kernel_rfl)) (fun _ _ _ h => h) (Or.inl ⟨by rfl, ?_⟩) ?_ ?_
    rotate_left
    ·intro w'
     go_simp
     with_reducible rfl
    rotate_left
    ·simp only [Act.put, zp7a, zp7b, zp7c, i64_w, i32_w]
     rfl
    refine pure_ (i := 3) (N := some 8) (v := ?_) (a' := ?_) #[zt7,zt7,zt7,zt7,zf7,zf7,zf7,zf7,zf7,zf7,zf7,zf7,zf7,zf7,zf7] rfl rfl (any_of HT_.out (by kernel_rfl)) (fun _ _ _ h => h) (Or.inl ⟨by rfl, ?_⟩) ?_ ?_
    rotate_left
    ·intro w'
     go_simp
     with_reducible rfl
    rotate_left
    ·simp only [Act.put, zp7a, zp7b, zp7c, i64_w, i32_w]
     rfl
    refine pure_ (i := 5) (N := some 10) (v := ?_) (a' := ?_) #[zt7,zt7,zt7,zt7,zf7,zt7,zf7,zf7,zf7,zf7,zf7,zf7,zf7,zf7,zf7] rfl rfl (any_of HT_.out (by kernel_rfl)) (fun _ _ _ h => h) (Or.inl ⟨by rfl, ?_⟩) ?_ ?_
    rotate_left
    ·intro w'
     go_simp
     with_reducible rfl
    rotate_left
    ·simp only [Act.put, zp7a, zp7b, zp7c, i64_w, i32_w]
     rfl
    refine pure_ (i := 6) (N := some 11) (v := ?_) (a' := ?_) #[zt7,zt7,zt7,zt7,zf7,zt7,zt7,zf7,zf7,zf7,zf7,zf7,zf7,zf7,zf7] rfl rfl (any_of HT_.out (by kernel_rfl)) (fun _ _ _ h => h) (Or.inl ⟨by rfl, ?_⟩) ?_ ?_
    rotate_left
    ·intro w'
     go_simp
     with_reducible rfl
    rotate_left
    ·simp only [Act.put, zp7a, zp7b, zp7c, i64_w, i32_w]
     rfl
    refine pure_ (i := 7) (N := some 12) (v := ?_) (a' := ?_) #[zt7,zt7,zt7,zt7,zf7,zt7,zt7,zt7,zf7,zf7,zf7,zf7,zf7,zf7,zf7] rfl rfl (any_of HT_.out (by kernel_rfl)) (fun _ _ _ h => h) (Or.inl ⟨by rfl, ?_⟩) ?_ ?_
    rotate_left
    ·intro w'
     go_simp
     with_reducible rfl
    rotate_left
    ·simp only [Act.put, zp7a, zp7b, zp7c, i64_w, i32_w]
     rfl
    refine pure_ (i := 8) (N := some 13) (v := ?_) (a' := ?_) #[zt7,zt7,zt7,zt7,zf7,zt7,zt7,zt7,zt7,zf7,zf7,zf7,zf7,zf7,zf7] rfl rfl (any_of HT_.out (by kernel_rfl)) (fun _ _ _ h => h) (Or.inl ⟨by rfl, ?_⟩) ?_ ?_
    rotate_left
    ·intro w'
     go_simp
     with_reducible rfl
    rotate_left
    ·simp only [Act.put, zp7a, zp7b, zp7c, i64_w, i32_w]
     rfl
    refine pure_ (i := 9) (N := some 14) (v := ?_) (a' := ?_) #[zt7,zt7,zt7,zt7,zf7,zt7,zt7,zt7,zt7,zt7,zf7,zf7,zf7,zf7,zf7] rfl rfl (any_of HT_.out (by kernel_rfl)) (fun _ _ _ h => h) (Or.inl ⟨by rfl, ?_⟩) ?_ ?_
    rotate_left
    ·intro w'
     go_simp
     with_reducible rfl
    rotate_left
    ·simp only [Act.put, zp7a, zp7b, zp7c, i64_w, i32_w]
     rfl
    refine take_ (i := 4) (N := some 9) (v := ?_) (a' := ?_) #[zt7,zt7,zt7,zt7,zt7,zt7,zt7,zt7,zt7,zt7,zf7,zf7,zf7,zf7,zf7] rfl rfl (take_ofW HT_.out HW_.out (by kernel_rfl)) (fun _ _ _ h => h) (Or.inl ⟨by rfl, ?_⟩) hHeld ?_ ?_
    rotate_left
    ·rintro w' ⟨s0, s1, s2, s3, s4, s5⟩
     go_simp
     with_reducible rfl
    rotate_left
    ·simp only [Act.put, zp7a, zp7b, zp7c, i64_w, i32_w]
     rfl
    refine take_ (i := 10) (N := some 15) (v := ?_) (a' := ?_) #[zt7,zt7,zt7,zt7,zt7,zt7,zt7,zt7,zt7,zt7,zt7,zf7,zf7,zf7,zf7] rfl rfl (take_ofW HT_.out HW_.out (by kernel_rfl)) (fun _ _ _ h => h) (Or.inl ⟨by rfl, ?_⟩) hHeld ?_ ?_
    rotate_left
    ·rintro w' ⟨s0, s1, s2, s3, s4, s5⟩
     go_simp
     with_reducible rfl
    rotate_left
    ·simp only [Act.put, zp7a, zp7b, zp7c, i64_w, i32_w]
     rfl
    refine one_ (i := 11) (N := some 16) #[zt7,zt7,zt7,zt7,zt7,zt7,zt7,zt7,zt7,zt7,zt7,zt7,zf7,zf7,zf7] rfl rfl (one_of HT_.out (by kernel_rfl)) (by decide) (fun K hK => ?_)
    refine goes_ Try.func122 (by kernel_rfl) rfl #[.agg #[.int .i64 a0_0, .int .i64 a0_1, .int .i64 a0_2], .agg #[.int .i64 ((rd_T71 l1 (ji4)).f0), .int .i64 ((rd_T71 l1 (ji4)).f1), .int .i64 ((rd_T71 l1 (ji4)).f2)]] (by rfl) rfl rfl (by (try simp only [zm7a, zm7b, zm7c]); first | done | (simp only [hji4]; rfl) | rfl | (simp only [zm7d, zm7e]; rfl)) ?_
    with_reducible refine (y_eb.calls a0_0 a0_1 a0_2 ((rd_T71 l1 (ji4)).f0) ((rd_T71 l1 (ji4)).f1) ((rd_T71 l1 (ji4)).f2) t256 _ A7.out).mono ?_
    rintro e w10 ⟨rfl, hb⟩
    refine ⟨_, rfl, ?_⟩
    have n0_ := z7a (blk_below (g := gb254) (o := .cells #[.int .i64 a0_0, .int .i64 a0_1, .int .i64 a0_2] 71 (0, 0)) (by (with_reducible repeat (first | refine blk_drewN ?_ _ | refine blk_drew ?_ | refine blk_alloc ?_ _)); exact BK254.out) hb)
    have n1_ := z7a (below_step (by repeat (first | (with_reducible first | exact HB.out | apply z7d | apply z7b | apply z7c | refine below_set ?_ GE254.out) | exact HB.out)) hb)
    clear BK254
    clear HB
    have BK254 := n0_
    have HB := n1_
    clear n0_ n1_
    (try clear hb)
    (try clear hb2)
    (try clear hk)
    (try clear hi)
    refine hK.out _ _ ⟨(blk_cell BK254.out 0).trans rfl, (blk_cell BK254.out 1).trans rfl, (blk_cell BK254.out 2).trans rfl, ((HB.out.cell (z7e w _ hw255_0)).trans hw255_0), ((HB.out.cell (z7e w _ hw255_1)).trans hw255_1), ((HB.out.cell (z7e w _ hw255_2)).trans hw255_2)⟩ (fun hHeld => ?_)
    clear hK K
    refine norm_ (a' := ?_) ?_ ?_
    rotate_left
    ·show Act.put _ (some 16) _ = _
     simp only [Act.put, zp7a, zp7b, zp7c, i64_w, i32_w]
     rfl
    refine pure_ (i := 12) (N := some 17) (v := ?_) (a' := ?_) #[zt7,zt7,zt7,zt7,zt7,zt7,zt7,zt7,zt7,zt7,zt7,zt7,zt7,zf7,zf7] rfl rfl (any_of HT_.out (by kernel_rfl)) (fun _ _ _ h => h) (Or.inl ⟨by rfl, ?_⟩) ?_ ?_
    rotate_left
    ·intro w'
     go_simp
     with_reducible rfl
    rotate_left
    ·simp only [Act.put, zp7a, zp7b, zp7c, i64_w, i32_w]
     rfl
    refine pure_ (i := 13) (N := some 18) (v := ?_) (a' := ?_) #[zt7,zt7,zt7,zt7,zt7,zt7,zt7,zt7,zt7,zt7,zt7,zt7,zt7,zt7,zf7] rfl rfl (any_of HT_.out (by kernel_rfl)) (fun _ _ _ h => h) (Or.inl ⟨by rfl, ?_⟩) ?_ ?_
    rotate_left
    ·intro w'
     go_simp
     with_reducible rfl
    rotate_left
    ·simp only [Act.put, zp7a, zp7b, zp7c, i64_w, i32_w]
     rfl
    refine pure_ (i := 14) (N := some 4) (v := ?_) (a' := ?_) #[zt7,zt7,zt7,zt7,zt7,zt7,zt7,zt7,zt7,zt7,zt7,zt7,zt7,zt7,zt7] rfl rfl (any_of HT_.out (by kernel_rfl)) (fun _ _ _ h => h) (Or.inl ⟨by rfl, ?_⟩) ?_ ?_
    rotate_left
    ·intro w'
     go_simp
     with_reducible rfl
    rotate_left
    ·simp only [Act.put, zp7a, zp7b, zp7c, i64_w, i32_w]
     rfl
    refine done_ (done_of HT_.out (by kernel_rfl)) ?_
    try go_wp2
    go_ret
    exact ⟨by first | rfl | (simp [errW_none, errW_some] <;> rfl) | (simp only [← hji4]; first | rfl | (simp [errW_none, errW_some] <;> rfl)) | (simp [*, errW_none, errW_some] <;> rfl), by repeat (first | (with_reducible first | exact HB.out | apply z7d | apply z7b | apply z7c | refine below_set ?_ GE254.out) | exact HB.out)⟩
   ·rw [if_neg c6] at H
    exact absurd H (by simp)
  ·rw [if_neg c5] at H
   exact absurd H (by simp)
 ·rw [if_neg c3] at H
  have c3b0 : decide (0 < (l1.length : Int)) = false := decide_eq_false c3
  have c3b1 : decide (0 < l1.length) = false := decide_eq_false (by omega)
  clear c3
  obtain rfl := Option.some.inj H
  go_enter Try.func111, Try.ntmps111
  try go_wp2_with (first | ((with_reducible refine gate_dst (N := 2) rfl ?_); (try (refine gate_guard (by rfl) ?_; dsimp only)); refine box_event ?hg (N := 2) ?hd (cs := #[.int .i64 a0_0, .int .i64 a0_1, .int .i64 a0_2]) (t := 71) ?hr ?_; (case hd => rfl); (case hg => rfl); (case hr => first | (go_simp; done) | (go_simp; rfl)); intro gb254 hg w11 hbox hb; have n0_ := z7a (below_step (by repeat (first | (with_reducible first | exact HB.out | apply z7d | apply z7b | apply z7c) | exact HB.out)) hb); have n1_ := z7a (hbox); have n2_ := z7a ((by rw [hg]; exact (below_size (by repeat (first | (with_reducible first | exact HB.out | apply z7d | apply z7b | apply z7c) | exact HB.out))) : w.heap.size ≤ gb254)); have n3_ := z7a ((by rw [hg]; exact (below_size (by repeat (first | (with_reducible first | exact HB.out | apply z7d | apply z7b | apply z7c) | exact HB.out))) : w.heap.size ≤ gb254)); clear HB; have HB := n0_; have BK254 := n1_; have GW254 := n2_; have GE254 := n3_; clear n0_ n1_ n2_ n3_; clear hb hbox hg))
  have n0_ := z7a (blk_drew BK254.out)
  have n1_ := z7a (z7c HB.out)
  clear BK254
  clear HB
  have BK254 := n0_
  have HB := n1_
  clear n0_ n1_
  refine start_ (n := 15) (S := fun w' => True) (ds := []) #[zf7,zf7,zf7,zf7,zf7,zf7,zf7,zf7,zf7,zf7,zf7,zf7,zf7,zf7,zf7] (by kernel_rfl) rfl rfl trivial (fun hHeld => ?_); refine with_tabW y_fb.tab1 y_fb.bits1 (fun HT_ HW_ => ?_)
  generalize w11.drew = w12 at BK254 HB hHeld ⊢
  refine pure_ (i := 0) (N := some 5) (v := ?_) (a' := ?_) #[zt7,zf7,zf7,zf7,zf7,zf7,zf7,zf7,zf7,zf7,zf7,zf7,zf7,zf7,zf7] rfl rfl (any_of HT_.out (by kernel_rfl)) (fun _ _ _ h => h) (Or.inl ⟨by rfl, ?_⟩) ?_ ?_
  rotate_left
  ·intro w'
   go_simp
   with_reducible rfl
  rotate_left
  ·simp only [Act.put, zp7a, zp7b, zp7c, i64_w, i32_w]
   rfl
  refine pure_ (i := 1) (N := some 6) (v := ?_) (a' := ?_) #[zt7,zt7,zf7,zf7,zf7,zf7,zf7,zf7,zf7,zf7,zf7,zf7,zf7,zf7,zf7] rfl rfl (any_of HT_.out (by kernel_rfl)) (fun _ _ _ h => h) (Or.inl ⟨by rfl, ?_⟩) ?_ ?_
  rotate_left
  ·intro w'
   go_simp
   with_reducible rfl
  rotate_left
  ·simp only [Act.put, zp7a, zp7b, zp7c, i64_w, i32_w]
   rfl
  refine pure_ (i := 2) (N := some 7) (v := ?_) (a' := ?_) #[zt7,zt7,zt7,zf7,zf7,zf7,zf7,zf7,zf7,zf7,zf7,zf7,zf7,zf7,zf7] rfl rfl (any_of HT_.out (by kernel_rfl)) (fun _ _ _ h => h) (Or.inl ⟨by rfl, ?_⟩) ?_ ?_
  rotate_left
  ·intro w'
   go_simp
   with_reducible rfl
  rotate_left
  ·simp only [Act.put, zp7a, zp7b, zp7c, i64_w, i32_w]
   rfl
  refine pure_ (i := 3) (N := some 8) (v := ?_) (a' := ?_) #[zt7,zt7,zt7,zt7,zf7,zf7,zf7,zf7,zf7,zf7,zf7,zf7,zf7,zf7,zf7] rfl rfl (any_of HT_.out (by kernel_rfl)) (fun _ _ _ h => h) (Or.inl ⟨by rfl, ?_⟩) ?_ ?_
  rotate_left
  ·intro w'
   go_simp
   with_reducible rfl
  rotate_left
  ·simp only [Act.put, zp7a, zp7b, zp7c, i64_w, i32_w]
   rfl
  refine pure_ (i := 4) (N := some 9) (v := undef) (a' := ?_) #[zt7,zt7,zt7,zt7,zt7,zf7,zf7,zf7,zf7,zf7,zf7,zf7,zf7,zf7,zf7] rfl rfl (any_of HT_.out (by kernel_rfl)) (fun _ _ _ h => h) (Or.inr ⟨by rfl, rfl⟩) ?_ ?_
  rotate_left
  ·simp only [Act.put, zp7a, zp7b, zp7c, i64_w, i32_w]
   rfl
  refine pure_ (i := 5) (N := some 10) (v := undef) (a' := ?_) #[zt7,zt7,zt7,zt7,zt7,zt7,zf7,zf7,zf7,zf7,zf7,zf7,zf7,zf7,zf7] rfl rfl (any_of HT_.out (by kernel_rfl)) (fun _ _ _ h => h) (Or.inr ⟨by rfl, rfl⟩) ?_ ?_
  rotate_left
  ·simp only [Act.put, zp7a, zp7b, zp7c, i64_w, i32_w]
   rfl
  refine pure_ (i := 6) (N := some 11) (v := undef) (a' := ?_) #[zt7,zt7,zt7,zt7,zt7,zt7,zt7,zf7,zf7,zf7,zf7,zf7,zf7,zf7,zf7] rfl rfl (any_of HT_.out (by kernel_rfl)) (fun _ _ _ h => h) (Or.inr ⟨by rfl, rfl⟩) ?_ ?_
  rotate_left
  ·simp only [Act.put, zp7a, zp7b, zp7c, i64_w, i32_w]
   rfl
  refine pure_ (i := 7) (N := some 12) (v := undef) (a' := ?_) #[zt7,zt7,zt7,zt7,zt7,zt7,zt7,zt7,zf7,zf7,zf7,zf7,zf7,zf7,zf7] rfl rfl (any_of HT_.out (by kernel_rfl)) (fun _ _ _ h => h) (Or.inr ⟨by rfl, rfl⟩) ?_ ?_
  rotate_left
  ·simp only [Act.put, zp7a, zp7b, zp7c, i64_w, i32_w]
   rfl
  refine pure_ (i := 8) (N := some 13) (v := undef) (a' := ?_) #[zt7,zt7,zt7,zt7,zt7,zt7,zt7,zt7,zt7,zf7,zf7,zf7,zf7,zf7,zf7] rfl rfl (any_of HT_.out (by kernel_rfl)) (fun _ _ _ h => h) (Or.inr ⟨by rfl, rfl⟩) ?_ ?_
  rotate_left
  ·simp only [Act.put, zp7a, zp7b, zp7c, i64_w, i32_w]
   rfl
  refine pure_ (i := 9) (N := some 14) (v := undef) (a' := ?_) #[zt7,zt7,zt7,zt7,zt7,zt7,zt7,zt7,zt7,zt7,zf7,zf7,zf7,zf7,zf7] rfl rfl (any_of HT_.out (by kernel_rfl)) (fun _ _ _ h => h) (Or.inr ⟨by rfl, rfl⟩) ?_ ?_
  rotate_left
  ·simp only [Act.put, zp7a, zp7b, zp7c, i64_w, i32_w]
   rfl
  refine pure_ (i := 10) (N := some 15) (v := undef) (a' := ?_) #[zt7,zt7,zt7,zt7,zt7,zt7,zt7,zt7,zt7,zt7,zt7,zf7,zf7,zf7,zf7] rfl rfl (any_of HT_.out (by kernel_rfl)) (fun _ _ _ h => h) (Or.inr ⟨by rfl, rfl⟩) ?_ ?_
  rotate_left
  ·simp only [Act.put, zp7a, zp7b, zp7c, i64_w, i32_w]
   rfl
  refine pure_ (i := 11) (N := some 16) (v := undef) (a' := ?_) #[zt7,zt7,zt7,zt7,zt7,zt7,zt7,zt7,zt7,zt7,zt7,zt7,zf7,zf7,zf7] rfl rfl (any_of HT_.out (by kernel_rfl)) (fun _ _ _ h => h) (Or.inr ⟨by rfl, rfl⟩) ?_ ?_
  rotate_left
  ·simp only [Act.put, zp7a, zp7b, zp7c, i64_w, i32_w]
   rfl
  refine pure_ (i := 12) (N := some 17) (v := undef) (a' := ?_) #[zt7,zt7,zt7,zt7,zt7,zt7,zt7,zt7,zt7,zt7,zt7,zt7,zt7,zf7,zf7] rfl rfl (any_of HT_.out (by kernel_rfl)) (fun _ _ _ h => h) (Or.inr ⟨by rfl, rfl⟩) ?_ ?_
  rotate_left
  ·simp only [Act.put, zp7a, zp7b, zp7c, i64_w, i32_w]
   rfl
  refine pure_ (i := 13) (N := some 18) (v := ?_) (a' := ?_) #[zt7,zt7,zt7,zt7,zt7,zt7,zt7,zt7,zt7,zt7,zt7,zt7,zt7,zt7,zf7] rfl rfl (any_of HT_.out (by kernel_rfl)) (fun _ _ _ h => h) (Or.inl ⟨by rfl, ?_⟩) ?_ ?_
  rotate_left
  ·intro w'
   go_simp
   with_reducible rfl
  rotate_left
  ·simp only [Act.put, zp7a, zp7b, zp7c, i64_w, i32_w]
   rfl
  refine pure_ (i := 14) (N := some 4) (v := ?_) (a' := ?_) #[zt7,zt7,zt7,zt7,zt7,zt7,zt7,zt7,zt7,zt7,zt7,zt7,zt7,zt7,zt7] rfl rfl (any_of HT_.out (by kernel_rfl)) (fun _ _ _ h => h) (Or.inl ⟨by rfl, ?_⟩) ?_ ?_
  rotate_left
  ·intro w'
   go_simp
   with_reducible rfl
  rotate_left
  ·simp only [Act.put, zp7a, zp7b, zp7c, i64_w, i32_w]
   rfl
  refine done_ (done_of HT_.out (by kernel_rfl)) ?_
  try go_wp2
  go_ret
  exact ⟨by first | rfl | (simp [errW_none, errW_some] <;> rfl) | (simp [*, errW_none, errW_some] <;> rfl), by repeat (first | (with_reducible first | exact HB.out | apply z7d | apply z7b | apply z7c | refine below_set ?_ GE254.out) | exact HB.out)⟩
def y_ib.f (l0 : List (S71)) : Option ((List (S71))) := if ([] : List (S71)).length + l0.length < 5864062014805 then (some (([] : List (S71)) ++ l0)) else (none)
theorem y_ib.calls (A0 : Option Addr) (c0 : Nat) (l0 : List (S71)) (r : List (S71)) (w : World) (hr0 : Kd.C k71 w A0 l0.length l0) (hc0 : l0.length ≤ c0) (h : y_ib.f l0 = some r) :
  Calls Try.prog 130 #[.slice A0 l0.length c0] w fun e w' => ∃ v0_ : Value, e = .returned (v0_) ∧ Kd.R k71 71 w' w.heap.size (fun _ => True) v0_ r ∧ Below w.heap.size w w' := by
 have HR0 := z7a hr0
 have HC0 := z7a hc0
 clear hr0 hc0
 have HB := z7a (Below.refl w.heap.size w)
 have H := h
 unfold y_ib.f at H
 clear h
 by_cases c2 : ([] : List (S71)).length + l0.length < 5864062014805
 ·rw [if_pos c2] at H
  have LMc2 := z7a c2
  clear c2
  obtain ⟨y257, hy257⟩ : ∃ y_ : List (S71), y_ = (([] : List (S71)) ++ l0) := ⟨_, rfl⟩
  replace H : (some y257) = some r := by first | (rw [hy257]; with_reducible exact H) | (have H2_ := (Option.bind_some _ _).symm.trans H; rw [hy257]; with_reducible exact H2_) | (have H2_ := (Option.bind_some _ _).symm.trans H; with_reducible exact H2_) | with_reducible exact H | (rw [hy257]; exact H) | exact H
  have Ny257 := z7a hy257
  clear hy257
  obtain rfl := Option.some.inj H
  go_enter Try.func130, Try.ntmps130
  go_wp2_with (first | ((with_reducible refine gate_builtin (b := .append) (xs := #[.const (.slice none 0 0), .tmp 3]) rfl ?_); at_builtin; refine Kd.R_append_rows k71 (w0 := w) w.heap.size rfl (.const (.slice none 0 0)) (.tmp 3) 24 71 (.agg #[(.int .i64 0), (.int .i64 0), (.int .i64 0)]) 24 rfl Try.underlying24 info71 rfl (by decide) (by omega) (.slice none 0 0) ([] : List (S71)) l0 _ _ _ (fun _ => True) (fun _ => False) rfl rfl ?aO ?aR (fun _ _ h => h) (fun _ h => h.elim) ?aF ?aB ?aS ?aL ?_; (case aR => repeat (first | exact HR0.out | (with_reducible refine Kd.C_alloc ?_ _) | (with_reducible refine Kd.C_drewN ?_ _) | (with_reducible refine Kd.C_drew ?_))); (case aB => exact (by repeat (first | (with_reducible first | exact HB.out | apply z7d | apply z7b | apply z7c) | exact HB.out))); (case aF => exact (fun _ _ => trivial)); (case aO => exact ((Kd.R_nil _ _ _ _ (fun _ => True)))); (case aS => exact (below_size (by repeat (first | (with_reducible first | exact HB.out | apply z7d | apply z7b | apply z7c) | exact HB.out)))); (case aL => have := LMc2.out; omega); intro v258 w3 ho hb hg hat; rw [← Ny257.out] at ho; have n0_ := z7a (hb); have n1_ := z7a (ho); clear HB; have HB := n0_; have HO259 := n1_; clear n0_ n1_; clear ho hb hg hat))
  go_ret
  exact ⟨_, by first | rfl | (simp [errW_none, errW_some] <;> rfl) | (simp [*, errW_none, errW_some] <;> rfl), by (with_reducible repeat (first | apply Kd.R_alloc | apply Kd.R_drewN | apply Kd.R_drew)); exact HO259.out, by repeat (first | (with_reducible first | exact HB.out | apply z7d | apply z7b | apply z7c) | exact HB.out)⟩
 ·rw [if_neg c2] at H
  exact absurd H (by simp)
def y_ob.f (l0 : List (S71)) (a1 : Int) : Option ((List (S71))) := if 0 ≤ a1 then (if a1 ≤ (l0.length : Int) then ((y_ib.f (l0.take (a1 : Int).toNat)).bind fun t264 => (if 0 ≤ (wrap64 (a1 + 1)) then (if (wrap64 (a1 + 1)) ≤ (l0.length : Int) then ((some (l0.drop ((wrap64 (a1 + 1)) : Int).toNat : List (S71))).bind fun y267 => (if t264.length + y267.length < 5864062014805 then (some (t264 ++ y267)) else (none))) else (none)) else (none))) else (none)) else (none)
theorem y_ob.calls (A0 : Option Addr) (c0 : Nat) (l0 : List (S71)) (a1 : Int) (r : List (S71)) (w : World) (hr0 : Kd.C k71 w A0 l0.length l0) (hc0 : l0.length ≤ c0) (h : y_ob.f l0 a1 = some r) :
  Calls Try.prog 112 #[.slice A0 l0.length c0, .int .i64 a1] w fun e w' => ∃ v0_ : Value, e = .returned (v0_) ∧ Kd.R k71 71 w' w.heap.size (fun _ => True) v0_ r ∧ Below w.heap.size w w' := by
 have HR0 := z7a hr0
 have HC0 := z7a hc0
 clear hr0 hc0
 have HB := z7a (Below.refl w.heap.size w)
 have H := h
 unfold y_ob.f at H
 clear h
 by_cases c3 : 0 ≤ a1
 ·rw [if_pos c3] at H
  have c3b0 := eq_true c3
  have c3b1 : decide (0 ≤ a1) = true := z7h c3
  clear c3
  by_cases c4 : a1 ≤ (l0.length : Int)
  ·rw [if_pos c4] at H
   have c4b0 := eq_true c4
   have c4b1 : decide (a1 ≤ (l0.length : Int)) = true := z7h c4
   clear c4
   obtain ⟨y260, hy260⟩ : ∃ y_ : List (S71), y_ = (l0.take (a1 : Int).toNat) := ⟨_, rfl⟩
   replace H : ((y_ib.f y260).bind fun t264 => (if 0 ≤ (wrap64 (a1 + 1)) then (if (wrap64 (a1 + 1)) ≤ (l0.length : Int) then ((some (l0.drop ((wrap64 (a1 + 1)) : Int).toNat : List (S71))).bind fun y267 => (if t264.length + y267.length < 5864062014805 then (some (t264 ++ y267)) else (none))) else (none)) else (none))) = some r := by first | (rw [hy260]; with_reducible exact H) | (have H2_ := (Option.bind_some _ _).symm.trans H; rw [hy260]; with_reducible exact H2_) | (have H2_ := (Option.bind_some _ _).symm.trans H; with_reducible exact H2_) | with_reducible exact H | (rw [hy260]; exact H) | exact H
   have Ny260 := z7a hy260
   clear hy260
   replace H := z7f.mp H
   obtain ⟨t264, A50, H⟩ := H
   have A5 := z7a A50
   clear A50
   obtain ⟨ji6, hji6⟩ : ∃ j_ : Int, (wrap64 (a1 + 1)) = j_ := ⟨_, rfl⟩
   replace H : (if 0 ≤ (ji6) then (if (ji6) ≤ (l0.length : Int) then ((some (l0.drop ((ji6) : Int).toNat : List (S71))).bind fun y267 => (if t264.length + y267.length < 5864062014805 then (some (t264 ++ y267)) else (none))) else (none)) else (none)) = some r := by first | (rw [hji6] at H; exact H) | (simp only [hji6] at H ⊢; exact H)
   (try rw [hji6] at A5)
   have hji6w : (IntKind.i64.wrap (a1 + 1)) = ji6 := (i64_w _).trans hji6
   by_cases c7 : 0 ≤ (ji6)
   ·rw [if_pos c7] at H
    have c7b0 := eq_true c7
    have c7b1 : decide (0 ≤ (ji6)) = true := z7h c7
    clear c7
    by_cases c8 : (ji6) ≤ (l0.length : Int)
    ·rw [if_pos c8] at H
     have c8b0 := eq_true c8
     have c8b1 : decide ((ji6) ≤ (l0.length : Int)) = true := z7h c8
     clear c8
     obtain ⟨y267, hy267⟩ : ∃ y_ : List (S71), y_ = (l0.drop ((ji6) : Int).toNat) := ⟨_, rfl⟩
     replace H : (if t264.length + y267.length < 5864062014805 then (some (t264 ++ y267)) else (none)) = some r := by first | (rw [hy267]; with_reducible exact H) | (have H2_ := (Option.bind_some _ _).symm.trans H; rw [hy267]; with_reducible exact H2_) | (have H2_ := (Option.bind_some _ _).symm.trans H; with_reducible exact H2_) | with_reducible exact H | (rw [hy267]; exact H) | exact H
     have Ny267 := z7a hy267
     clear hy267
     by_cases c9 : t264.length + y267.length < 5864062014805
     ·rw [if_pos c9] at H
      have LMc9 := z7a c9
      clear c9
      obtain ⟨y271, hy271⟩ : ∃ y_ : List (S71), y_ = (t264 ++ y267) := ⟨_, rfl⟩
      replace H : (some y271) = some r := by first | (rw [hy271]; with_reducible exact H) | (have H2_ := (Option.bind_some _ _).symm.trans H; rw [hy271]; with_reducible exact H2_) | (have H2_ := (Option.bind_some _ _).symm.trans H; with_reducible exact H2_) | with_reducible exact H | (rw [hy271]; exact H) | exact H
      have Ny271 := z7a hy271
      clear hy271
      obtain rfl := Option.some.inj H
      have q10 : (a1 : Int) ≤ ((l0.length : Int) : Int) := z7g (by first | (with_reducible assumption) | assumption)
      obtain ⟨i010, hi010, _, hsz10, _⟩ := info_parts info71
      have hroom10 : l0.length ≤ c0 := HC0.out
      have hC10 : Kd.C k71 _ A0 l0.length l0 := HR0.out
      have hcut10 := cut_to (P := Try.prog) 24 71 .i64 Try.underlying24 hi010 A0 l0.length c0 a1 (z7g (by first | (with_reducible assumption) | assumption)) q10 hroom10
      have hr10 := Kd.C_take (m := (a1 : Int).toNat) hC10 (by omega)
      have hy10 : y260.length = (a1 : Int).toNat := (by rw [Ny260.out, List.length_take]; omega)
      rw [← Ny260.out] at hr10
      rw [← hy10] at hcut10
      have HR263 := z7a hr10
      have HC263 := z7a (show y260.length ≤ c0 from by omega)
      clear hr10 hC10 hroom10 hi010 hsz10
      have KY10 := z7a hy10
      clear hy10
      replace q10 := eq_true q10
      go_enter Try.func112, Try.ntmps112
      go_wp2_with (first | ((with_reducible refine gate_callee (f := 130) rfl ?_); refine goesL_ (some 9) rfl rfl Try.func130 (by kernel_rfl) rfl #[.slice A0 y260.length c0] rfl (by (try simp only [zm7a, zm7b, zm7c]); first | done | rfl | (simp only [zm7d, zm7e]; rfl)) ?_; (with_reducible refine (y_ib.calls _ _ y260 t264 _ ?side1 ?side2 A5.out).mono ?_); (case side1 => repeat (first | exact HR263.out | (with_reducible refine Kd.C_alloc ?_ _) | (with_reducible refine Kd.C_drewN ?_ _) | (with_reducible refine Kd.C_drew ?_))); (case side2 => exact HC263.out); rintro e w11 ⟨v265, rfl, ho0, hb⟩; refine ⟨_, rfl, ?_⟩; have n0_ := z7a (Kd.R_lower ho0 (below_size (by repeat (first | (with_reducible first | exact HB.out | apply z7d | apply z7b | apply z7c) | exact HB.out)))); have n1_ := z7a (below_step (by repeat (first | (with_reducible first | exact HB.out | apply z7d | apply z7b | apply z7c) | exact HB.out)) hb); clear HB; have HO266 := n0_; have HB := n1_; clear n0_ n1_; (try clear hb); (try clear hb2); (try clear hk); (try clear hi); (try clear ho0); have q12 : ((ji6) : Int) ≤ ((l0.length : Int) : Int) := z7g (by first | (with_reducible assumption) | assumption); obtain ⟨i012, hi012, _, hsz12, _⟩ := info_parts info71; have hroom12 : l0.length ≤ c0 := HC0.out; have hC12 : Kd.C k71 _ A0 l0.length l0 := HR0.out; have q012 : (0 : Int) ≤ ((ji6) : Int) := z7g (by first | (with_reducible assumption) | assumption); have hcut12 := cut_from (P := Try.prog) 24 71 .i64 Try.underlying24 hi012 3 hsz12 A0 l0.length c0 (ji6) q012 q12; have hr12 := Kd.C_drop (m := ((ji6) : Int).toNat) (c := c0) hC12 (by omega) hroom12; obtain ⟨A12, hA12⟩ : ∃ A1, A1 = (if c0 = ((ji6) : Int).toNat then A0 else (A0 : Option Addr).map (·.add (((ji6) : Int).toNat * 3))) := ⟨_, rfl⟩; obtain ⟨c12, hc12⟩ : ∃ c1, c1 = c0 - ((ji6) : Int).toNat := ⟨_, rfl⟩; have hy12 : y267.length = l0.length - ((ji6) : Int).toNat := (by rw [Ny267.out, List.length_drop] <;> omega); rw [show (l0).drop ((ji6) : Int).toNat = y267 from Ny267.out.symm] at hr12; replace hr12 : Kd.C k71 _ A12 y267.length y267 := (by rw [hA12]; exact hr12); rw [← hy12, ← hA12, ← hc12] at hcut12; have HR270 := z7a hr12; have HC270 := z7a (show y267.length ≤ c12 from by rw [hy12, hc12]; exact Nat.sub_le_sub_right hroom12 _); clear hr12 hC12 hroom12 hi012 hsz12 hc12; have KY12 := z7a hy12; have KA12 := z7a hA12; clear hy12 hA12; replace q12 := eq_true q12) | ((with_reducible refine gate_builtin (b := .append) (xs := #[.tmp 10, .tmp 14]) rfl ?_); at_builtin; refine Kd.R_append_rows k71 (w0 := w) w.heap.size rfl (.tmp 10) (.tmp 14) 24 71 (.agg #[(.int .i64 0), (.int .i64 0), (.int .i64 0)]) 24 rfl Try.underlying24 info71 rfl (by decide) (by omega) v265 t264 y267 _ _ _ (fun _ => True) (fun _ => False) rfl rfl ?aO ?aR (fun _ _ h => h) (fun _ h => h.elim) ?aF ?aB ?aS ?aL ?_; (case aR => repeat (first | exact (Kd.C_below HR270.out HB.out) | (with_reducible refine Kd.C_alloc ?_ _) | (with_reducible refine Kd.C_drewN ?_ _) | (with_reducible refine Kd.C_drew ?_))); (case aB => exact (by repeat (first | (with_reducible first | exact HB.out | apply z7d | apply z7b | apply z7c) | exact HB.out))); (case aF => exact (fun _ _ => trivial)); (case aO => exact (by (with_reducible repeat (first | apply Kd.R_alloc | apply Kd.R_drewN | apply Kd.R_drew)); exact HO266.out)); (case aS => exact (below_size (by repeat (first | (with_reducible first | exact HB.out | apply z7d | apply z7b | apply z7c) | exact HB.out)))); (case aL => have := LMc9.out; omega); intro v272 w13 ho hb hg hat; rw [← Ny271.out] at ho; have n0_ := z7a (hb); have n1_ := z7a (ho); clear HB; clear HO266; have HB := n0_; have HO273 := n1_; clear n0_ n1_; clear ho hb hg hat))
      go_ret
      exact ⟨_, by first | rfl | (simp [errW_none, errW_some] <;> rfl) | (simp only [← hji6]; first | rfl | (simp [errW_none, errW_some] <;> rfl)) | (simp [*, errW_none, errW_some] <;> rfl), by (with_reducible repeat (first | apply Kd.R_alloc | apply Kd.R_drewN | apply Kd.R_drew)); exact HO273.out, by repeat (first | (with_reducible first | exact HB.out | apply z7d | apply z7b | apply z7c) | exact HB.out)⟩
     ·rw [if_neg c9] at H
      exact absurd H (by simp)
    ·rw [if_neg c8] at H
     exact absurd H (by simp)
   ·rw [if_neg c7] at H
    exact absurd H (by simp)
  ·rw [if_neg c4] at H
   exact absurd H (by simp)
 ·rw [if_neg c3] at H
  exact absurd H (by simp)
def y_h.l0 : Nat → List (S39) → List (S39) → Int → Int → Option ((List (S39)))
 | 0, _, _, _, _ => none
 | k + 1, x3, x6, x7, x8 => if x8 < x7 then (if 0 ≤ x8 then (if x8 < (x6.length : Int) then ((y_ib.f ((rd_T39 x6 x8).f0)).bind fun t276 => (if x3.length < 5864062014805 then (y_h.l0 k (x3 ++ [(⟨t276⟩ : S39)]) x6 x7 (wrap64 (x8 + 1))) else (none))) else (none)) else (none)) else (some x3)
def y_h.f (k : Nat) (l0 : List (S39)) : Option ((List (S39))) := y_h.l0 k ([] : List (S39)) l0 (l0.length : Int) 0
theorem y_h.mono_l : ∀ k, (∀ y0 y1 y2 y3, LeO (y_h.l0 k y0 y1 y2 y3) (y_h.l0 (k + 1) y0 y1 y2 y3))
 | 0 => fun _ _ _ _ r h => by simp [y_h.l0] at h
 | k + 1 => by
  have ih0 := y_h.mono_l k
  ·intro y0 y1 y2 y3
   unfold y_h.l0
   repeat' first
   | (with_reducible exact ih0 _ _ _ _)
   | (with_reducible exact LeO.refl _)
   | (with_reducible exact LeO.none _)
   | (with_reducible refine LeO.ite ?_ ?_)
   | (with_reducible refine LeO.bind ?_ (fun _ => ?_))
   | exact ih0 _ _ _ _
   | exact LeO.none _
   | refine LeO.ite ?_ ?_
   | refine LeO.bind ?_ (fun _ => ?_)
theorem y_h.mono : ∀ a0 k, LeO (y_h.f k a0) (y_h.f (k + 1) a0) := by
 intro a0 k
 have ih0 := y_h.mono_l k
 unfold y_h.f
 repeat' first
   | (with_reducible exact ih0 _ _ _ _)
   | (with_reducible exact LeO.refl _)
   | (with_reducible exact LeO.none _)
   | (with_reducible refine LeO.ite ?_ ?_)
   | (with_reducible refine LeO.bind ?_ (fun _ => ?_))
   | exact ih0 _ _ _ _
   | exact LeO.none _
   | refine LeO.ite ?_ ?_
   | refine LeO.bind ?_ (fun _ => ?_)
theorem y_h.calls (k : Nat) (A0 : Option Addr) (c0 : Nat) (l0 : List (S39)) (r : List (S39)) (w : World) (hr0 : Kd.C k39 w A0 l0.length l0) (hc0 : l0.length ≤ c0) (h : y_h.f k l0 = some r) :
  Calls Try.prog 113 #[.slice A0 l0.length c0] w fun e w' => ∃ v0_ : Value, e = .returned (v0_) ∧ Kd.S k39 39 w' w.heap.size (fun _ => True) v0_ r ∧ Below w.heap.size w w' := by
 have hu39 := Try.underlying39
 have HR0 := z7a hr0
 have HC0 := z7a hc0
 clear hr0 hc0
 have HB := z7a (Below.refl w.heap.size w)
 have H : (y_h.l0 k ([] : List (S39)) l0 (l0.length : Int) 0) = some r := h
 clear h
 have H' := z7a H
 clear H
 go_enter Try.func113, Try.ntmps113
 go_wp2
 go_loopg [3, 8] k (fun kq v3 v8 w' => ∃ (x3_1 : List (S39)) (x8_1 : Int), v8 = .int .i64 x8_1 ∧ Aside0 (y_h.l0 kq x3_1 l0 (l0.length : Int) x8_1 = some r) ∧ Aside0 (kq ≤ k) ∧ Aside0 (Kd.S k39 39 w' w.heap.size (fun _ => True) v3 x3_1) ∧ Aside0 (Below w.heap.size w w'))
 case atStart => exact ⟨(([] : List (S39))), (0), (by first | rfl | (simp; done) | (simp [*]; done)), H', ⟨Nat.le_refl _⟩, ⟨by first | exact Kd.S_nil _ _ _ _ _ | exact Kd.N_nil _ _ _ _ _ | exact Kd.V_nil _ _ _ _ _ | exact Kd.Q_nil _ _ _ _ _ | exact Kd.R_nil _ _ _ _ _⟩, ⟨by repeat (first | (with_reducible first | exact HB.out | apply z7d | apply z7b | apply z7c) | exact HB.out)⟩⟩
 case round =>
  clear H'
  try clear c1
  obtain ⟨x3_1, x8_1, rfl, HA, HK1, HO_3, HB⟩ := hrel
  cases gk with
  | zero => exact absurd HA.out (by simp [y_h.l0])
  | succ k1 =>
   have H := HA.out
   clear HA
   simp only [y_h.l0] at H
   by_cases c2 : x8_1 < (l0.length : Int)
   ·rw [if_pos c2] at H
    have c2b0 : decide (x8_1 < (l0.length : Int)) = true := z7h c2
    clear c2
    by_cases c3 : 0 ≤ x8_1
    ·rw [if_pos c3] at H
     have c3b0 : decide (0 ≤ x8_1) = true := z7h c3
     clear c3
     by_cases c4 : x8_1 < (l0.length : Int)
     ·rw [if_pos c4] at H
      have c4b0 : decide (x8_1 < (l0.length : Int)) = true := z7h c4
      clear c4
      replace H := z7f.mp H
      obtain ⟨t276, A50, H⟩ := H
      have A5 := z7a A50
      clear A50
      by_cases c6 : x3_1.length < 5864062014805
      ·rw [if_pos c6] at H
       have LMc6 := z7a c6
       clear c6
       obtain ⟨y279, hy279⟩ : ∃ y_ : List (S39), y_ = (x3_1 ++ [(⟨t276⟩ : S39)]) := ⟨_, rfl⟩
       replace H : (y_h.l0 k1 y279 l0 (l0.length : Int) (wrap64 (x8_1 + 1))) = some r := by first | (rw [hy279]; with_reducible exact H) | (have H2_ := (Option.bind_some _ _).symm.trans H; rw [hy279]; with_reducible exact H2_) | (have H2_ := (Option.bind_some _ _).symm.trans H; with_reducible exact H2_) | with_reducible exact H | (rw [hy279]; exact H) | exact H
       have Ny279 := z7a hy279
       clear hy279
       have H' := z7a H
       clear H
       have p274 : 0 ≤ (x8_1 : Int) := z7g (by first | (with_reducible assumption) | assumption)
       have q274 : x8_1 < (l0.length : Int) := z7g (by first | (with_reducible assumption) | assumption)
       obtain ⟨ad274, A274_0, c274_0, e274, hx274_0, hl274_0, hi274_0⟩ := at_T39 HR0.out x8_1 p274 q274
       cases e274
       replace hx274_0 := (HB.out.cell (z7e w _ hx274_0)).trans hx274_0
       have HR274_0 := z7a hi274_0
       have HC274_0 := z7a hl274_0
       clear hi274_0 hl274_0
       replace p274 := eq_true p274
       replace q274 := eq_true q274
       go_wp2_with (first | ((with_reducible refine gate_dst (N := 5) rfl ?_); refine box_event ?hg (N := 5) ?hd (cs := #[.slice none 0 0]) (t := 39) ?hr ?_; (case hd => rfl); (case hg => rfl); (case hr => first | (go_simp; done) | (go_simp; rfl)); intro gb275 hg w7 hbox hb; have n0_ := z7a (Kd.S_below (Kd.S_elderB (by (with_reducible repeat (first | apply Kd.S_alloc | apply Kd.S_drewN | apply Kd.S_drew)); exact HO_3.out) gb275 (Nat.le_of_eq hg.symm)) hb); have n1_ := z7a (below_step (by repeat (first | (with_reducible first | exact HB.out | apply z7d | apply z7b | apply z7c) | exact HB.out)) hb); have n2_ := z7a (hbox); have n3_ := z7a ((by rw [hg]; exact (below_size (by repeat (first | (with_reducible first | exact HB.out | apply z7d | apply z7b | apply z7c) | exact HB.out))) : w.heap.size ≤ gb275)); have n4_ := z7a ((by rw [hg]; exact (below_size (by repeat (first | (with_reducible first | exact HB.out | apply z7d | apply z7b | apply z7c) | exact HB.out))) : w.heap.size ≤ gb275)); clear HO_3; clear HB; have HO_3 := n0_; have HB := n1_; have BK275 := n2_; have GW275 := n3_; have GE275 := n4_; clear n0_ n1_ n2_ n3_ n4_; clear hb hbox hg; have hcz8_0 : w7.cell? ⟨gb275, 0, none⟩ = some (.slice none 0 0) := (blk_cell BK275.out 0).trans rfl; have hfz8_0 := blk_frozen BK275.out 0) | ((with_reducible refine gate_callee (f := 130) rfl ?_); refine goesL_ (some 15) rfl rfl Try.func130 (by kernel_rfl) rfl #[.slice A274_0 ((rd_T39 l0 x8_1).f0).length c274_0] rfl (by (try simp only [zm7a, zm7b, zm7c]); first | done | rfl | (simp only [zm7d, zm7e]; rfl)) ?_; (with_reducible refine (y_ib.calls _ _ ((rd_T39 l0 x8_1).f0) t276 _ ?side1 ?side2 A5.out).mono ?_); (case side1 => exact Kd.C_below HR274_0.out (by repeat (first | (with_reducible first | exact HB.out | apply z7d | apply z7b | apply z7c | refine below_set ?_ GE275.out) | exact HB.out))); (case side2 => exact HC274_0.out); rintro e w9 ⟨v277, rfl, ho0, hb⟩; refine ⟨_, rfl, ?_⟩; have n0_ := z7a (Kd.S_elder' (by (with_reducible repeat (first | apply Kd.S_alloc | apply Kd.S_drewN | apply Kd.S_drew)); exact (Kd.S_mono (Kd.S_far (p := ⟨gb275, 0, none⟩) (Kd.S_mono HO_3.out (fun k_ hk => (⟨hk, hk.2⟩ : _ ∧ k_ ≠ gb275))) (fun _ hk => hk.2) (.slice A274_0 ((rd_T39 l0 x8_1).f0).length c274_0)) (fun _ h_ => h_.1))) (Kd.R_base ho0) hb); have n1_ := z7a (Kd.R_lower ho0 (below_size (by repeat (first | (with_reducible first | exact HB.out | apply z7d | apply z7b | apply z7c | refine below_set ?_ GE275.out) | exact HB.out)))); have n2_ := z7a (blk_below (g := gb275) (o := .cells #[.slice A274_0 ((rd_T39 l0 x8_1).f0).length c274_0] 39 (0, 0)) (by (with_reducible repeat (first | refine blk_drewN ?_ _ | refine blk_drew ?_ | refine blk_alloc ?_ _)); refine blk_put (cs := #[.slice none 0 0]) ?_ 0 _ rfl; (with_reducible repeat (first | refine blk_drewN ?_ _ | refine blk_drew ?_ | refine blk_alloc ?_ _)); exact BK275.out) hb); have n3_ := z7a (below_step (by repeat (first | (with_reducible first | exact HB.out | apply z7d | apply z7b | apply z7c | refine below_set ?_ GE275.out) | exact HB.out)) hb); clear HO_3; clear BK275; clear HB; have HO_3 := n0_; have HO278 := n1_; have BK275 := n2_; have HB := n3_; clear n0_ n1_ n2_ n3_; (try clear hb); (try clear hb2); (try clear hk); (try clear hi); (try clear ho0); obtain ⟨Ao10, co10, eo10⟩ := Kd.R_slice HO278.out; subst eo10) | ((with_reducible refine gate_builtin (b := .append) (xs := #[.tmp 12, .tmp 17]) rfl ?_); at_builtin; refine Kd.S_append k39 (w0 := w) w.heap.size rfl (.tmp 12) (.tmp 17) 27 39 (.agg #[(.slice none 0 0)]) 24 rfl Try.underlying27 info39 rfl (by decide) (by omega) u3 x3_1 (⟨t276⟩ : S39) [.slice Ao10 t276.length co10] (fun k_ => k_ ≠ gb275) (fun k_ => some k_ = (.slice Ao10 t276.length co10 : Value).ownBlock) rfl rfl ?aP (fun k_ hk_ => ((Kd.R_mono (ok' := fun k_ => ((fun k_ => k_ ≠ gb275)) k_ ∧ some k_ ≠ (u3 : Value).ownBlock) (Kd.R_types (Kd.R_apart' (HO278.out) (Kd.S_typed HO_3.out) (by decide)) BK275.out (by decide)) (fun k_ hk => ⟨hk.2, hk.1.2⟩))).1 k_ hk_.symm) ?aF ?aO ?aB ?aS ?aL ?_; (case aP => exact k39_mkM _ _ _ (⟨t276⟩ : S39) (Kd.R_mono (Kd.R_tight rfl (Kd.R_mono (ok' := fun k_ => ((fun k_ => k_ ≠ gb275)) k_ ∧ some k_ ≠ (u3 : Value).ownBlock) (Kd.R_types (Kd.R_apart' (HO278.out) (Kd.S_typed HO_3.out) (by decide)) BK275.out (by decide)) (fun k_ hk => ⟨hk.2, hk.1.2⟩))) (fun _ h_ => h_))); (case aB => exact (by repeat (first | (with_reducible first | exact HB.out | apply z7d | apply z7b | apply z7c | refine below_set ?_ GE275.out) | exact HB.out))); (case aF => exact (fun k_ hk => Kd.freshB (g := gb275) (o := .cells #[.slice A274_0 ((rd_T39 l0 x8_1).f0).length c274_0] 39 (0, 0)) (by (with_reducible repeat (first | refine blk_drewN ?_ _ | refine blk_drew ?_ | refine blk_alloc ?_ _)); exact BK275.out) k_ hk)); (case aO => exact (by (with_reducible repeat (first | apply Kd.S_alloc | apply Kd.S_drewN | apply Kd.S_drew)); exact Kd.S_mono HO_3.out (fun k_ hk => ⟨hk.1.2, fun e_ => hk.2 e_⟩))); (case aS => exact (below_size (by repeat (first | (with_reducible first | exact HB.out | apply z7d | apply z7b | apply z7c | refine below_set ?_ GE275.out) | exact HB.out)))); (case aL => have := LMc6.out; omega); intro v280 w11 ho hb hg hat; rw [← Ny279.out] at ho; have n0_ := z7a (blk_grown (g := gb275) (o := .cells #[.slice A274_0 ((rd_T39 l0 x8_1).f0).length c274_0] 39 (0, 0)) (by (with_reducible repeat (first | refine blk_drewN ?_ _ | refine blk_drew ?_ | refine blk_alloc ?_ _)); exact BK275.out) hg (Kd.S_away HO_3.out (fun _ hk => hk.1.2))); have n1_ := z7a (hb); have n2_ := z7a (ho); clear BK275; clear HB; clear HO_3; clear HO278; have BK275 := n0_; have HB := n1_; have HO281 := n2_; clear n0_ n1_ n2_; clear ho hb hg hat))
       go_roundg k1
       case measure => have := HK1.out; omega
       case rel => exact ⟨(y279), (wrap64 (x8_1 + 1)), (by first | rfl | (simp; done) | (simp [*]; done)), H', ⟨by have := HK1.out; omega⟩, ⟨by (with_reducible repeat (first | apply Kd.S_alloc | apply Kd.S_drewN | apply Kd.S_drew)); exact Kd.S_mono HO281.out (fun _ hk => trivial)⟩, ⟨by repeat (first | (with_reducible first | exact HB.out | apply z7d | apply z7b | apply z7c | refine below_set ?_ GE275.out) | exact HB.out)⟩⟩
      ·rw [if_neg c6] at H
       exact absurd H (by simp)
     ·rw [if_neg c4] at H
      exact absurd H (by simp)
    ·rw [if_neg c3] at H
     exact absurd H (by simp)
   ·rw [if_neg c2] at H
    have c2b0 : decide (x8_1 < (l0.length : Int)) = false := decide_eq_false c2
    clear c2
    obtain rfl := Option.some.inj H
    go_wp2
    go_ret
    exact ⟨_, by first | rfl | (simp [errW_none, errW_some] <;> rfl) | (simp [*, errW_none, errW_some] <;> rfl), by (with_reducible repeat (first | apply Kd.S_alloc | apply Kd.S_drewN | apply Kd.S_drew)); exact HO_3.out, by repeat (first | (with_reducible first | exact HB.out | apply z7d | apply z7b | apply z7c) | exact HB.out)⟩
end Go.Proofs.Ytkcicbigpbdjpaa.P
end
