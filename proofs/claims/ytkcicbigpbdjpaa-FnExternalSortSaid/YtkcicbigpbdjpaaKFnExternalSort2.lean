-- merged by pack.py out of Px11 Px9 (words: printed by the kit's print.sh; what this claim does not use is left out)

import Derived.Test.YtkcicbigpbdjpaaKFnExternalSort1
namespace Go.Proofs.Ytkcicbigpbdjpaa
section
open Go.RowKit Go.Proofs.YtkcicbigpbdjpaaW.PrintWords Go.Proofs.YtkcicbigpbdjpaaW.PrintLast Go.Proofs.YtkcicbigpbdjpaaW.PrintMore
abbrev z2a := @Aside0.mk
abbrev z2b := @pw_below_drewN
abbrev z2c := @below_drew1
abbrev z2d := @below_alloc
abbrev z2e := @World.block_lt_of_cell?
abbrev z2f := @of_decide_eq_true
abbrev z2g := @blk_drewN
abbrev z2h := @blk_alloc
end
theorem zm2a {α β : Type} (f : α → β) (l : List α) : l.toArray.map f = (l.map f).toArray := by simp
theorem zm2b {α β : Type} (f : α → β) (a : α) (l : List α) : (a :: l).map f = f a :: l.map f := rfl
theorem zm2c {α β : Type} (f : α → β) : ([] : List α).map f = [] := rfl
theorem zm2d {α : Type} (n : Nat) (l : List α) : (l.drop n).length = l.length - n := List.length_drop
theorem zm2e {α : Type} (n : Nat) (l : List α) : (l.take n).length = min n l.length := List.length_take
end Go.Proofs.Ytkcicbigpbdjpaa
set_option maxHeartbeats 8000000
set_option maxRecDepth 100000
section
namespace Go.Proofs.Ytkcicbigpbdjpaa.P
open Go.RowKit Go.Proofs.YtkcicbigpbdjpaaW.PrintWords Go.Proofs.YtkcicbigpbdjpaaW.PrintLast Go.Proofs.YtkcicbigpbdjpaaW.PrintMore
attribute [local go_sem] max2_int min2_int max_two min_two max_three min_three max_four min_four
set_option linter.unusedVariables false
set_option linter.unusedSimpArgs false
def y_t.f (a0 : Int) (a1 : Int) (a2 : Int) : Option (Bool) := if a0 ≥ a1 then (some (decide (a0 ≤ a2))) else (some false)
theorem y_t.calls (a0 : Int) (a1 : Int) (a2 : Int) (r : Bool) (w : World) (h : y_t.f a0 a1 a2 = some r) :
  Calls Try.prog 114 #[.int .i64 a0, .int .i64 a1, .int .i64 a2] w fun e w' => e = .returned (.bool r) ∧ Drawn0 w w' := by
 have H : (if a0 ≥ a1 then (some (decide (a0 ≤ a2))) else (some false)) = some r := h
 clear h
 by_cases c4 : a0 ≥ a1
 ·rw [if_pos c4] at H
  have c4b0 : decide (a1 ≤ a0) = true := decide_eq_true c4
  clear c4
  obtain rfl := Option.some.inj H
  go_enter Try.func114, Try.ntmps114
  go_wp2
  go_ret
  exact ⟨by first | rfl | (simp; done) | (simp [*]; done), by repeat (first | exact Drawn0.refl _ | apply Drawn0.step)⟩
 ·rw [if_neg c4] at H
  have c4b0 : decide (a1 ≤ a0) = false := decide_eq_false c4
  clear c4
  obtain rfl := Option.some.inj H
  go_enter Try.func114, Try.ntmps114
  go_wp2
  go_ret
  exact ⟨by first | rfl | (simp; done) | (simp [*]; done), by repeat (first | exact Drawn0.refl _ | apply Drawn0.step)⟩
def y_rb.f (a0_0 : Int) (a0_1 : Int) (a0_2 : Int) : Option (Bool) := (y_t.f a0_0 0 9).bind fun t346 => (if t346 = true then ((y_t.f a0_1 0 99).bind fun t347 => (if t347 = true then ((y_t.f a0_2 0 3).bind fun t348 => (some t348)) else (some false))) else (some false))
theorem y_rb.calls (a0_0 : Int) (a0_1 : Int) (a0_2 : Int) (r : Bool) (w : World) (h : y_rb.f a0_0 a0_1 a0_2 = some r) :
  Calls Try.prog 152 #[.agg #[.int .i64 a0_0, .int .i64 a0_1, .int .i64 a0_2]] w fun e w' => e = .returned (.bool r) ∧ Below w.heap.size w w' := by
 have hu71 := Try.underlying71
 have HB := z2a (Below.refl w.heap.size w)
 have H := h
 unfold y_rb.f at H
 clear h
 replace H := Option.bind_eq_some_iff.mp H
 obtain ⟨t346, A20, H⟩ := H
 have A2 := z2a A20
 clear A20
 by_cases c3 : t346 = true
 ·subst c3
  rw [if_pos rfl] at H
  replace H := Option.bind_eq_some_iff.mp H
  obtain ⟨t347, A40, H⟩ := H
  have A4 := z2a A40
  clear A40
  by_cases c5 : t347 = true
  ·subst c5
   rw [if_pos rfl] at H
   replace H := Option.bind_eq_some_iff.mp H
   obtain ⟨t348, A60, H⟩ := H
   have A6 := z2a A60
   clear A60
   obtain rfl := Option.some.inj H
   go_enter Try.func152, Try.ntmps152
   go_wp2_with (first | ((with_reducible refine gate_dst (N := 1) rfl ?_); refine box_event ?hg (N := 1) ?hd (cs := #[.int .i64 a0_0, .int .i64 a0_1, .int .i64 a0_2]) (t := 71) ?hr ?_; (case hd => rfl); (case hg => rfl); (case hr => first | (go_simp; done) | (go_simp; rfl)); intro gb345 hg w7 hbox hb; have n0_ := z2a (below_step (by repeat (first | (with_reducible first | exact HB.out | apply z2d | apply z2b | apply z2c) | exact HB.out)) hb); have n1_ := z2a (hbox); have n2_ := z2a ((by rw [hg]; exact (below_size (by repeat (first | (with_reducible first | exact HB.out | apply z2d | apply z2b | apply z2c) | exact HB.out))) : w.heap.size ≤ gb345)); have n3_ := z2a ((by rw [hg]; exact (below_size (by repeat (first | (with_reducible first | exact HB.out | apply z2d | apply z2b | apply z2c) | exact HB.out))) : w.heap.size ≤ gb345)); clear HB; have HB := n0_; have BK345 := n1_; have GW345 := n2_; have GE345 := n3_; clear n0_ n1_ n2_ n3_; clear hb hbox hg; obtain ⟨hcz8_0, hcz8_1, hcz8_2⟩ := cells_3 BK345.out; obtain ⟨hfz8_0, hfz8_1, hfz8_2⟩ := frz_3 BK345.out) | ((with_reducible refine gate_callee (f := 114) rfl ?_); refine goesL_ (some 5) rfl rfl Try.func114 (by kernel_rfl) rfl #[.int .i64 a0_0, .int .i64 0, .int .i64 9] rfl (by (try simp only [zm2a, zm2b, zm2c]); first | done | rfl | (simp only [zm2d, zm2e]; rfl)) ?_; (with_reducible refine (y_t.calls a0_0 0 9 true _ A2.out).mono ?_); rintro e w' ⟨rfl, ⟨nd, rfl⟩⟩; refine ⟨_, rfl, ?_⟩) | (go_at_call 114; (with_reducible refine (y_t.calls a0_1 0 99 true _ A4.out).mono ?_); rintro e w' ⟨rfl, ⟨nd, rfl⟩⟩) | (go_at_call 114; (with_reducible refine (y_t.calls a0_2 0 3 t348 _ A6.out).mono ?_); rintro e w' ⟨rfl, ⟨nd, rfl⟩⟩))
   go_ret
   exact ⟨by first | rfl | (simp [errW_none, errW_some] <;> rfl) | (simp [*, errW_none, errW_some] <;> rfl), by repeat (first | (with_reducible first | exact HB.out | apply z2d | apply z2b | apply z2c | refine below_set ?_ GE345.out) | exact HB.out)⟩
  ·replace c5 := Bool.eq_false_iff.mpr c5
   subst c5
   have H1 : (some false) = some r := by rw [if_neg (show ¬ (false = true) by decide)] at H; exact H
   clear H
   have H := H1
   clear H1
   obtain rfl := Option.some.inj H
   go_enter Try.func152, Try.ntmps152
   go_wp2_with (first | ((with_reducible refine gate_dst (N := 1) rfl ?_); refine box_event ?hg (N := 1) ?hd (cs := #[.int .i64 a0_0, .int .i64 a0_1, .int .i64 a0_2]) (t := 71) ?hr ?_; (case hd => rfl); (case hg => rfl); (case hr => first | (go_simp; done) | (go_simp; rfl)); intro gb345 hg w9 hbox hb; have n0_ := z2a (below_step (by repeat (first | (with_reducible first | exact HB.out | apply z2d | apply z2b | apply z2c) | exact HB.out)) hb); have n1_ := z2a (hbox); have n2_ := z2a ((by rw [hg]; exact (below_size (by repeat (first | (with_reducible first | exact HB.out | apply z2d | apply z2b | apply z2c) | exact HB.out))) : w.heap.size ≤ gb345)); have n3_ := z2a ((by rw [hg]; exact (below_size (by repeat (first | (with_reducible first | exact HB.out | apply z2d | apply z2b | apply z2c) | exact HB.out))) : w.heap.size ≤ gb345)); clear HB; have HB := n0_; have BK345 := n1_; have GW345 := n2_; have GE345 := n3_; clear n0_ n1_ n2_ n3_; clear hb hbox hg; obtain ⟨hcz10_0, hcz10_1, hcz10_2⟩ := cells_3 BK345.out; obtain ⟨hfz10_0, hfz10_1, hfz10_2⟩ := frz_3 BK345.out) | ((with_reducible refine gate_callee (f := 114) rfl ?_); refine goesL_ (some 5) rfl rfl Try.func114 (by kernel_rfl) rfl #[.int .i64 a0_0, .int .i64 0, .int .i64 9] rfl (by (try simp only [zm2a, zm2b, zm2c]); first | done | rfl | (simp only [zm2d, zm2e]; rfl)) ?_; (with_reducible refine (y_t.calls a0_0 0 9 true _ A2.out).mono ?_); rintro e w' ⟨rfl, ⟨nd, rfl⟩⟩; refine ⟨_, rfl, ?_⟩) | (go_at_call 114; (with_reducible refine (y_t.calls a0_1 0 99 false _ A4.out).mono ?_); rintro e w' ⟨rfl, ⟨nd, rfl⟩⟩))
   go_ret
   exact ⟨by first | rfl | (simp [errW_none, errW_some] <;> rfl) | (simp [*, errW_none, errW_some] <;> rfl), by repeat (first | (with_reducible first | exact HB.out | apply z2d | apply z2b | apply z2c | refine below_set ?_ GE345.out) | exact HB.out)⟩
 ·replace c3 := Bool.eq_false_iff.mpr c3
  subst c3
  have H1 : (some false) = some r := by rw [if_neg (show ¬ (false = true) by decide)] at H; exact H
  clear H
  have H := H1
  clear H1
  obtain rfl := Option.some.inj H
  go_enter Try.func152, Try.ntmps152
  go_wp2_with (first | ((with_reducible refine gate_dst (N := 1) rfl ?_); refine box_event ?hg (N := 1) ?hd (cs := #[.int .i64 a0_0, .int .i64 a0_1, .int .i64 a0_2]) (t := 71) ?hr ?_; (case hd => rfl); (case hg => rfl); (case hr => first | (go_simp; done) | (go_simp; rfl)); intro gb345 hg w11 hbox hb; have n0_ := z2a (below_step (by repeat (first | (with_reducible first | exact HB.out | apply z2d | apply z2b | apply z2c) | exact HB.out)) hb); have n1_ := z2a (hbox); have n2_ := z2a ((by rw [hg]; exact (below_size (by repeat (first | (with_reducible first | exact HB.out | apply z2d | apply z2b | apply z2c) | exact HB.out))) : w.heap.size ≤ gb345)); have n3_ := z2a ((by rw [hg]; exact (below_size (by repeat (first | (with_reducible first | exact HB.out | apply z2d | apply z2b | apply z2c) | exact HB.out))) : w.heap.size ≤ gb345)); clear HB; have HB := n0_; have BK345 := n1_; have GW345 := n2_; have GE345 := n3_; clear n0_ n1_ n2_ n3_; clear hb hbox hg; obtain ⟨hcz12_0, hcz12_1, hcz12_2⟩ := cells_3 BK345.out; obtain ⟨hfz12_0, hfz12_1, hfz12_2⟩ := frz_3 BK345.out) | ((with_reducible refine gate_callee (f := 114) rfl ?_); refine goesL_ (some 5) rfl rfl Try.func114 (by kernel_rfl) rfl #[.int .i64 a0_0, .int .i64 0, .int .i64 9] rfl (by (try simp only [zm2a, zm2b, zm2c]); first | done | rfl | (simp only [zm2d, zm2e]; rfl)) ?_; (with_reducible refine (y_t.calls a0_0 0 9 false _ A2.out).mono ?_); rintro e w' ⟨rfl, ⟨nd, rfl⟩⟩; refine ⟨_, rfl, ?_⟩))
  go_ret
  exact ⟨by first | rfl | (simp [errW_none, errW_some] <;> rfl) | (simp [*, errW_none, errW_some] <;> rfl), by repeat (first | (with_reducible first | exact HB.out | apply z2d | apply z2b | apply z2c | refine below_set ?_ GE345.out) | exact HB.out)⟩
def y_sb.f (a0_0 : Int) (a0_1 : Int) (a0_2 : Int) : Option (Int) := (y_rb.f a0_0 a0_1 a0_2).bind fun t350 => (if t350 = true then (some (wrap64 (1 + a0_2))) else (some 0))
theorem y_sb.calls (a0_0 : Int) (a0_1 : Int) (a0_2 : Int) (r : Int) (w : World) (h : y_sb.f a0_0 a0_1 a0_2 = some r) :
  Calls Try.prog 115 #[.agg #[.int .i64 a0_0, .int .i64 a0_1, .int .i64 a0_2]] w fun e w' => e = .returned (.int .i64 r) ∧ Below w.heap.size w w' := by
 have hu71 := Try.underlying71
 have HB := z2a (Below.refl w.heap.size w)
 have H := h
 unfold y_sb.f at H
 clear h
 replace H := Option.bind_eq_some_iff.mp H
 obtain ⟨t350, A20, H⟩ := H
 have A2 := z2a A20
 clear A20
 by_cases c3 : t350 = true
 ·subst c3
  rw [if_pos rfl] at H
  obtain rfl := Option.some.inj H
  go_enter Try.func115, Try.ntmps115
  go_wp2_with (first | ((with_reducible refine gate_dst (N := 1) rfl ?_); refine box_event ?hg (N := 1) ?hd (cs := #[.int .i64 a0_0, .int .i64 a0_1, .int .i64 a0_2]) (t := 71) ?hr ?_; (case hd => rfl); (case hg => rfl); (case hr => first | (go_simp; done) | (go_simp; rfl)); intro gb349 hg w4 hbox hb; have n0_ := z2a (below_step (by repeat (first | (with_reducible first | exact HB.out | apply z2d | apply z2b | apply z2c) | exact HB.out)) hb); have n1_ := z2a (hbox); have n2_ := z2a ((by rw [hg]; exact (below_size (by repeat (first | (with_reducible first | exact HB.out | apply z2d | apply z2b | apply z2c) | exact HB.out))) : w.heap.size ≤ gb349)); have n3_ := z2a ((by rw [hg]; exact (below_size (by repeat (first | (with_reducible first | exact HB.out | apply z2d | apply z2b | apply z2c) | exact HB.out))) : w.heap.size ≤ gb349)); clear HB; have HB := n0_; have BK349 := n1_; have GW349 := n2_; have GE349 := n3_; clear n0_ n1_ n2_ n3_; clear hb hbox hg; obtain ⟨hcz5_0, hcz5_1, hcz5_2⟩ := cells_3 BK349.out; obtain ⟨hfz5_0, hfz5_1, hfz5_2⟩ := frz_3 BK349.out) | ((with_reducible refine gate_callee (f := 152) rfl ?_); refine goesL_ (some 4) rfl rfl Try.func152 (by kernel_rfl) rfl #[.agg #[.int .i64 a0_0, .int .i64 a0_1, .int .i64 a0_2]] rfl (by (try simp only [zm2a, zm2b, zm2c]); first | done | rfl | (simp only [zm2d, zm2e]; rfl)) ?_; (with_reducible refine (y_rb.calls a0_0 a0_1 a0_2 true _ A2.out).mono ?_); rintro e w6 ⟨rfl, hb⟩; refine ⟨_, rfl, ?_⟩; have n0_ := z2a (blk_below (g := gb349) (o := .cells #[.int .i64 a0_0, .int .i64 a0_1, .int .i64 a0_2] 71 (0, 0)) (by (with_reducible repeat (first | refine z2g ?_ _ | refine blk_drew ?_ | refine z2h ?_ _)); exact BK349.out) hb); have n1_ := z2a (below_step (by repeat (first | (with_reducible first | exact HB.out | apply z2d | apply z2b | apply z2c | refine below_set ?_ GE349.out) | exact HB.out)) hb); clear BK349; clear HB; have BK349 := n0_; have HB := n1_; clear n0_ n1_; (try clear hb); (try clear hb2); (try clear hk); (try clear hi); obtain ⟨hcz7_0, hcz7_1, hcz7_2⟩ := cells_3 BK349.out; obtain ⟨hfz7_0, hfz7_1, hfz7_2⟩ := frz_3 BK349.out))
  go_ret
  exact ⟨by first | rfl | (simp [errW_none, errW_some] <;> rfl) | (simp [*, errW_none, errW_some] <;> rfl), by repeat (first | (with_reducible first | exact HB.out | apply z2d | apply z2b | apply z2c | refine below_set ?_ GE349.out) | exact HB.out)⟩
 ·replace c3 := Bool.eq_false_iff.mpr c3
  subst c3
  have H1 : (some 0) = some r := by rw [if_neg (show ¬ (false = true) by decide)] at H; exact H
  clear H
  have H := H1
  clear H1
  obtain rfl := Option.some.inj H
  go_enter Try.func115, Try.ntmps115
  go_wp2_with (first | ((with_reducible refine gate_dst (N := 1) rfl ?_); refine box_event ?hg (N := 1) ?hd (cs := #[.int .i64 a0_0, .int .i64 a0_1, .int .i64 a0_2]) (t := 71) ?hr ?_; (case hd => rfl); (case hg => rfl); (case hr => first | (go_simp; done) | (go_simp; rfl)); intro gb349 hg w8 hbox hb; have n0_ := z2a (below_step (by repeat (first | (with_reducible first | exact HB.out | apply z2d | apply z2b | apply z2c) | exact HB.out)) hb); have n1_ := z2a (hbox); have n2_ := z2a ((by rw [hg]; exact (below_size (by repeat (first | (with_reducible first | exact HB.out | apply z2d | apply z2b | apply z2c) | exact HB.out))) : w.heap.size ≤ gb349)); have n3_ := z2a ((by rw [hg]; exact (below_size (by repeat (first | (with_reducible first | exact HB.out | apply z2d | apply z2b | apply z2c) | exact HB.out))) : w.heap.size ≤ gb349)); clear HB; have HB := n0_; have BK349 := n1_; have GW349 := n2_; have GE349 := n3_; clear n0_ n1_ n2_ n3_; clear hb hbox hg; obtain ⟨hcz9_0, hcz9_1, hcz9_2⟩ := cells_3 BK349.out; obtain ⟨hfz9_0, hfz9_1, hfz9_2⟩ := frz_3 BK349.out) | ((with_reducible refine gate_callee (f := 152) rfl ?_); refine goesL_ (some 4) rfl rfl Try.func152 (by kernel_rfl) rfl #[.agg #[.int .i64 a0_0, .int .i64 a0_1, .int .i64 a0_2]] rfl (by (try simp only [zm2a, zm2b, zm2c]); first | done | rfl | (simp only [zm2d, zm2e]; rfl)) ?_; (with_reducible refine (y_rb.calls a0_0 a0_1 a0_2 false _ A2.out).mono ?_); rintro e w10 ⟨rfl, hb⟩; refine ⟨_, rfl, ?_⟩; have n0_ := z2a (blk_below (g := gb349) (o := .cells #[.int .i64 a0_0, .int .i64 a0_1, .int .i64 a0_2] 71 (0, 0)) (by (with_reducible repeat (first | refine z2g ?_ _ | refine blk_drew ?_ | refine z2h ?_ _)); exact BK349.out) hb); have n1_ := z2a (below_step (by repeat (first | (with_reducible first | exact HB.out | apply z2d | apply z2b | apply z2c | refine below_set ?_ GE349.out) | exact HB.out)) hb); clear BK349; clear HB; have BK349 := n0_; have HB := n1_; clear n0_ n1_; (try clear hb); (try clear hb2); (try clear hk); (try clear hi)))
  go_ret
  exact ⟨by first | rfl | (simp [errW_none, errW_some] <;> rfl) | (simp [*, errW_none, errW_some] <;> rfl), by repeat (first | (with_reducible first | exact HB.out | apply z2d | apply z2b | apply z2c | refine below_set ?_ GE349.out) | exact HB.out)⟩
def y_k.l0 : Nat → List (S71) → Int → Int → Option (Int)
 | 0, _, _, _ => none
 | k + 1, x0, x3, x4 => if x4 < (x0.length : Int) then (if 0 ≤ x4 then ((y_sb.f ((rd_T71 x0 x4).f0) ((rd_T71 x0 x4).f1) ((rd_T71 x0 x4).f2)).bind fun t352 => (y_k.l0 k x0 (wrap64 (x3 + t352)) (wrap64 (x4 + 1)))) else (none)) else (some x3)
def y_k.f (k : Nat) (l0 : List (S71)) : Option (Int) := y_k.l0 k l0 0 0
theorem y_k.calls (k : Nat) (A0 : Option Addr) (c0 : Nat) (l0 : List (S71)) (r : Int) (w : World) (hr0 : Kd.C k71 w A0 l0.length l0) (hc0 : l0.length ≤ c0) (h : y_k.f k l0 = some r) :
  Calls Try.prog 31 #[.slice A0 l0.length c0] w fun e w' => e = .returned (.int .i64 r) ∧ Below w.heap.size w w' := by
 have hu71 := Try.underlying71
 have HR0 := z2a hr0
 have HC0 := z2a hc0
 clear hr0 hc0
 have HB := z2a (Below.refl w.heap.size w)
 have H : (y_k.l0 k l0 0 0) = some r := h
 clear h
 have H' := z2a H
 clear H
 go_enter Try.func31, Try.ntmps31
 go_wp2
 go_loopg [3, 4] k (fun kq v3 v4 w' => ∃ (x3_1 : Int) (x4_1 : Int), v3 = .int .i64 x3_1 ∧ v4 = .int .i64 x4_1 ∧ Aside0 (y_k.l0 kq l0 x3_1 x4_1 = some r) ∧ Aside0 (kq ≤ k) ∧ Aside0 (Below w.heap.size w w'))
 case atStart => exact ⟨(0), (0), (by first | rfl | (simp; done) | (simp [*]; done)), (by first | rfl | (simp; done) | (simp [*]; done)), H', ⟨Nat.le_refl _⟩, ⟨by repeat (first | (with_reducible first | exact HB.out | apply z2d | apply z2b | apply z2c) | exact HB.out)⟩⟩
 case round =>
  clear H'
  obtain ⟨x3_1, x4_1, rfl, rfl, HA, HK1, HB⟩ := hrel
  cases gk with
  | zero => exact absurd HA.out (by simp [y_k.l0])
  | succ k1 =>
   have H := HA.out
   clear HA
   simp only [y_k.l0] at H
   by_cases c2 : x4_1 < (l0.length : Int)
   ·rw [if_pos c2] at H
    have c2b0 : decide (x4_1 < (l0.length : Int)) = true := decide_eq_true c2
    clear c2
    by_cases c3 : 0 ≤ x4_1
    ·rw [if_pos c3] at H
     have c3b0 : decide (0 ≤ x4_1) = true := decide_eq_true c3
     clear c3
     replace H := Option.bind_eq_some_iff.mp H
     obtain ⟨t352, A40, H⟩ := H
     have A4 := z2a A40
     clear A40
     have H' := z2a H
     clear H
     have p351 : 0 ≤ (x4_1 : Int) := z2f (by first | (with_reducible assumption) | assumption)
     have q351 : x4_1 < (l0.length : Int) := z2f (by first | (with_reducible assumption) | assumption)
     obtain ⟨ad351, e351, hx351_0, hx351_1, hx351_2⟩ := at_T71 HR0.out x4_1 p351 q351
     cases e351
     replace hx351_0 := (HB.out.cell (z2e w _ hx351_0)).trans hx351_0
     replace hx351_1 := (HB.out.cell (z2e w _ hx351_1)).trans hx351_1
     replace hx351_2 := (HB.out.cell (z2e w _ hx351_2)).trans hx351_2
     replace p351 := eq_true p351
     replace q351 := eq_true q351
     go_wp2_with (first | ((with_reducible refine gate_callee (f := 115) rfl ?_); refine goesL_ (some 16) rfl rfl Try.func115 (by kernel_rfl) rfl #[.agg #[.int .i64 ((rd_T71 l0 x4_1).f0), .int .i64 ((rd_T71 l0 x4_1).f1), .int .i64 ((rd_T71 l0 x4_1).f2)]] rfl (by (try simp only [zm2a, zm2b, zm2c]); first | done | rfl | (simp only [zm2d, zm2e]; rfl)) ?_; (with_reducible refine (y_sb.calls ((rd_T71 l0 x4_1).f0) ((rd_T71 l0 x4_1).f1) ((rd_T71 l0 x4_1).f2) t352 _ A4.out).mono ?_); rintro e w5 ⟨rfl, hb⟩; refine ⟨_, rfl, ?_⟩; have n0_ := z2a (below_step (by repeat (first | (with_reducible first | exact HB.out | apply z2d | apply z2b | apply z2c) | exact HB.out)) hb); clear HB; have HB := n0_; clear n0_; (try clear hb); (try clear hb2); (try clear hk); (try clear hi)))
     go_roundg k1
     case measure => have := HK1.out; omega
     case rel => exact ⟨(wrap64 (x3_1 + t352)), (wrap64 (x4_1 + 1)), (by first | rfl | (simp; done) | (simp [*]; done)), (by first | rfl | (simp; done) | (simp [*]; done)), H', ⟨by have := HK1.out; omega⟩, ⟨by repeat (first | (with_reducible first | exact HB.out | apply z2d | apply z2b | apply z2c) | exact HB.out)⟩⟩
    ·rw [if_neg c3] at H
     exact absurd H (by simp)
   ·rw [if_neg c2] at H
    have c2b0 : decide (x4_1 < (l0.length : Int)) = false := decide_eq_false c2
    clear c2
    obtain rfl := Option.some.inj H
    go_wp2
    go_ret
    exact ⟨by first | rfl | (simp [errW_none, errW_some] <;> rfl) | (simp [*, errW_none, errW_some] <;> rfl), by repeat (first | (with_reducible first | exact HB.out | apply z2d | apply z2b | apply z2c) | exact HB.out)⟩
def y_v.l0 : Nat → List (S71) → Int → Option (Bool)
 | 0, _, _ => none
 | k + 1, x0, x3 => if x3 < (x0.length : Int) then (if 0 ≤ x3 then ((y_rb.f ((rd_T71 x0 x3).f0) ((rd_T71 x0 x3).f1) ((rd_T71 x0 x3).f2)).bind fun t354 => (if t354 = true then (y_v.l0 k x0 (wrap64 (x3 + 1))) else (some false))) else (none)) else (some (decide ((x0.length : Int) ≤ 24)))
def y_v.f (k : Nat) (l0 : List (S71)) : Option (Bool) := y_v.l0 k l0 0
theorem y_v.calls (k : Nat) (A0 : Option Addr) (c0 : Nat) (l0 : List (S71)) (r : Bool) (w : World) (hr0 : Kd.C k71 w A0 l0.length l0) (hc0 : l0.length ≤ c0) (h : y_v.f k l0 = some r) :
  Calls Try.prog 93 #[.slice A0 l0.length c0] w fun e w' => e = .returned (.bool r) ∧ Below w.heap.size w w' := by
 have hu71 := Try.underlying71
 have HR0 := z2a hr0
 have HC0 := z2a hc0
 clear hr0 hc0
 have HB := z2a (Below.refl w.heap.size w)
 have H : (y_v.l0 k l0 0) = some r := h
 clear h
 have H' := z2a H
 clear H
 go_enter Try.func93, Try.ntmps93
 go_wp2
 go_loopg [3] k (fun kq v3 w' => ∃ (x3_1 : Int), v3 = .int .i64 x3_1 ∧ Aside0 (y_v.l0 kq l0 x3_1 = some r) ∧ Aside0 (kq ≤ k) ∧ Aside0 (Below w.heap.size w w'))
 case atStart => exact ⟨(0), (by first | rfl | (simp; done) | (simp [*]; done)), H', ⟨Nat.le_refl _⟩, ⟨by repeat (first | (with_reducible first | exact HB.out | apply z2d | apply z2b | apply z2c) | exact HB.out)⟩⟩
 case round =>
  clear H'
  obtain ⟨x3_1, rfl, HA, HK1, HB⟩ := hrel
  cases gk with
  | zero => exact absurd HA.out (by simp [y_v.l0])
  | succ k1 =>
   have H := HA.out
   clear HA
   simp only [y_v.l0] at H
   by_cases c2 : x3_1 < (l0.length : Int)
   ·rw [if_pos c2] at H
    have c2b0 : decide (x3_1 < (l0.length : Int)) = true := decide_eq_true c2
    clear c2
    by_cases c3 : 0 ≤ x3_1
    ·rw [if_pos c3] at H
     have c3b0 : decide (0 ≤ x3_1) = true := decide_eq_true c3
     clear c3
     replace H := Option.bind_eq_some_iff.mp H
     obtain ⟨t354, A40, H⟩ := H
     have A4 := z2a A40
     clear A40
     by_cases c5 : t354 = true
     ·subst c5
      rw [if_pos rfl] at H
      have H' := z2a H
      clear H
      have p353 : 0 ≤ (x3_1 : Int) := z2f (by first | (with_reducible assumption) | assumption)
      have q353 : x3_1 < (l0.length : Int) := z2f (by first | (with_reducible assumption) | assumption)
      obtain ⟨ad353, e353, hx353_0, hx353_1, hx353_2⟩ := at_T71 HR0.out x3_1 p353 q353
      cases e353
      replace hx353_0 := (HB.out.cell (z2e w _ hx353_0)).trans hx353_0
      replace hx353_1 := (HB.out.cell (z2e w _ hx353_1)).trans hx353_1
      replace hx353_2 := (HB.out.cell (z2e w _ hx353_2)).trans hx353_2
      replace p353 := eq_true p353
      replace q353 := eq_true q353
      go_wp2_with (first | ((with_reducible refine gate_callee (f := 152) rfl ?_); refine goesL_ (some 14) rfl rfl Try.func152 (by kernel_rfl) rfl #[.agg #[.int .i64 ((rd_T71 l0 x3_1).f0), .int .i64 ((rd_T71 l0 x3_1).f1), .int .i64 ((rd_T71 l0 x3_1).f2)]] rfl (by (try simp only [zm2a, zm2b, zm2c]); first | done | rfl | (simp only [zm2d, zm2e]; rfl)) ?_; (with_reducible refine (y_rb.calls ((rd_T71 l0 x3_1).f0) ((rd_T71 l0 x3_1).f1) ((rd_T71 l0 x3_1).f2) true _ A4.out).mono ?_); rintro e w6 ⟨rfl, hb⟩; refine ⟨_, rfl, ?_⟩; have n0_ := z2a (below_step (by repeat (first | (with_reducible first | exact HB.out | apply z2d | apply z2b | apply z2c) | exact HB.out)) hb); clear HB; have HB := n0_; clear n0_; (try clear hb); (try clear hb2); (try clear hk); (try clear hi)))
      go_roundg k1
      case measure => have := HK1.out; omega
      case rel => exact ⟨(wrap64 (x3_1 + 1)), (by first | rfl | (simp; done) | (simp [*]; done)), H', ⟨by have := HK1.out; omega⟩, ⟨by repeat (first | (with_reducible first | exact HB.out | apply z2d | apply z2b | apply z2c) | exact HB.out)⟩⟩
     ·replace c5 := Bool.eq_false_iff.mpr c5
      subst c5
      have H1 : (some false) = some r := by rw [if_neg (show ¬ (false = true) by decide)] at H; exact H
      clear H
      have H := H1
      clear H1
      obtain rfl := Option.some.inj H
      have p353 : 0 ≤ (x3_1 : Int) := z2f (by first | (with_reducible assumption) | assumption)
      have q353 : x3_1 < (l0.length : Int) := z2f (by first | (with_reducible assumption) | assumption)
      obtain ⟨ad353, e353, hx353_0, hx353_1, hx353_2⟩ := at_T71 HR0.out x3_1 p353 q353
      cases e353
      replace hx353_0 := (HB.out.cell (z2e w _ hx353_0)).trans hx353_0
      replace hx353_1 := (HB.out.cell (z2e w _ hx353_1)).trans hx353_1
      replace hx353_2 := (HB.out.cell (z2e w _ hx353_2)).trans hx353_2
      replace p353 := eq_true p353
      replace q353 := eq_true q353
      go_wp2_with (first | ((with_reducible refine gate_callee (f := 152) rfl ?_); refine goesL_ (some 14) rfl rfl Try.func152 (by kernel_rfl) rfl #[.agg #[.int .i64 ((rd_T71 l0 x3_1).f0), .int .i64 ((rd_T71 l0 x3_1).f1), .int .i64 ((rd_T71 l0 x3_1).f2)]] rfl (by (try simp only [zm2a, zm2b, zm2c]); first | done | rfl | (simp only [zm2d, zm2e]; rfl)) ?_; (with_reducible refine (y_rb.calls ((rd_T71 l0 x3_1).f0) ((rd_T71 l0 x3_1).f1) ((rd_T71 l0 x3_1).f2) false _ A4.out).mono ?_); rintro e w7 ⟨rfl, hb⟩; refine ⟨_, rfl, ?_⟩; have n0_ := z2a (below_step (by repeat (first | (with_reducible first | exact HB.out | apply z2d | apply z2b | apply z2c) | exact HB.out)) hb); clear HB; have HB := n0_; clear n0_; (try clear hb); (try clear hb2); (try clear hk); (try clear hi)))
      go_ret
      exact ⟨by first | rfl | (simp [errW_none, errW_some] <;> rfl) | (simp [*, errW_none, errW_some] <;> rfl), by repeat (first | (with_reducible first | exact HB.out | apply z2d | apply z2b | apply z2c) | exact HB.out)⟩
    ·rw [if_neg c3] at H
     exact absurd H (by simp)
   ·rw [if_neg c2] at H
    have c2b0 : decide (x3_1 < (l0.length : Int)) = false := decide_eq_false c2
    clear c2
    obtain rfl := Option.some.inj H
    go_wp2
    go_ret
    exact ⟨by first | rfl | (simp [errW_none, errW_some] <;> rfl) | (simp [*, errW_none, errW_some] <;> rfl), by repeat (first | (with_reducible first | exact HB.out | apply z2d | apply z2b | apply z2c) | exact HB.out)⟩
def y_f.l0 : Nat → List Int → List Int → Int → Option (Int)
 | 0, _, _, _ => none
 | k + 1, x5, x6, x7 => if x7 < 3 then (if 0 ≤ x7 then (if x7 < (x5.length : Int) then (if x7 < (x6.length : Int) then (if (rd x5 x7) < (rd x6 x7) then (some (-1)) else (if (rd x5 x7) > (rd x6 x7) then (some 1) else (y_f.l0 k x5 x6 (wrap64 (x7 + 1))))) else (none)) else (none)) else (none)) else (some 0)
def y_f.f (k : Nat) (a0_0 : Int) (a0_1 : Int) (a0_2 : Int) (a1_0 : Int) (a1_1 : Int) (a1_2 : Int) : Option (Int) := y_f.l0 k (([a0_0, a0_1, a0_2] : List Int)) (([a1_0, a1_1, a1_2] : List Int)) 0
theorem y_f.mono_l : ∀ k, (∀ y0 y1 y2, LeO (y_f.l0 k y0 y1 y2) (y_f.l0 (k + 1) y0 y1 y2))
 | 0 => fun _ _ _ r h => by simp [y_f.l0] at h
 | k + 1 => by
  have ih0 := y_f.mono_l k
  ·intro y0 y1 y2
   unfold y_f.l0
   repeat' first
   | (with_reducible exact ih0 _ _ _)
   | (with_reducible exact LeO.refl _)
   | (with_reducible exact LeO.none _)
   | (with_reducible refine LeO.ite ?_ ?_)
   | (with_reducible refine LeO.bind ?_ (fun _ => ?_))
   | exact ih0 _ _ _
   | exact LeO.none _
   | refine LeO.ite ?_ ?_
   | refine LeO.bind ?_ (fun _ => ?_)
theorem y_f.mono : ∀ a0 a1 a2 a3 a4 a5 k, LeO (y_f.f k a0 a1 a2 a3 a4 a5) (y_f.f (k + 1) a0 a1 a2 a3 a4 a5) := by
 intro a0 a1 a2 a3 a4 a5 k
 have ih0 := y_f.mono_l k
 unfold y_f.f
 repeat' first
   | (with_reducible exact ih0 _ _ _)
   | (with_reducible exact LeO.refl _)
   | (with_reducible exact LeO.none _)
   | (with_reducible refine LeO.ite ?_ ?_)
   | (with_reducible refine LeO.bind ?_ (fun _ => ?_))
   | exact ih0 _ _ _
   | exact LeO.none _
   | refine LeO.ite ?_ ?_
   | refine LeO.bind ?_ (fun _ => ?_)
theorem y_f.calls (k : Nat) (a0_0 : Int) (a0_1 : Int) (a0_2 : Int) (a1_0 : Int) (a1_1 : Int) (a1_2 : Int) (r : Int) (w : World) (h : y_f.f k a0_0 a0_1 a0_2 a1_0 a1_1 a1_2 = some r) :
  Calls Try.prog 116 #[.agg #[.int .i64 a0_0, .int .i64 a0_1, .int .i64 a0_2], .agg #[.int .i64 a1_0, .int .i64 a1_1, .int .i64 a1_2]] w fun e w' => e = .returned (.int .i64 r) ∧ Below w.heap.size w w' := by
 have hu71 := Try.underlying71
 have HB := z2a (Below.refl w.heap.size w)
 have H : (y_f.l0 k (([a0_0, a0_1, a0_2] : List Int)) (([a1_0, a1_1, a1_2] : List Int)) 0) = some r := h
 clear h
 obtain ⟨y332, hy332⟩ : ∃ y_ : List Int, y_ = (([a0_0, a0_1, a0_2] : List Int)) := ⟨_, rfl⟩
 replace H : (y_f.l0 k y332 (([a1_0, a1_1, a1_2] : List Int)) 0) = some r := by first | (rw [hy332]; with_reducible exact H) | (have H2_ := (Option.bind_some _ _).symm.trans H; rw [hy332]; with_reducible exact H2_) | (have H2_ := (Option.bind_some _ _).symm.trans H; with_reducible exact H2_) | with_reducible exact H | (rw [hy332]; exact H) | exact H
 have Ny332 := z2a hy332
 clear hy332
 obtain ⟨y335, hy335⟩ : ∃ y_ : List Int, y_ = (([a1_0, a1_1, a1_2] : List Int)) := ⟨_, rfl⟩
 replace H : (y_f.l0 k y332 y335 0) = some r := by first | (rw [hy335]; with_reducible exact H) | (have H2_ := (Option.bind_some _ _).symm.trans H; rw [hy335]; with_reducible exact H2_) | (have H2_ := (Option.bind_some _ _).symm.trans H; with_reducible exact H2_) | with_reducible exact H | (rw [hy335]; exact H) | exact H
 have Ny335 := z2a hy335
 clear hy335
 have H' := z2a H
 clear H
 go_enter Try.func116, Try.ntmps116
 go_wp2_with (first | ((with_reducible refine gate_dst (N := 2) rfl ?_); refine box_event ?hg (N := 2) ?hd (cs := #[.int .i64 a0_0, .int .i64 a0_1, .int .i64 a0_2]) (t := 71) ?hr ?_; (case hd => rfl); (case hg => rfl); (case hr => first | (go_simp; done) | (go_simp; rfl)); intro gb330 hg w3 hbox hb; have n0_ := z2a (below_step (by repeat (first | (with_reducible first | exact HB.out | apply z2d | apply z2b | apply z2c) | exact HB.out)) hb); have n1_ := z2a (hbox); have n2_ := z2a ((by rw [hg]; exact (below_size (by repeat (first | (with_reducible first | exact HB.out | apply z2d | apply z2b | apply z2c) | exact HB.out))) : w.heap.size ≤ gb330)); have n3_ := z2a ((by rw [hg]; exact (below_size (by repeat (first | (with_reducible first | exact HB.out | apply z2d | apply z2b | apply z2c) | exact HB.out))) : w.heap.size ≤ gb330)); clear HB; have HB := n0_; have BK330 := n1_; have GW330 := n2_; have GE330 := n3_; clear n0_ n1_ n2_ n3_; clear hb hbox hg) | ((with_reducible refine gate_dst (N := 3) rfl ?_); refine box_event ?hg (N := 3) ?hd (cs := #[.int .i64 a1_0, .int .i64 a1_1, .int .i64 a1_2]) (t := 71) ?hr ?_; (case hd => rfl); (case hg => rfl); (case hr => first | (go_simp; done) | (go_simp; rfl)); intro gb331 hg w4 hbox hb; have n0_ := z2a (blk_below (g := gb330) (o := .cells #[.int .i64 a0_0, .int .i64 a0_1, .int .i64 a0_2] 71 (0, 0)) (by (with_reducible repeat (first | refine z2g ?_ _ | refine blk_drew ?_ | refine z2h ?_ _)); exact BK330.out) hb); have n1_ := z2a (below_step (by repeat (first | (with_reducible first | exact HB.out | apply z2d | apply z2b | apply z2c | refine below_set ?_ GE330.out) | exact HB.out)) hb); have n2_ := z2a (hbox); have n3_ := z2a ((by rw [hg]; exact (below_size (by repeat (first | (with_reducible first | exact HB.out | apply z2d | apply z2b | apply z2c | refine below_set ?_ GE330.out) | exact HB.out))) : w.heap.size ≤ gb331)); have n4_ := z2a ((by rw [hg]; exact (below_size (by repeat (first | (with_reducible first | exact HB.out | apply z2d | apply z2b | apply z2c | refine below_set ?_ GE330.out) | exact HB.out))) : w.heap.size ≤ gb331)); have n5_ := z2a ((by rw [hg]; exact Nat.ne_of_lt (blk_lt (g := gb330) (o := .cells #[.int .i64 a0_0, .int .i64 a0_1, .int .i64 a0_2] 71 (0, 0)) (by (with_reducible repeat (first | refine z2g ?_ _ | refine blk_drew ?_ | refine z2h ?_ _)); exact BK330.out)) : gb330 ≠ gb331)); have n6_ := z2a ((by rw [hg]; exact Nat.ne_of_gt (blk_lt (g := gb330) (o := .cells #[.int .i64 a0_0, .int .i64 a0_1, .int .i64 a0_2] 71 (0, 0)) (by (with_reducible repeat (first | refine z2g ?_ _ | refine blk_drew ?_ | refine z2h ?_ _)); exact BK330.out)) : gb331 ≠ gb330)); clear BK330; clear HB; have BK330 := n0_; have HB := n1_; have BK331 := n2_; have GW331 := n3_; have GE331 := n4_; have NB330_331 := n5_; have NB331_330 := n6_; clear n0_ n1_ n2_ n3_ n4_ n5_ n6_; clear hb hbox hg; have hnb5 := NB330_331.out; have hnc5 := NB331_330.out; obtain ⟨hcz6_0, hcz6_1, hcz6_2⟩ := cells_3 BK330.out; obtain ⟨hfz6_0, hfz6_1, hfz6_2⟩ := frz_3 BK330.out) | ((with_reducible refine gate_dst (N := 14) rfl ?_); refine Kd.R_lit (Kd.int .i64) _ 3 ?hg (N := 14) ?hd (xs := ([a0_0, a0_1, a0_2] : List Int)) (inner := [.int .i64 a0_0, .int .i64 a0_1, .int .i64 a0_2]) (ok := fun _ => True) (okp := fun _ => True) ?hr ?hp (fun _ hk => hk) trivial (Below.refl _ _) (Nat.le_refl _) (by simp) ?_; (case hd => rfl); (case hg => rfl); (case hr => first | (go_simp; done) | (go_simp; rfl)); (case hp => exact (Reps.one (show Kd.M (Kd.int .i64) _ _ _ a0_0 [.int .i64 a0_0] from rfl) (Reps.one (show Kd.M (Kd.int .i64) _ _ _ a0_1 [.int .i64 a0_1] from rfl) (Reps.one (show Kd.M (Kd.int .i64) _ _ _ a0_2 [.int .i64 a0_2] from rfl) (Reps.none _ _))))); intro v333 w7 ho8 hb hg_ hnew_; clear hg_ hnew_; (first | rw [← Ny332.out] at ho8 | (simp only [Int.reduceToNat] at ho8; rw [← Ny332.out] at ho8)); have n0_ := z2a (Kd.R_lower ho8 (below_size (by repeat (first | (with_reducible first | exact HB.out | apply z2d | apply z2b | apply z2c | refine below_set ?_ GE330.out | refine below_set ?_ GE331.out) | exact HB.out)))); have n1_ := z2a (blk_below (g := gb330) (o := .cells #[.int .i64 a0_0, .int .i64 a0_1, .int .i64 a0_2] 71 (0, 0)) (by (with_reducible repeat (first | refine z2g ?_ _ | refine blk_drew ?_ | refine z2h ?_ _)); exact BK330.out) hb); have n2_ := z2a (blk_below (g := gb331) (o := .cells #[.int .i64 a1_0, .int .i64 a1_1, .int .i64 a1_2] 71 (0, 0)) (by (with_reducible repeat (first | refine z2g ?_ _ | refine blk_drew ?_ | refine z2h ?_ _)); exact BK331.out) hb); have n3_ := z2a (below_step (by repeat (first | (with_reducible first | exact HB.out | apply z2d | apply z2b | apply z2c | refine below_set ?_ GE330.out | refine below_set ?_ GE331.out) | exact HB.out)) hb); clear BK330; clear BK331; clear HB; have HO334 := n0_; have BK330 := n1_; have BK331 := n2_; have HB := n3_; clear n0_ n1_ n2_ n3_; clear hb ho8; obtain ⟨hcz9_0, hcz9_1, hcz9_2⟩ := cells_3 BK331.out; obtain ⟨hfz9_0, hfz9_1, hfz9_2⟩ := frz_3 BK331.out) | ((with_reducible refine gate_dst (N := 21) rfl ?_); refine Kd.R_lit (Kd.int .i64) _ 3 ?hg (N := 21) ?hd (xs := ([a1_0, a1_1, a1_2] : List Int)) (inner := [.int .i64 a1_0, .int .i64 a1_1, .int .i64 a1_2]) (ok := fun _ => True) (okp := fun _ => True) ?hr ?hp (fun _ hk => hk) trivial (Below.refl _ _) (Nat.le_refl _) (by simp) ?_; (case hd => rfl); (case hg => rfl); (case hr => first | (go_simp; done) | (go_simp; rfl)); (case hp => exact (Reps.one (show Kd.M (Kd.int .i64) _ _ _ a1_0 [.int .i64 a1_0] from rfl) (Reps.one (show Kd.M (Kd.int .i64) _ _ _ a1_1 [.int .i64 a1_1] from rfl) (Reps.one (show Kd.M (Kd.int .i64) _ _ _ a1_2 [.int .i64 a1_2] from rfl) (Reps.none _ _))))); intro v336 w10 ho11 hb hg_ hnew_; clear hg_ hnew_; (first | rw [← Ny335.out] at ho11 | (simp only [Int.reduceToNat] at ho11; rw [← Ny335.out] at ho11)); have n0_ := z2a (Kd.R_elder' (by (with_reducible repeat (first | apply Kd.R_alloc | apply Kd.R_drewN | apply Kd.R_drew)); exact HO334.out) (Kd.R_base ho11) hb); have n1_ := z2a (Kd.R_lower (Kd.R_new' ho11 (Kd.R_lt (by (with_reducible repeat (first | apply Kd.R_alloc | apply Kd.R_drewN | apply Kd.R_drew)); exact HO334.out))) (below_size (by repeat (first | (with_reducible first | exact HB.out | apply z2d | apply z2b | apply z2c | refine below_set ?_ GE330.out | refine below_set ?_ GE331.out) | exact HB.out)))); have n2_ := z2a (blk_below (g := gb330) (o := .cells #[.int .i64 a0_0, .int .i64 a0_1, .int .i64 a0_2] 71 (0, 0)) (by (with_reducible repeat (first | refine z2g ?_ _ | refine blk_drew ?_ | refine z2h ?_ _)); exact BK330.out) hb); have n3_ := z2a (blk_below (g := gb331) (o := .cells #[.int .i64 a1_0, .int .i64 a1_1, .int .i64 a1_2] 71 (0, 0)) (by (with_reducible repeat (first | refine z2g ?_ _ | refine blk_drew ?_ | refine z2h ?_ _)); exact BK331.out) hb); have n4_ := z2a (below_step (by repeat (first | (with_reducible first | exact HB.out | apply z2d | apply z2b | apply z2c | refine below_set ?_ GE330.out | refine below_set ?_ GE331.out) | exact HB.out)) hb); clear HO334; clear BK330; clear BK331; clear HB; have HO334 := n0_; have HO337 := n1_; have BK330 := n2_; have BK331 := n3_; have HB := n4_; clear n0_ n1_ n2_ n3_ n4_; clear hb ho11))
 repeat (go_quiet (first | ((with_reducible refine gate_dst (N := 2) rfl ?_); refine box_event ?hg (N := 2) ?hd (cs := #[.int .i64 a0_0, .int .i64 a0_1, .int .i64 a0_2]) (t := 71) ?hr ?_; (case hd => rfl); (case hg => rfl); (case hr => first | (go_simp; done) | (go_simp; rfl)); intro gb330 hg w3 hbox hb; have n0_ := z2a (below_step (by repeat (first | (with_reducible first | exact HB.out | apply z2d | apply z2b | apply z2c) | exact HB.out)) hb); have n1_ := z2a (hbox); have n2_ := z2a ((by rw [hg]; exact (below_size (by repeat (first | (with_reducible first | exact HB.out | apply z2d | apply z2b | apply z2c) | exact HB.out))) : w.heap.size ≤ gb330)); have n3_ := z2a ((by rw [hg]; exact (below_size (by repeat (first | (with_reducible first | exact HB.out | apply z2d | apply z2b | apply z2c) | exact HB.out))) : w.heap.size ≤ gb330)); clear HB; have HB := n0_; have BK330 := n1_; have GW330 := n2_; have GE330 := n3_; clear n0_ n1_ n2_ n3_; clear hb hbox hg) | ((with_reducible refine gate_dst (N := 3) rfl ?_); refine box_event ?hg (N := 3) ?hd (cs := #[.int .i64 a1_0, .int .i64 a1_1, .int .i64 a1_2]) (t := 71) ?hr ?_; (case hd => rfl); (case hg => rfl); (case hr => first | (go_simp; done) | (go_simp; rfl)); intro gb331 hg w4 hbox hb; have n0_ := z2a (blk_below (g := gb330) (o := .cells #[.int .i64 a0_0, .int .i64 a0_1, .int .i64 a0_2] 71 (0, 0)) (by (with_reducible repeat (first | refine z2g ?_ _ | refine blk_drew ?_ | refine z2h ?_ _)); exact BK330.out) hb); have n1_ := z2a (below_step (by repeat (first | (with_reducible first | exact HB.out | apply z2d | apply z2b | apply z2c | refine below_set ?_ GE330.out) | exact HB.out)) hb); have n2_ := z2a (hbox); have n3_ := z2a ((by rw [hg]; exact (below_size (by repeat (first | (with_reducible first | exact HB.out | apply z2d | apply z2b | apply z2c | refine below_set ?_ GE330.out) | exact HB.out))) : w.heap.size ≤ gb331)); have n4_ := z2a ((by rw [hg]; exact (below_size (by repeat (first | (with_reducible first | exact HB.out | apply z2d | apply z2b | apply z2c | refine below_set ?_ GE330.out) | exact HB.out))) : w.heap.size ≤ gb331)); have n5_ := z2a ((by rw [hg]; exact Nat.ne_of_lt (blk_lt (g := gb330) (o := .cells #[.int .i64 a0_0, .int .i64 a0_1, .int .i64 a0_2] 71 (0, 0)) (by (with_reducible repeat (first | refine z2g ?_ _ | refine blk_drew ?_ | refine z2h ?_ _)); exact BK330.out)) : gb330 ≠ gb331)); have n6_ := z2a ((by rw [hg]; exact Nat.ne_of_gt (blk_lt (g := gb330) (o := .cells #[.int .i64 a0_0, .int .i64 a0_1, .int .i64 a0_2] 71 (0, 0)) (by (with_reducible repeat (first | refine z2g ?_ _ | refine blk_drew ?_ | refine z2h ?_ _)); exact BK330.out)) : gb331 ≠ gb330)); clear BK330; clear HB; have BK330 := n0_; have HB := n1_; have BK331 := n2_; have GW331 := n3_; have GE331 := n4_; have NB330_331 := n5_; have NB331_330 := n6_; clear n0_ n1_ n2_ n3_ n4_ n5_ n6_; clear hb hbox hg; have hnb5 := NB330_331.out; have hnc5 := NB331_330.out; obtain ⟨hcz6_0, hcz6_1, hcz6_2⟩ := cells_3 BK330.out; obtain ⟨hfz6_0, hfz6_1, hfz6_2⟩ := frz_3 BK330.out) | ((with_reducible refine gate_dst (N := 14) rfl ?_); refine Kd.R_lit (Kd.int .i64) _ 3 ?hg (N := 14) ?hd (xs := ([a0_0, a0_1, a0_2] : List Int)) (inner := [.int .i64 a0_0, .int .i64 a0_1, .int .i64 a0_2]) (ok := fun _ => True) (okp := fun _ => True) ?hr ?hp (fun _ hk => hk) trivial (Below.refl _ _) (Nat.le_refl _) (by simp) ?_; (case hd => rfl); (case hg => rfl); (case hr => first | (go_simp; done) | (go_simp; rfl)); (case hp => exact (Reps.one (show Kd.M (Kd.int .i64) _ _ _ a0_0 [.int .i64 a0_0] from rfl) (Reps.one (show Kd.M (Kd.int .i64) _ _ _ a0_1 [.int .i64 a0_1] from rfl) (Reps.one (show Kd.M (Kd.int .i64) _ _ _ a0_2 [.int .i64 a0_2] from rfl) (Reps.none _ _))))); intro v333 w7 ho8 hb hg_ hnew_; clear hg_ hnew_; (first | rw [← Ny332.out] at ho8 | (simp only [Int.reduceToNat] at ho8; rw [← Ny332.out] at ho8)); have n0_ := z2a (Kd.R_lower ho8 (below_size (by repeat (first | (with_reducible first | exact HB.out | apply z2d | apply z2b | apply z2c | refine below_set ?_ GE330.out | refine below_set ?_ GE331.out) | exact HB.out)))); have n1_ := z2a (blk_below (g := gb330) (o := .cells #[.int .i64 a0_0, .int .i64 a0_1, .int .i64 a0_2] 71 (0, 0)) (by (with_reducible repeat (first | refine z2g ?_ _ | refine blk_drew ?_ | refine z2h ?_ _)); exact BK330.out) hb); have n2_ := z2a (blk_below (g := gb331) (o := .cells #[.int .i64 a1_0, .int .i64 a1_1, .int .i64 a1_2] 71 (0, 0)) (by (with_reducible repeat (first | refine z2g ?_ _ | refine blk_drew ?_ | refine z2h ?_ _)); exact BK331.out) hb); have n3_ := z2a (below_step (by repeat (first | (with_reducible first | exact HB.out | apply z2d | apply z2b | apply z2c | refine below_set ?_ GE330.out | refine below_set ?_ GE331.out) | exact HB.out)) hb); clear BK330; clear BK331; clear HB; have HO334 := n0_; have BK330 := n1_; have BK331 := n2_; have HB := n3_; clear n0_ n1_ n2_ n3_; clear hb ho8; obtain ⟨hcz9_0, hcz9_1, hcz9_2⟩ := cells_3 BK331.out; obtain ⟨hfz9_0, hfz9_1, hfz9_2⟩ := frz_3 BK331.out) | ((with_reducible refine gate_dst (N := 21) rfl ?_); refine Kd.R_lit (Kd.int .i64) _ 3 ?hg (N := 21) ?hd (xs := ([a1_0, a1_1, a1_2] : List Int)) (inner := [.int .i64 a1_0, .int .i64 a1_1, .int .i64 a1_2]) (ok := fun _ => True) (okp := fun _ => True) ?hr ?hp (fun _ hk => hk) trivial (Below.refl _ _) (Nat.le_refl _) (by simp) ?_; (case hd => rfl); (case hg => rfl); (case hr => first | (go_simp; done) | (go_simp; rfl)); (case hp => exact (Reps.one (show Kd.M (Kd.int .i64) _ _ _ a1_0 [.int .i64 a1_0] from rfl) (Reps.one (show Kd.M (Kd.int .i64) _ _ _ a1_1 [.int .i64 a1_1] from rfl) (Reps.one (show Kd.M (Kd.int .i64) _ _ _ a1_2 [.int .i64 a1_2] from rfl) (Reps.none _ _))))); intro v336 w10 ho11 hb hg_ hnew_; clear hg_ hnew_; (first | rw [← Ny335.out] at ho11 | (simp only [Int.reduceToNat] at ho11; rw [← Ny335.out] at ho11)); have n0_ := z2a (Kd.R_elder' (by (with_reducible repeat (first | apply Kd.R_alloc | apply Kd.R_drewN | apply Kd.R_drew)); exact HO334.out) (Kd.R_base ho11) hb); have n1_ := z2a (Kd.R_lower (Kd.R_new' ho11 (Kd.R_lt (by (with_reducible repeat (first | apply Kd.R_alloc | apply Kd.R_drewN | apply Kd.R_drew)); exact HO334.out))) (below_size (by repeat (first | (with_reducible first | exact HB.out | apply z2d | apply z2b | apply z2c | refine below_set ?_ GE330.out | refine below_set ?_ GE331.out) | exact HB.out)))); have n2_ := z2a (blk_below (g := gb330) (o := .cells #[.int .i64 a0_0, .int .i64 a0_1, .int .i64 a0_2] 71 (0, 0)) (by (with_reducible repeat (first | refine z2g ?_ _ | refine blk_drew ?_ | refine z2h ?_ _)); exact BK330.out) hb); have n3_ := z2a (blk_below (g := gb331) (o := .cells #[.int .i64 a1_0, .int .i64 a1_1, .int .i64 a1_2] 71 (0, 0)) (by (with_reducible repeat (first | refine z2g ?_ _ | refine blk_drew ?_ | refine z2h ?_ _)); exact BK331.out) hb); have n4_ := z2a (below_step (by repeat (first | (with_reducible first | exact HB.out | apply z2d | apply z2b | apply z2c | refine below_set ?_ GE330.out | refine below_set ?_ GE331.out) | exact HB.out)) hb); clear HO334; clear BK330; clear BK331; clear HB; have HO334 := n0_; have HO337 := n1_; have BK330 := n2_; have BK331 := n3_; have HB := n4_; clear n0_ n1_ n2_ n3_ n4_; clear hb ho11)); try go_wp2_with (first | ((with_reducible refine gate_dst (N := 2) rfl ?_); refine box_event ?hg (N := 2) ?hd (cs := #[.int .i64 a0_0, .int .i64 a0_1, .int .i64 a0_2]) (t := 71) ?hr ?_; (case hd => rfl); (case hg => rfl); (case hr => first | (go_simp; done) | (go_simp; rfl)); intro gb330 hg w3 hbox hb; have n0_ := z2a (below_step (by repeat (first | (with_reducible first | exact HB.out | apply z2d | apply z2b | apply z2c) | exact HB.out)) hb); have n1_ := z2a (hbox); have n2_ := z2a ((by rw [hg]; exact (below_size (by repeat (first | (with_reducible first | exact HB.out | apply z2d | apply z2b | apply z2c) | exact HB.out))) : w.heap.size ≤ gb330)); have n3_ := z2a ((by rw [hg]; exact (below_size (by repeat (first | (with_reducible first | exact HB.out | apply z2d | apply z2b | apply z2c) | exact HB.out))) : w.heap.size ≤ gb330)); clear HB; have HB := n0_; have BK330 := n1_; have GW330 := n2_; have GE330 := n3_; clear n0_ n1_ n2_ n3_; clear hb hbox hg) | ((with_reducible refine gate_dst (N := 3) rfl ?_); refine box_event ?hg (N := 3) ?hd (cs := #[.int .i64 a1_0, .int .i64 a1_1, .int .i64 a1_2]) (t := 71) ?hr ?_; (case hd => rfl); (case hg => rfl); (case hr => first | (go_simp; done) | (go_simp; rfl)); intro gb331 hg w4 hbox hb; have n0_ := z2a (blk_below (g := gb330) (o := .cells #[.int .i64 a0_0, .int .i64 a0_1, .int .i64 a0_2] 71 (0, 0)) (by (with_reducible repeat (first | refine z2g ?_ _ | refine blk_drew ?_ | refine z2h ?_ _)); exact BK330.out) hb); have n1_ := z2a (below_step (by repeat (first | (with_reducible first | exact HB.out | apply z2d | apply z2b | apply z2c | refine below_set ?_ GE330.out) | exact HB.out)) hb); have n2_ := z2a (hbox); have n3_ := z2a ((by rw [hg]; exact (below_size (by repeat (first | (with_reducible first | exact HB.out | apply z2d | apply z2b | apply z2c | refine below_set ?_ GE330.out) | exact HB.out))) : w.heap.size ≤ gb331)); have n4_ := z2a ((by rw [hg]; exact (below_size (by repeat (first | (with_reducible first | exact HB.out | apply z2d | apply z2b | apply z2c | refine below_set ?_ GE330.out) | exact HB.out))) : w.heap.size ≤ gb331)); have n5_ := z2a ((by rw [hg]; exact Nat.ne_of_lt (blk_lt (g := gb330) (o := .cells #[.int .i64 a0_0, .int .i64 a0_1, .int .i64 a0_2] 71 (0, 0)) (by (with_reducible repeat (first | refine z2g ?_ _ | refine blk_drew ?_ | refine z2h ?_ _)); exact BK330.out)) : gb330 ≠ gb331)); have n6_ := z2a ((by rw [hg]; exact Nat.ne_of_gt (blk_lt (g := gb330) (o := .cells #[.int .i64 a0_0, .int .i64 a0_1, .int .i64 a0_2] 71 (0, 0)) (by (with_reducible repeat (first | refine z2g ?_ _ | refine blk_drew ?_ | refine z2h ?_ _)); exact BK330.out)) : gb331 ≠ gb330)); clear BK330; clear HB; have BK330 := n0_; have HB := n1_; have BK331 := n2_; have GW331 := n3_; have GE331 := n4_; have NB330_331 := n5_; have NB331_330 := n6_; clear n0_ n1_ n2_ n3_ n4_ n5_ n6_; clear hb hbox hg; have hnb5 := NB330_331.out; have hnc5 := NB331_330.out; obtain ⟨hcz6_0, hcz6_1, hcz6_2⟩ := cells_3 BK330.out; obtain ⟨hfz6_0, hfz6_1, hfz6_2⟩ := frz_3 BK330.out) | ((with_reducible refine gate_dst (N := 14) rfl ?_); refine Kd.R_lit (Kd.int .i64) _ 3 ?hg (N := 14) ?hd (xs := ([a0_0, a0_1, a0_2] : List Int)) (inner := [.int .i64 a0_0, .int .i64 a0_1, .int .i64 a0_2]) (ok := fun _ => True) (okp := fun _ => True) ?hr ?hp (fun _ hk => hk) trivial (Below.refl _ _) (Nat.le_refl _) (by simp) ?_; (case hd => rfl); (case hg => rfl); (case hr => first | (go_simp; done) | (go_simp; rfl)); (case hp => exact (Reps.one (show Kd.M (Kd.int .i64) _ _ _ a0_0 [.int .i64 a0_0] from rfl) (Reps.one (show Kd.M (Kd.int .i64) _ _ _ a0_1 [.int .i64 a0_1] from rfl) (Reps.one (show Kd.M (Kd.int .i64) _ _ _ a0_2 [.int .i64 a0_2] from rfl) (Reps.none _ _))))); intro v333 w7 ho8 hb hg_ hnew_; clear hg_ hnew_; (first | rw [← Ny332.out] at ho8 | (simp only [Int.reduceToNat] at ho8; rw [← Ny332.out] at ho8)); have n0_ := z2a (Kd.R_lower ho8 (below_size (by repeat (first | (with_reducible first | exact HB.out | apply z2d | apply z2b | apply z2c | refine below_set ?_ GE330.out | refine below_set ?_ GE331.out) | exact HB.out)))); have n1_ := z2a (blk_below (g := gb330) (o := .cells #[.int .i64 a0_0, .int .i64 a0_1, .int .i64 a0_2] 71 (0, 0)) (by (with_reducible repeat (first | refine z2g ?_ _ | refine blk_drew ?_ | refine z2h ?_ _)); exact BK330.out) hb); have n2_ := z2a (blk_below (g := gb331) (o := .cells #[.int .i64 a1_0, .int .i64 a1_1, .int .i64 a1_2] 71 (0, 0)) (by (with_reducible repeat (first | refine z2g ?_ _ | refine blk_drew ?_ | refine z2h ?_ _)); exact BK331.out) hb); have n3_ := z2a (below_step (by repeat (first | (with_reducible first | exact HB.out | apply z2d | apply z2b | apply z2c | refine below_set ?_ GE330.out | refine below_set ?_ GE331.out) | exact HB.out)) hb); clear BK330; clear BK331; clear HB; have HO334 := n0_; have BK330 := n1_; have BK331 := n2_; have HB := n3_; clear n0_ n1_ n2_ n3_; clear hb ho8; obtain ⟨hcz9_0, hcz9_1, hcz9_2⟩ := cells_3 BK331.out; obtain ⟨hfz9_0, hfz9_1, hfz9_2⟩ := frz_3 BK331.out) | ((with_reducible refine gate_dst (N := 21) rfl ?_); refine Kd.R_lit (Kd.int .i64) _ 3 ?hg (N := 21) ?hd (xs := ([a1_0, a1_1, a1_2] : List Int)) (inner := [.int .i64 a1_0, .int .i64 a1_1, .int .i64 a1_2]) (ok := fun _ => True) (okp := fun _ => True) ?hr ?hp (fun _ hk => hk) trivial (Below.refl _ _) (Nat.le_refl _) (by simp) ?_; (case hd => rfl); (case hg => rfl); (case hr => first | (go_simp; done) | (go_simp; rfl)); (case hp => exact (Reps.one (show Kd.M (Kd.int .i64) _ _ _ a1_0 [.int .i64 a1_0] from rfl) (Reps.one (show Kd.M (Kd.int .i64) _ _ _ a1_1 [.int .i64 a1_1] from rfl) (Reps.one (show Kd.M (Kd.int .i64) _ _ _ a1_2 [.int .i64 a1_2] from rfl) (Reps.none _ _))))); intro v336 w10 ho11 hb hg_ hnew_; clear hg_ hnew_; (first | rw [← Ny335.out] at ho11 | (simp only [Int.reduceToNat] at ho11; rw [← Ny335.out] at ho11)); have n0_ := z2a (Kd.R_elder' (by (with_reducible repeat (first | apply Kd.R_alloc | apply Kd.R_drewN | apply Kd.R_drew)); exact HO334.out) (Kd.R_base ho11) hb); have n1_ := z2a (Kd.R_lower (Kd.R_new' ho11 (Kd.R_lt (by (with_reducible repeat (first | apply Kd.R_alloc | apply Kd.R_drewN | apply Kd.R_drew)); exact HO334.out))) (below_size (by repeat (first | (with_reducible first | exact HB.out | apply z2d | apply z2b | apply z2c | refine below_set ?_ GE330.out | refine below_set ?_ GE331.out) | exact HB.out)))); have n2_ := z2a (blk_below (g := gb330) (o := .cells #[.int .i64 a0_0, .int .i64 a0_1, .int .i64 a0_2] 71 (0, 0)) (by (with_reducible repeat (first | refine z2g ?_ _ | refine blk_drew ?_ | refine z2h ?_ _)); exact BK330.out) hb); have n3_ := z2a (blk_below (g := gb331) (o := .cells #[.int .i64 a1_0, .int .i64 a1_1, .int .i64 a1_2] 71 (0, 0)) (by (with_reducible repeat (first | refine z2g ?_ _ | refine blk_drew ?_ | refine z2h ?_ _)); exact BK331.out) hb); have n4_ := z2a (below_step (by repeat (first | (with_reducible first | exact HB.out | apply z2d | apply z2b | apply z2c | refine below_set ?_ GE330.out | refine below_set ?_ GE331.out) | exact HB.out)) hb); clear HO334; clear BK330; clear BK331; clear HB; have HO334 := n0_; have HO337 := n1_; have BK330 := n2_; have BK331 := n3_; have HB := n4_; clear n0_ n1_ n2_ n3_ n4_; clear hb ho11)))
 go_loopg [7] k (fun kq v7 w' => ∃ (x7_1 : Int), v7 = .int .i64 x7_1 ∧ Aside0 (y_f.l0 kq y332 y335 x7_1 = some r) ∧ Aside0 (kq ≤ k) ∧ Aside0 (Kd.R (Kd.int .i64) 3 w' w.heap.size (fun k_ => some k_ ≠ (v336 : Value).ownBlock) v333 y332) ∧ Aside0 (Kd.R (Kd.int .i64) 3 w' w.heap.size (fun k_ => some k_ ≠ (v333 : Value).ownBlock) v336 y335) ∧ Aside0 (w'.heap[gb330]? = some (.cells #[.int .i64 a0_0, .int .i64 a0_1, .int .i64 a0_2] 71 (0, 0))) ∧ Aside0 (w'.heap[gb331]? = some (.cells #[.int .i64 a1_0, .int .i64 a1_1, .int .i64 a1_2] 71 (0, 0))) ∧ Aside0 (Below w.heap.size w w'))
 case atStart => exact ⟨(0), (by first | rfl | (simp; done) | (simp [*]; done)), H', ⟨Nat.le_refl _⟩, ⟨by (with_reducible repeat (first | apply Kd.R_alloc | apply Kd.R_drewN | apply Kd.R_drew)); exact Kd.R_mono HO334.out (fun _ hk => hk.2)⟩, ⟨by (with_reducible repeat (first | apply Kd.R_alloc | apply Kd.R_drewN | apply Kd.R_drew)); exact Kd.R_mono HO337.out (fun _ hk => hk.2)⟩, ⟨by (with_reducible repeat (first | refine z2g ?_ _ | refine blk_drew ?_ | refine z2h ?_ _)); exact BK330.out⟩, ⟨by (with_reducible repeat (first | refine z2g ?_ _ | refine blk_drew ?_ | refine z2h ?_ _)); exact BK331.out⟩, ⟨by repeat (first | (with_reducible first | exact HB.out | apply z2d | apply z2b | apply z2c | refine below_set ?_ GE330.out | refine below_set ?_ GE331.out) | exact HB.out)⟩⟩
 case round =>
  clear H'
  try clear c1
  try clear p2
  try clear c5
  try clear c11
  try clear hcz6_0
  try clear hcz6_1
  try clear hcz6_2
  try clear hcz9_0
  try clear hcz9_1
  try clear hcz9_2
  try clear hfz6_0
  try clear hfz6_1
  try clear hfz6_2
  try clear hfz9_0
  try clear hfz9_1
  try clear hfz9_2
  obtain ⟨x7_1, rfl, HA, HK1, HO_5, HO_6, BK330, BK331, HB⟩ := hrel
  cases gk with
  | zero => exact absurd HA.out (by simp [y_f.l0])
  | succ k1 =>
   have H := HA.out
   clear HA
   simp only [y_f.l0] at H
   by_cases c12 : x7_1 < 3
   ·rw [if_pos c12] at H
    have c12b0 : decide (x7_1 < 3) = true := decide_eq_true c12
    clear c12
    by_cases c13 : 0 ≤ x7_1
    ·rw [if_pos c13] at H
     have c13b0 : decide (0 ≤ x7_1) = true := decide_eq_true c13
     clear c13
     by_cases c14 : x7_1 < (y332.length : Int)
     ·rw [if_pos c14] at H
      have c14b0 : decide (x7_1 < (y332.length : Int)) = true := decide_eq_true c14
      clear c14
      by_cases c15 : x7_1 < (y335.length : Int)
      ·rw [if_pos c15] at H
       have c15b0 : decide (x7_1 < (y335.length : Int)) = true := decide_eq_true c15
       clear c15
       by_cases c16 : (rd y332 x7_1) < (rd y335 x7_1)
       ·rw [if_pos c16] at H
        have c16b0 : decide ((rd y332 x7_1) < (rd y335 x7_1)) = true := decide_eq_true c16
        clear c16
        obtain rfl := Option.some.inj H
        obtain ⟨Ao17, co17, eo17⟩ := Kd.R_slice HO_5.out
        subst eo17
        have p338 : 0 ≤ (x7_1 : Int) := z2f (by first | (with_reducible assumption) | assumption)
        have q338 : x7_1 < (y332.length : Int) := z2f (by first | (with_reducible assumption) | assumption)
        obtain ⟨ad338, e338, hx338_0⟩ := Kd.at_int (Kd.R_reads' HO_5.out).2.2 x7_1 p338 q338
        cases e338
        replace p338 := eq_true p338
        replace q338 := eq_true q338
        obtain ⟨Ao18, co18, eo18⟩ := Kd.R_slice HO_6.out
        subst eo18
        have p339 : 0 ≤ (x7_1 : Int) := z2f (by first | (with_reducible assumption) | assumption)
        have q339 : x7_1 < (y335.length : Int) := z2f (by first | (with_reducible assumption) | assumption)
        obtain ⟨ad339, e339, hx339_0⟩ := Kd.at_int (Kd.R_reads' HO_6.out).2.2 x7_1 p339 q339
        cases e339
        replace p339 := eq_true p339
        replace q339 := eq_true q339
        go_wp2
        repeat (go_quiet (fail); try go_wp2)
        go_ret
        exact ⟨by first | rfl | (simp [errW_none, errW_some] <;> rfl) | (simp [*, errW_none, errW_some] <;> rfl), by repeat (first | (with_reducible first | exact HB.out | apply z2d | apply z2b | apply z2c | refine below_set ?_ GE330.out | refine below_set ?_ GE331.out) | exact HB.out)⟩
       ·rw [if_neg c16] at H
        have c16b0 : decide ((rd y332 x7_1) < (rd y335 x7_1)) = false := decide_eq_false c16
        clear c16
        by_cases c19 : (rd y332 x7_1) > (rd y335 x7_1)
        ·rw [if_pos c19] at H
         have c19b0 : decide ((rd y335 x7_1) < (rd y332 x7_1)) = true := decide_eq_true c19
         clear c19
         obtain rfl := Option.some.inj H
         obtain ⟨Ao20, co20, eo20⟩ := Kd.R_slice HO_5.out
         subst eo20
         have p338 : 0 ≤ (x7_1 : Int) := z2f (by first | (with_reducible assumption) | assumption)
         have q338 : x7_1 < (y332.length : Int) := z2f (by first | (with_reducible assumption) | assumption)
         obtain ⟨ad338, e338, hx338_0⟩ := Kd.at_int (Kd.R_reads' HO_5.out).2.2 x7_1 p338 q338
         cases e338
         replace p338 := eq_true p338
         replace q338 := eq_true q338
         obtain ⟨Ao21, co21, eo21⟩ := Kd.R_slice HO_6.out
         subst eo21
         have p339 : 0 ≤ (x7_1 : Int) := z2f (by first | (with_reducible assumption) | assumption)
         have q339 : x7_1 < (y335.length : Int) := z2f (by first | (with_reducible assumption) | assumption)
         obtain ⟨ad339, e339, hx339_0⟩ := Kd.at_int (Kd.R_reads' HO_6.out).2.2 x7_1 p339 q339
         cases e339
         replace p339 := eq_true p339
         replace q339 := eq_true q339
         have p340 : 0 ≤ (x7_1 : Int) := z2f (by first | (with_reducible assumption) | assumption)
         have q340 : x7_1 < (y332.length : Int) := z2f (by first | (with_reducible assumption) | assumption)
         obtain ⟨ad340, e340, hx340_0⟩ := Kd.at_int (Kd.R_reads' HO_5.out).2.2 x7_1 p340 q340
         obtain rfl : ad338 = ad340 := (by injection e340)
         replace p340 := eq_true p340
         replace q340 := eq_true q340
         have p341 : 0 ≤ (x7_1 : Int) := z2f (by first | (with_reducible assumption) | assumption)
         have q341 : x7_1 < (y335.length : Int) := z2f (by first | (with_reducible assumption) | assumption)
         obtain ⟨ad341, e341, hx341_0⟩ := Kd.at_int (Kd.R_reads' HO_6.out).2.2 x7_1 p341 q341
         obtain rfl : ad339 = ad341 := (by injection e341)
         replace p341 := eq_true p341
         replace q341 := eq_true q341
         go_wp2
         repeat (go_quiet (fail); try go_wp2)
         go_ret
         exact ⟨by first | rfl | (simp [errW_none, errW_some] <;> rfl) | (simp [*, errW_none, errW_some] <;> rfl), by repeat (first | (with_reducible first | exact HB.out | apply z2d | apply z2b | apply z2c | refine below_set ?_ GE330.out | refine below_set ?_ GE331.out) | exact HB.out)⟩
        ·rw [if_neg c19] at H
         have c19b0 : decide ((rd y335 x7_1) < (rd y332 x7_1)) = false := decide_eq_false c19
         clear c19
         have H' := z2a H
         clear H
         obtain ⟨Ao22, co22, eo22⟩ := Kd.R_slice HO_5.out
         subst eo22
         have p338 : 0 ≤ (x7_1 : Int) := z2f (by first | (with_reducible assumption) | assumption)
         have q338 : x7_1 < (y332.length : Int) := z2f (by first | (with_reducible assumption) | assumption)
         obtain ⟨ad338, e338, hx338_0⟩ := Kd.at_int (Kd.R_reads' HO_5.out).2.2 x7_1 p338 q338
         cases e338
         replace p338 := eq_true p338
         replace q338 := eq_true q338
         obtain ⟨Ao23, co23, eo23⟩ := Kd.R_slice HO_6.out
         subst eo23
         have p339 : 0 ≤ (x7_1 : Int) := z2f (by first | (with_reducible assumption) | assumption)
         have q339 : x7_1 < (y335.length : Int) := z2f (by first | (with_reducible assumption) | assumption)
         obtain ⟨ad339, e339, hx339_0⟩ := Kd.at_int (Kd.R_reads' HO_6.out).2.2 x7_1 p339 q339
         cases e339
         replace p339 := eq_true p339
         replace q339 := eq_true q339
         have p340 : 0 ≤ (x7_1 : Int) := z2f (by first | (with_reducible assumption) | assumption)
         have q340 : x7_1 < (y332.length : Int) := z2f (by first | (with_reducible assumption) | assumption)
         obtain ⟨ad340, e340, hx340_0⟩ := Kd.at_int (Kd.R_reads' HO_5.out).2.2 x7_1 p340 q340
         obtain rfl : ad338 = ad340 := (by injection e340)
         replace p340 := eq_true p340
         replace q340 := eq_true q340
         have p341 : 0 ≤ (x7_1 : Int) := z2f (by first | (with_reducible assumption) | assumption)
         have q341 : x7_1 < (y335.length : Int) := z2f (by first | (with_reducible assumption) | assumption)
         obtain ⟨ad341, e341, hx341_0⟩ := Kd.at_int (Kd.R_reads' HO_6.out).2.2 x7_1 p341 q341
         obtain rfl : ad339 = ad341 := (by injection e341)
         replace p341 := eq_true p341
         replace q341 := eq_true q341
         go_wp2
         repeat (go_quiet (fail); try go_wp2)
         go_roundg k1
         case measure => have := HK1.out; omega
         case rel => exact ⟨(wrap64 (x7_1 + 1)), (by first | rfl | (simp; done) | (simp [*]; done)), H', ⟨by have := HK1.out; omega⟩, ⟨by (with_reducible repeat (first | apply Kd.R_alloc | apply Kd.R_drewN | apply Kd.R_drew)); exact HO_5.out⟩, ⟨by (with_reducible repeat (first | apply Kd.R_alloc | apply Kd.R_drewN | apply Kd.R_drew)); exact HO_6.out⟩, ⟨by (with_reducible repeat (first | refine z2g ?_ _ | refine blk_drew ?_ | refine z2h ?_ _)); exact BK330.out⟩, ⟨by (with_reducible repeat (first | refine z2g ?_ _ | refine blk_drew ?_ | refine z2h ?_ _)); exact BK331.out⟩, ⟨by repeat (first | (with_reducible first | exact HB.out | apply z2d | apply z2b | apply z2c | refine below_set ?_ GE330.out | refine below_set ?_ GE331.out) | exact HB.out)⟩⟩
      ·rw [if_neg c15] at H
       exact absurd H (by simp)
     ·rw [if_neg c14] at H
      exact absurd H (by simp)
    ·rw [if_neg c13] at H
     exact absurd H (by simp)
   ·rw [if_neg c12] at H
    have c12b0 : decide (x7_1 < 3) = false := decide_eq_false c12
    clear c12
    obtain rfl := Option.some.inj H
    go_wp2
    repeat (go_quiet (fail); try go_wp2)
    go_ret
    exact ⟨by first | rfl | (simp [errW_none, errW_some] <;> rfl) | (simp [*, errW_none, errW_some] <;> rfl), by repeat (first | (with_reducible first | exact HB.out | apply z2d | apply z2b | apply z2c | refine below_set ?_ GE330.out | refine below_set ?_ GE331.out) | exact HB.out)⟩
end Go.Proofs.Ytkcicbigpbdjpaa.P
end
