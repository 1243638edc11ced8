-- merged by pack.py out of Px4 (words: printed by the kit's print.sh; what this claim does not use is left out)

import Derived.Test.YtkcicbigpbdjpaaKFnExactExternalSort1
import Derived.Test.YtkcicbigpbdjpaaKFnExactExternalSort6
namespace Go.Proofs.Ytkcicbigpbdjpaa
abbrev zq8_0 : Array Bool := #[false, false, false, false, false, false, false, false, false, false, false]
abbrev zq8_1 : Array Bool := #[true, false, false, false, false, false, false, false, false, false, false]
abbrev zq8_2 : Array Bool := #[true, true, false, false, false, false, false, false, false, false, false]
abbrev zq8_3 : Array Bool := #[true, true, true, false, false, false, false, false, false, false, false]
abbrev zq8_4 : Array Bool := #[true, true, true, true, true, true, true, false, false, false, false]
abbrev zq8_5 : Array Bool := #[true, true, true, true, true, true, true, true, false, false, false]
abbrev zq8_6 : Array Bool := #[true, true, true, true, true, true, true, true, true, false, false]
abbrev zq8_7 : Array Bool := #[true, true, true, true, true, true, true, true, true, true, false]
abbrev zq8_8 : Array Bool := #[true, true, true, true, true, true, true, true, true, true, true]
abbrev zt8 : Bool := true
abbrev zf8 : Bool := false
section
open Go.RowKit Go.Proofs.YtkcicbigpbdjpaaW.PrintWords Go.Proofs.YtkcicbigpbdjpaaW.PrintLast Go.Proofs.YtkcicbigpbdjpaaW.PrintMore
abbrev z8a := @Aside0.mk
abbrev z8b := @pw_below_drewN
abbrev z8c := @below_drew1
abbrev z8d := @below_alloc
abbrev z8e := @World.block_lt_of_cell?
end
theorem zp8a {α : Type} (l : List α) (i : Nat) (a : α) : l.toArray.setIfInBounds i a = (l.set i a).toArray := List.setIfInBounds_toArray l i a
theorem zp8b {α : Type} (x : α) (l : List α) (a : α) : (x :: l).set 0 a = a :: l := List.set_cons_zero
theorem zp8c {α : Type} (x : α) (l : List α) (n : Nat) (a : α) : (x :: l).set (n + 1) a = x :: l.set n a := List.set_cons_succ
end Go.Proofs.Ytkcicbigpbdjpaa
section
namespace Go.Proofs.Ytkcicbigpbdjpaa.P
open Go.RowKit Go.Proofs.YtkcicbigpbdjpaaW.PrintWords Go.Proofs.YtkcicbigpbdjpaaW.PrintLast Go.Proofs.YtkcicbigpbdjpaaW.PrintMore
attribute [local go_sem] max2_int min2_int max_two min_two max_three min_three max_four min_four
set_option linter.unusedVariables false
set_option linter.unusedSimpArgs false
def y_f.l0 : Nat → List (S71) → Int → List (S71) → Int → Int → Option (Int)
 | 0, _, _, _, _, _ => none
 | k + 1, x0, x3, x6, x7, x8 => if x8 < x7 then (if 0 ≤ x8 then (if x8 < (x6.length : Int) then (if x3 < 0 then (y_f.l0 k x0 x8 x6 x7 (wrap64 (x8 + 1))) else (if 0 ≤ x3 then (if x3 < (x0.length : Int) then ((y_eb.f ((rd_T71 x6 x8).f0) ((rd_T71 x6 x8).f1) ((rd_T71 x6 x8).f2) ((rd_T71 x0 x3).f0) ((rd_T71 x0 x3).f1) ((rd_T71 x0 x3).f2)).bind fun t239 => (if t239 < 0 then (y_f.l0 k x0 x8 x6 x7 (wrap64 (x8 + 1))) else (y_f.l0 k x0 x3 x6 x7 (wrap64 (x8 + 1))))) else (none)) else (none))) else (none)) else (none)) else (some x3)
def y_f.f (k : Nat) (l0 : List (S71)) : Option (Int) := y_f.l0 k l0 (-1) l0 (l0.length : Int) 0
theorem y_f.mono_l : ∀ k, (∀ y0 y1 y2 y3 y4, LeO (y_f.l0 k y0 y1 y2 y3 y4) (y_f.l0 (k + 1) y0 y1 y2 y3 y4))
 | 0 => fun _ _ _ _ _ r h => by simp [y_f.l0] at h
 | k + 1 => by
  have ih0 := y_f.mono_l k
  ·intro y0 y1 y2 y3 y4
   unfold y_f.l0
   repeat' first
   | (with_reducible exact ih0 _ _ _ _ _)
   | (with_reducible exact LeO.refl _)
   | (with_reducible exact LeO.none _)
   | (with_reducible refine LeO.ite ?_ ?_)
   | (with_reducible refine LeO.bind ?_ (fun _ => ?_))
   | exact ih0 _ _ _ _ _
   | exact LeO.none _
   | refine LeO.ite ?_ ?_
   | refine LeO.bind ?_ (fun _ => ?_)
theorem y_f.mono : ∀ a0 k, LeO (y_f.f k a0) (y_f.f (k + 1) a0) := by
 intro a0 k
 have ih0 := y_f.mono_l k
 unfold y_f.f
 repeat' first
   | (with_reducible exact ih0 _ _ _ _ _)
   | (with_reducible exact LeO.refl _)
   | (with_reducible exact LeO.none _)
   | (with_reducible refine LeO.ite ?_ ?_)
   | (with_reducible refine LeO.bind ?_ (fun _ => ?_))
   | exact ih0 _ _ _ _ _
   | exact LeO.none _
   | refine LeO.ite ?_ ?_
   | refine LeO.bind ?_ (fun _ => ?_)
def y_f.T5 : Bool × List (List Nat × List Nat) := (true, [([], []), ([0], [0]), ([1], [1]), ([2], [2]), ([2], [2]), ([2], [2]), ([4, 5, 2], [2, 4, 5]), ([6, 2], [2, 6]), ([3, 7, 2, 2], [2, 3, 7]), ([8, 2], [2, 8]), ([2, 9], [2, 9])])
def y_f.B5 : List Nat := [0, 1, 3, 7, 7, 7, 55, 119, 255, 511, 1023]
theorem y_f.tab5 : rtab .any (opsOf Try.f26 5) = y_f.T5 := by kernel_rfl
theorem y_f.bits5 : waitsOk y_f.T5.2 y_f.B5 = true := by kernel_rfl
set_option maxHeartbeats 8000000 in
set_option maxRecDepth 100000 in
theorem y_f.calls (k : Nat) (A0 : Option Addr) (c0 : Nat) (l0 : List (S71)) (r : Int) (w : World) (hr0 : Kd.C k71 w A0 l0.length l0) (hc0 : l0.length ≤ c0) (h : y_f.f k l0 = some r) :
  Calls Try.prog 26 #[.slice A0 l0.length c0] w fun e w' => e = .returned (.int .i64 r) ∧ Below w.heap.size w w' := by
 have hu71 := Try.underlying71
 have HR0 := z8a hr0
 have HC0 := z8a hc0
 clear hr0 hc0
 have HB := z8a (Below.refl w.heap.size w)
 have H : (y_f.l0 k l0 (-1) l0 (l0.length : Int) 0) = some r := h
 clear h
 have H' := z8a H
 clear H
 go_enter Try.func26, Try.ntmps26
 go_wp2
 go_loopg [3, 8] k (fun kq v3 v8 w' => ∃ (x3_1 : Int) (x8_1 : Int), v3 = .int .i64 x3_1 ∧ v8 = .int .i64 x8_1 ∧ Aside0 (y_f.l0 kq l0 x3_1 l0 (l0.length : Int) x8_1 = some r) ∧ Aside0 (kq ≤ k) ∧ Aside0 (Below w.heap.size w w'))
 case atStart => exact ⟨((-1)), (0), (by first | rfl | (simp; done) | (simp [*]; done)), (by first | rfl | (simp; done) | (simp [*]; done)), H', ⟨Nat.le_refl _⟩, ⟨by repeat (first | (with_reducible first | exact HB.out | apply z8d | apply z8b | apply z8c) | exact HB.out)⟩⟩
 case round =>
  clear H'
  obtain ⟨x3_1, x8_1, rfl, rfl, HA, HK1, HB⟩ := hrel
  cases gk with
  | zero => exact absurd HA.out (by simp [y_f.l0])
  | succ k1 =>
   have H := HA.out
   clear HA
   simp only [y_f.l0] at H
   by_cases c2 : x8_1 < (l0.length : Int)
   ·rw [if_pos c2] at H
    have c2b0 : decide (x8_1 < (l0.length : Int)) = true := decide_eq_true c2
    clear c2
    by_cases c3 : 0 ≤ x8_1
    ·rw [if_pos c3] at H
     have c3b0 : decide (0 ≤ x8_1) = true := decide_eq_true c3
     clear c3
     by_cases c4 : x8_1 < (l0.length : Int)
     ·rw [if_pos c4] at H
      have c4b0 : decide (x8_1 < (l0.length : Int)) = true := decide_eq_true c4
      clear c4
      by_cases c5 : x3_1 < 0
      ·rw [if_pos c5] at H
       have c5b0 : decide (x3_1 < 0) = true := decide_eq_true c5
       clear c5
       have H' := z8a H
       clear H
       have p236 : 0 ≤ (x8_1 : Int) := of_decide_eq_true (by first | (with_reducible assumption) | assumption)
       have q236 : x8_1 < (l0.length : Int) := of_decide_eq_true (by first | (with_reducible assumption) | assumption)
       obtain ⟨ad236, e236, hx236_0, hx236_1, hx236_2⟩ := at_T71 HR0.out x8_1 p236 q236
       cases e236
       replace hx236_0 := (HB.out.cell (z8e w _ hx236_0)).trans hx236_0
       replace hx236_1 := (HB.out.cell (z8e w _ hx236_1)).trans hx236_1
       replace hx236_2 := (HB.out.cell (z8e w _ hx236_2)).trans hx236_2
       replace p236 := eq_true p236
       replace q236 := eq_true q236
       try go_wp2_with (first | ((with_reducible refine gate_dst (N := 5) rfl ?_); refine box_event ?hg (N := 5) ?hd (cs := #[.int .i64 0, .int .i64 0, .int .i64 0]) (t := 71) ?hr ?_; (case hd => rfl); (case hg => rfl); (case hr => first | (go_simp; done) | (go_simp; rfl)); intro gb237 hg w6 hbox hb; have n0_ := z8a (below_step (by repeat (first | (with_reducible first | exact HB.out | apply z8d | apply z8b | apply z8c) | exact HB.out)) hb); have n1_ := z8a (hbox); have n2_ := z8a ((by rw [hg]; exact (below_size (by repeat (first | (with_reducible first | exact HB.out | apply z8d | apply z8b | apply z8c) | exact HB.out))) : w.heap.size ≤ gb237)); have n3_ := z8a ((by rw [hg]; exact (below_size (by repeat (first | (with_reducible first | exact HB.out | apply z8d | apply z8b | apply z8c) | exact HB.out))) : w.heap.size ≤ gb237)); clear HB; have HB := n0_; have BK237 := n1_; have GW237 := n2_; have GE237 := n3_; clear n0_ n1_ n2_ n3_; clear hb hbox hg; obtain ⟨hcz7_0, hcz7_1, hcz7_2⟩ := cells_3 BK237.out; obtain ⟨hfz7_0, hfz7_1, hfz7_2⟩ := frz_3 BK237.out))
       have n0_ : Aside0 ((((w6.setCell ⟨gb237, 0, none⟩ (.int .i64 ((rd_T71 l0 x8_1).f0))).setCell ⟨gb237, 1, none⟩ (.int .i64 ((rd_T71 l0 x8_1).f1))).setCell ⟨gb237, 2, none⟩ (.int .i64 ((rd_T71 l0 x8_1).f2))).heap[gb237]? = some (.cells #[.int .i64 ((rd_T71 l0 x8_1).f0), .int .i64 ((rd_T71 l0 x8_1).f1), .int .i64 ((rd_T71 l0 x8_1).f2)] 71 (0, 0))) := ⟨by (with_reducible repeat (first | refine blk_drewN ?_ _ | refine blk_drew ?_ | refine blk_alloc ?_ _)); refine blk_put (cs := #[.int .i64 ((rd_T71 l0 x8_1).f0), .int .i64 ((rd_T71 l0 x8_1).f1), .int .i64 0]) ?_ 2 _ rfl; (with_reducible repeat (first | refine blk_drewN ?_ _ | refine blk_drew ?_ | refine blk_alloc ?_ _)); refine blk_put (cs := #[.int .i64 ((rd_T71 l0 x8_1).f0), .int .i64 0, .int .i64 0]) ?_ 1 _ rfl; (with_reducible repeat (first | refine blk_drewN ?_ _ | refine blk_drew ?_ | refine blk_alloc ?_ _)); refine blk_put (cs := #[.int .i64 0, .int .i64 0, .int .i64 0]) ?_ 0 _ rfl; (with_reducible repeat (first | refine blk_drewN ?_ _ | refine blk_drew ?_ | refine blk_alloc ?_ _)); exact BK237.out⟩
       have n1_ : Aside0 (Below w.heap.size w (((w6.setCell ⟨gb237, 0, none⟩ (.int .i64 ((rd_T71 l0 x8_1).f0))).setCell ⟨gb237, 1, none⟩ (.int .i64 ((rd_T71 l0 x8_1).f1))).setCell ⟨gb237, 2, none⟩ (.int .i64 ((rd_T71 l0 x8_1).f2)))) := ⟨by repeat (first | (with_reducible first | exact HB.out | apply z8d | apply z8b | apply z8c | refine below_set ?_ GE237.out) | exact HB.out)⟩
       (try clear BK237)
       (try clear HB)
       generalize (((w6.setCell ⟨gb237, 0, none⟩ (.int .i64 ((rd_T71 l0 x8_1).f0))).setCell ⟨gb237, 1, none⟩ (.int .i64 ((rd_T71 l0 x8_1).f1))).setCell ⟨gb237, 2, none⟩ (.int .i64 ((rd_T71 l0 x8_1).f2))) = w8 at n0_ n1_ ⊢
       have BK237 := n0_
       have HB := n1_
       clear n0_ n1_
       have n0_ := z8a (blk_drew BK237.out)
       have n1_ := z8a (z8c HB.out)
       clear BK237
       clear HB
       have BK237 := n0_
       have HB := n1_
       clear n0_ n1_
       refine start_ (n := 11) (S := fun w' => True) (ds := []) zq8_0 (by kernel_rfl) rfl rfl trivial (fun hHeld => ?_); refine with_tabW y_f.tab5 y_f.bits5 (fun HT_ HW_ => ?_)
       generalize w8.drew = w9 at BK237 HB hHeld ⊢
       refine pure_ (i := 0) (N := some 13) (v := ?_) (a' := ?_) zq8_1 rfl rfl (any_of HT_.out (by kernel_rfl)) (fun _ _ _ h => h) (Or.inl ⟨by rfl, ?_⟩) ?_ ?_
       rotate_left
       ·intro w'
        go_simp
        with_reducible rfl
       rotate_left
       ·simp only [Act.put, zp8a, zp8b, zp8c, i64_w, i32_w]
        rfl
       refine pure_ (i := 1) (N := some 14) (v := ?_) (a' := ?_) zq8_2 rfl rfl (any_of HT_.out (by kernel_rfl)) (fun _ _ _ h => h) (Or.inl ⟨by rfl, ?_⟩) ?_ ?_
       rotate_left
       ·intro w'
        go_simp
        with_reducible rfl
       rotate_left
       ·simp only [Act.put, zp8a, zp8b, zp8c, i64_w, i32_w]
        rfl
       refine pure_ (i := 2) (N := some 15) (v := ?_) (a' := ?_) zq8_3 rfl rfl (any_of HT_.out (by kernel_rfl)) (fun _ _ _ h => h) (Or.inl ⟨by rfl, ?_⟩) ?_ ?_
       rotate_left
       ·intro w'
        go_simp
        with_reducible rfl
       rotate_left
       ·simp only [Act.put, zp8a, zp8b, zp8c, i64_w, i32_w]
        rfl
       refine pure_ (i := 3) (N := some 16) (v := undef) (a' := ?_) #[zt8,zt8,zt8,zt8,zf8,zf8,zf8,zf8,zf8,zf8,zf8] rfl rfl (any_of HT_.out (by kernel_rfl)) (fun _ _ _ h => h) (Or.inr ⟨by rfl, rfl⟩) ?_ ?_
       rotate_left
       ·simp only [Act.put, zp8a, zp8b, zp8c, i64_w, i32_w]
        rfl
       refine pure_ (i := 4) (N := some 17) (v := undef) (a' := ?_) #[zt8,zt8,zt8,zt8,zt8,zf8,zf8,zf8,zf8,zf8,zf8] rfl rfl (any_of HT_.out (by kernel_rfl)) (fun _ _ _ h => h) (Or.inr ⟨by rfl, rfl⟩) ?_ ?_
       rotate_left
       ·simp only [Act.put, zp8a, zp8b, zp8c, i64_w, i32_w]
        rfl
       refine pure_ (i := 5) (N := some 18) (v := undef) (a' := ?_) #[zt8,zt8,zt8,zt8,zt8,zt8,zf8,zf8,zf8,zf8,zf8] rfl rfl (any_of HT_.out (by kernel_rfl)) (fun _ _ _ h => h) (Or.inr ⟨by rfl, rfl⟩) ?_ ?_
       rotate_left
       ·simp only [Act.put, zp8a, zp8b, zp8c, i64_w, i32_w]
        rfl
       refine pure_ (i := 6) (N := some 19) (v := undef) (a' := ?_) zq8_4 rfl rfl (any_of HT_.out (by kernel_rfl)) (fun _ _ _ h => h) (Or.inr ⟨by rfl, rfl⟩) ?_ ?_
       rotate_left
       ·simp only [Act.put, zp8a, zp8b, zp8c, i64_w, i32_w]
        rfl
       refine pure_ (i := 7) (N := some 20) (v := undef) (a' := ?_) zq8_5 rfl rfl (any_of HT_.out (by kernel_rfl)) (fun _ _ _ h => h) (Or.inr ⟨by rfl, rfl⟩) ?_ ?_
       rotate_left
       ·simp only [Act.put, zp8a, zp8b, zp8c, i64_w, i32_w]
        rfl
       refine pure_ (i := 8) (N := some 21) (v := undef) (a' := ?_) zq8_6 rfl rfl (any_of HT_.out (by kernel_rfl)) (fun _ _ _ h => h) (Or.inr ⟨by rfl, rfl⟩) ?_ ?_
       rotate_left
       ·simp only [Act.put, zp8a, zp8b, zp8c, i64_w, i32_w]
        rfl
       refine pure_ (i := 9) (N := some 22) (v := undef) (a' := ?_) zq8_7 rfl rfl (any_of HT_.out (by kernel_rfl)) (fun _ _ _ h => h) (Or.inr ⟨by rfl, rfl⟩) ?_ ?_
       rotate_left
       ·simp only [Act.put, zp8a, zp8b, zp8c, i64_w, i32_w]
        rfl
       refine pure_ (i := 10) (N := some 23) (v := ?_) (a' := ?_) zq8_8 rfl rfl (any_of HT_.out (by kernel_rfl)) (fun _ _ _ h => h) (Or.inl ⟨by rfl, ?_⟩) ?_ ?_
       rotate_left
       ·intro w'
        go_simp
        with_reducible rfl
       rotate_left
       ·simp only [Act.put, zp8a, zp8b, zp8c, i64_w, i32_w]
        rfl
       refine done_ (done_of HT_.out (by kernel_rfl)) ?_
       try go_wp2
       go_roundg k1
       case measure => have := HK1.out; omega
       case rel => exact ⟨(x8_1), (wrap64 (x8_1 + 1)), (by first | rfl | (simp; done) | (simp [*]; done)), (by first | rfl | (simp; done) | (simp [*]; done)), H', ⟨by have := HK1.out; omega⟩, ⟨by repeat (first | (with_reducible first | exact HB.out | apply z8d | apply z8b | apply z8c | refine below_set ?_ GE237.out) | exact HB.out)⟩⟩
      ·rw [if_neg c5] at H
       have c5b0 : decide (x3_1 < 0) = false := decide_eq_false c5
       clear c5
       by_cases c10 : 0 ≤ x3_1
       ·rw [if_pos c10] at H
        have c10b0 : decide (0 ≤ x3_1) = true := decide_eq_true c10
        clear c10
        by_cases c11 : x3_1 < (l0.length : Int)
        ·rw [if_pos c11] at H
         have c11b0 : decide (x3_1 < (l0.length : Int)) = true := decide_eq_true c11
         clear c11
         replace H := Option.bind_eq_some_iff.mp H
         obtain ⟨t239, A120, H⟩ := H
         have A12 := z8a A120
         clear A120
         by_cases c13 : t239 < 0
         ·rw [if_pos c13] at H
          have c13b0 : decide (t239 < 0) = true := decide_eq_true c13
          clear c13
          have H' := z8a H
          clear H
          have p236 : 0 ≤ (x8_1 : Int) := of_decide_eq_true (by first | (with_reducible assumption) | assumption)
          have q236 : x8_1 < (l0.length : Int) := of_decide_eq_true (by first | (with_reducible assumption) | assumption)
          obtain ⟨ad236, e236, hx236_0, hx236_1, hx236_2⟩ := at_T71 HR0.out x8_1 p236 q236
          cases e236
          replace hx236_0 := (HB.out.cell (z8e w _ hx236_0)).trans hx236_0
          replace hx236_1 := (HB.out.cell (z8e w _ hx236_1)).trans hx236_1
          replace hx236_2 := (HB.out.cell (z8e w _ hx236_2)).trans hx236_2
          replace p236 := eq_true p236
          replace q236 := eq_true q236
          try go_wp2_with (first | ((with_reducible refine gate_dst (N := 5) rfl ?_); refine box_event ?hg (N := 5) ?hd (cs := #[.int .i64 0, .int .i64 0, .int .i64 0]) (t := 71) ?hr ?_; (case hd => rfl); (case hg => rfl); (case hr => first | (go_simp; done) | (go_simp; rfl)); intro gb237 hg w14 hbox hb; have n0_ := z8a (below_step (by repeat (first | (with_reducible first | exact HB.out | apply z8d | apply z8b | apply z8c) | exact HB.out)) hb); have n1_ := z8a (hbox); have n2_ := z8a ((by rw [hg]; exact (below_size (by repeat (first | (with_reducible first | exact HB.out | apply z8d | apply z8b | apply z8c) | exact HB.out))) : w.heap.size ≤ gb237)); have n3_ := z8a ((by rw [hg]; exact (below_size (by repeat (first | (with_reducible first | exact HB.out | apply z8d | apply z8b | apply z8c) | exact HB.out))) : w.heap.size ≤ gb237)); clear HB; have HB := n0_; have BK237 := n1_; have GW237 := n2_; have GE237 := n3_; clear n0_ n1_ n2_ n3_; clear hb hbox hg; obtain ⟨hcz15_0, hcz15_1, hcz15_2⟩ := cells_3 BK237.out; obtain ⟨hfz15_0, hfz15_1, hfz15_2⟩ := frz_3 BK237.out))
          have n0_ : Aside0 ((((w14.setCell ⟨gb237, 0, none⟩ (.int .i64 ((rd_T71 l0 x8_1).f0))).setCell ⟨gb237, 1, none⟩ (.int .i64 ((rd_T71 l0 x8_1).f1))).setCell ⟨gb237, 2, none⟩ (.int .i64 ((rd_T71 l0 x8_1).f2))).heap[gb237]? = some (.cells #[.int .i64 ((rd_T71 l0 x8_1).f0), .int .i64 ((rd_T71 l0 x8_1).f1), .int .i64 ((rd_T71 l0 x8_1).f2)] 71 (0, 0))) := ⟨by (with_reducible repeat (first | refine blk_drewN ?_ _ | refine blk_drew ?_ | refine blk_alloc ?_ _)); refine blk_put (cs := #[.int .i64 ((rd_T71 l0 x8_1).f0), .int .i64 ((rd_T71 l0 x8_1).f1), .int .i64 0]) ?_ 2 _ rfl; (with_reducible repeat (first | refine blk_drewN ?_ _ | refine blk_drew ?_ | refine blk_alloc ?_ _)); refine blk_put (cs := #[.int .i64 ((rd_T71 l0 x8_1).f0), .int .i64 0, .int .i64 0]) ?_ 1 _ rfl; (with_reducible repeat (first | refine blk_drewN ?_ _ | refine blk_drew ?_ | refine blk_alloc ?_ _)); refine blk_put (cs := #[.int .i64 0, .int .i64 0, .int .i64 0]) ?_ 0 _ rfl; (with_reducible repeat (first | refine blk_drewN ?_ _ | refine blk_drew ?_ | refine blk_alloc ?_ _)); exact BK237.out⟩
          have n1_ : Aside0 (Below w.heap.size w (((w14.setCell ⟨gb237, 0, none⟩ (.int .i64 ((rd_T71 l0 x8_1).f0))).setCell ⟨gb237, 1, none⟩ (.int .i64 ((rd_T71 l0 x8_1).f1))).setCell ⟨gb237, 2, none⟩ (.int .i64 ((rd_T71 l0 x8_1).f2)))) := ⟨by repeat (first | (with_reducible first | exact HB.out | apply z8d | apply z8b | apply z8c | refine below_set ?_ GE237.out) | exact HB.out)⟩
          (try clear BK237)
          (try clear HB)
          generalize (((w14.setCell ⟨gb237, 0, none⟩ (.int .i64 ((rd_T71 l0 x8_1).f0))).setCell ⟨gb237, 1, none⟩ (.int .i64 ((rd_T71 l0 x8_1).f1))).setCell ⟨gb237, 2, none⟩ (.int .i64 ((rd_T71 l0 x8_1).f2))) = w16 at n0_ n1_ ⊢
          have BK237 := n0_
          have HB := n1_
          clear n0_ n1_
          have n0_ := z8a (blk_drew BK237.out)
          have n1_ := z8a (z8c HB.out)
          clear BK237
          clear HB
          have BK237 := n0_
          have HB := n1_
          clear n0_ n1_
          have p238 : 0 ≤ (x3_1 : Int) := of_decide_eq_true (by first | (with_reducible assumption) | assumption)
          have q238 : x3_1 < (l0.length : Int) := of_decide_eq_true (by first | (with_reducible assumption) | assumption)
          obtain ⟨ad238, e238, hx238_0, hx238_1, hx238_2⟩ := at_T71 HR0.out x3_1 p238 q238
          have hw238_2 := hx238_2
          have hw238_1 := hx238_1
          have hw238_0 := hx238_0
          obtain rfl : ad236 = ad238 := (by injection e238)
          replace hx238_0 := (HB.out.cell (z8e w _ hx238_0)).trans hx238_0
          replace hx238_1 := (HB.out.cell (z8e w _ hx238_1)).trans hx238_1
          replace hx238_2 := (HB.out.cell (z8e w _ hx238_2)).trans hx238_2
          replace p238 := eq_true p238
          replace q238 := eq_true q238
          refine start_ (n := 11) (S := fun w' => w'.cell? ⟨gb237, 0, none⟩ = some (.int .i64 ((rd_T71 l0 x8_1).f0)) ∧ w'.cell? ⟨gb237, 1, none⟩ = some (.int .i64 ((rd_T71 l0 x8_1).f1)) ∧ w'.cell? ⟨gb237, 2, none⟩ = some (.int .i64 ((rd_T71 l0 x8_1).f2)) ∧ w'.cell? (ad236.add ((x3_1).toNat * 3)) = some (.int .i64 ((rd_T71 l0 x3_1).f0)) ∧ w'.cell? ⟨(ad236.add ((x3_1).toNat * 3)).block, (ad236.add ((x3_1).toNat * 3)).off + 1, none⟩ = some (.int .i64 ((rd_T71 l0 x3_1).f1)) ∧ w'.cell? ⟨(ad236.add ((x3_1).toNat * 3)).block, (ad236.add ((x3_1).toNat * 3)).off + 2, none⟩ = some (.int .i64 ((rd_T71 l0 x3_1).f2))) (ds := []) zq8_0 (by kernel_rfl) rfl rfl ⟨(blk_cell BK237.out 0).trans rfl, (blk_cell BK237.out 1).trans rfl, (blk_cell BK237.out 2).trans rfl, ((HB.out.cell (z8e w _ hw238_0)).trans hw238_0), ((HB.out.cell (z8e w _ hw238_1)).trans hw238_1), ((HB.out.cell (z8e w _ hw238_2)).trans hw238_2)⟩ (fun hHeld => ?_); refine with_tabW y_f.tab5 y_f.bits5 (fun HT_ HW_ => ?_)
          generalize w16.drew = w17 at BK237 HB hx238_0 hx238_1 hx238_2 hHeld ⊢
          refine pure_ (i := 0) (N := some 13) (v := ?_) (a' := ?_) zq8_1 rfl rfl (any_of HT_.out (by kernel_rfl)) (fun _ _ _ h => h) (Or.inl ⟨by rfl, ?_⟩) ?_ ?_
          rotate_left
          ·intro w'
           go_simp
           with_reducible rfl
          rotate_left
          ·simp only [Act.put, zp8a, zp8b, zp8c, i64_w, i32_w]
           rfl
          refine pure_ (i := 1) (N := some 14) (v := ?_) (a' := ?_) zq8_2 rfl rfl (any_of HT_.out (by kernel_rfl)) (fun _ _ _ h => h) (Or.inl ⟨by rfl, ?_⟩) ?_ ?_
          rotate_left
          ·intro w'
           go_simp
           with_reducible rfl
          rotate_left
          ·simp only [Act.put, zp8a, zp8b, zp8c, i64_w, i32_w]
           rfl
          refine pure_ (i := 2) (N := some 15) (v := ?_) (a' := ?_) zq8_3 rfl rfl (any_of HT_.out (by kernel_rfl)) (fun _ _ _ h => h) (Or.inl ⟨by rfl, ?_⟩) ?_ ?_
          rotate_left
          ·intro w'
           go_simp
           with_reducible rfl
          rotate_left
          ·simp only [Act.put, zp8a, zp8b, zp8c, i64_w, i32_w]
           rfl
          refine pure_ (i := 4) (N := some 17) (v := ?_) (a' := ?_) #[zt8,zt8,zt8,zf8,zt8,zf8,zf8,zf8,zf8,zf8,zf8] rfl rfl (any_of HT_.out (by kernel_rfl)) (fun _ _ _ h => h) (Or.inl ⟨by rfl, ?_⟩) ?_ ?_
          rotate_left
          ·intro w'
           go_simp
           with_reducible rfl
          rotate_left
          ·simp only [Act.put, zp8a, zp8b, zp8c, i64_w, i32_w]
           rfl
          refine pure_ (i := 5) (N := some 18) (v := ?_) (a' := ?_) #[zt8,zt8,zt8,zf8,zt8,zt8,zf8,zf8,zf8,zf8,zf8] rfl rfl (any_of HT_.out (by kernel_rfl)) (fun _ _ _ h => h) (Or.inl ⟨by rfl, ?_⟩) ?_ ?_
          rotate_left
          ·intro w'
           go_simp
           with_reducible rfl
          rotate_left
          ·simp only [Act.put, zp8a, zp8b, zp8c, i64_w, i32_w]
           rfl
          refine pure_ (i := 6) (N := some 19) (v := ?_) (a' := ?_) #[zt8,zt8,zt8,zf8,zt8,zt8,zt8,zf8,zf8,zf8,zf8] rfl rfl (any_of HT_.out (by kernel_rfl)) (fun _ _ _ h => h) (Or.inl ⟨by rfl, ?_⟩) ?_ ?_
          rotate_left
          ·intro w'
           go_simp
           with_reducible rfl
          rotate_left
          ·simp only [Act.put, zp8a, zp8b, zp8c, i64_w, i32_w]
           rfl
          refine take_ (i := 3) (N := some 16) (v := ?_) (a' := ?_) zq8_4 rfl rfl (take_ofW HT_.out HW_.out (by kernel_rfl)) (fun _ _ _ h => h) (Or.inl ⟨by rfl, ?_⟩) hHeld ?_ ?_
          rotate_left
          ·rintro w' ⟨s0, s1, s2, s3, s4, s5⟩
           go_simp
           with_reducible rfl
          rotate_left
          ·simp only [Act.put, zp8a, zp8b, zp8c, i64_w, i32_w]
           rfl
          refine take_ (i := 7) (N := some 20) (v := ?_) (a' := ?_) zq8_5 rfl rfl (take_ofW HT_.out HW_.out (by kernel_rfl)) (fun _ _ _ h => h) (Or.inl ⟨by rfl, ?_⟩) hHeld ?_ ?_
          rotate_left
          ·rintro w' ⟨s0, s1, s2, s3, s4, s5⟩
           go_simp
           with_reducible rfl
          rotate_left
          ·simp only [Act.put, zp8a, zp8b, zp8c, i64_w, i32_w]
           rfl
          refine one_ (i := 8) (N := some 21) zq8_6 rfl rfl (one_of HT_.out (by kernel_rfl)) (by decide) (fun K hK => ?_)
          refine goes_ Try.func122 (by kernel_rfl) rfl #[.agg #[.int .i64 ((rd_T71 l0 x8_1).f0), .int .i64 ((rd_T71 l0 x8_1).f1), .int .i64 ((rd_T71 l0 x8_1).f2)], .agg #[.int .i64 ((rd_T71 l0 x3_1).f0), .int .i64 ((rd_T71 l0 x3_1).f1), .int .i64 ((rd_T71 l0 x3_1).f2)]] (by rfl) rfl rfl (by (try simp only [List.map_toArray, List.map_cons, List.map_nil]); first | done | rfl | (simp only [List.length_drop, List.length_take]; rfl)) ?_
          with_reducible refine (y_eb.calls ((rd_T71 l0 x8_1).f0) ((rd_T71 l0 x8_1).f1) ((rd_T71 l0 x8_1).f2) ((rd_T71 l0 x3_1).f0) ((rd_T71 l0 x3_1).f1) ((rd_T71 l0 x3_1).f2) t239 _ A12.out).mono ?_
          rintro e w18 ⟨rfl, hb⟩
          refine ⟨_, rfl, ?_⟩
          have n0_ := z8a (blk_below (g := gb237) (o := .cells #[.int .i64 ((rd_T71 l0 x8_1).f0), .int .i64 ((rd_T71 l0 x8_1).f1), .int .i64 ((rd_T71 l0 x8_1).f2)] 71 (0, 0)) (by (with_reducible repeat (first | refine blk_drewN ?_ _ | refine blk_drew ?_ | refine blk_alloc ?_ _)); exact BK237.out) hb)
          have n1_ := z8a (below_step (by repeat (first | (with_reducible first | exact HB.out | apply z8d | apply z8b | apply z8c | refine below_set ?_ GE237.out) | exact HB.out)) hb)
          clear BK237
          clear HB
          have BK237 := n0_
          have HB := n1_
          clear n0_ n1_
          (try clear hb)
          (try clear hb2)
          (try clear hk)
          (try clear hi)
          refine hK.out _ _ ⟨(blk_cell BK237.out 0).trans rfl, (blk_cell BK237.out 1).trans rfl, (blk_cell BK237.out 2).trans rfl, ((HB.out.cell (z8e w _ hw238_0)).trans hw238_0), ((HB.out.cell (z8e w _ hw238_1)).trans hw238_1), ((HB.out.cell (z8e w _ hw238_2)).trans hw238_2)⟩ (fun hHeld => ?_)
          clear hK K
          refine norm_ (a' := ?_) ?_ ?_
          rotate_left
          ·show Act.put _ (some 21) _ = _
           simp only [Act.put, zp8a, zp8b, zp8c, i64_w, i32_w]
           rfl
          refine pure_ (i := 9) (N := some 22) (v := ?_) (a' := ?_) zq8_7 rfl rfl (any_of HT_.out (by kernel_rfl)) (fun _ _ _ h => h) (Or.inl ⟨by rfl, ?_⟩) ?_ ?_
          rotate_left
          ·intro w'
           go_simp
           with_reducible rfl
          rotate_left
          ·simp only [Act.put, zp8a, zp8b, zp8c, i64_w, i32_w]
           rfl
          refine pure_ (i := 10) (N := some 23) (v := ?_) (a' := ?_) zq8_8 rfl rfl (any_of HT_.out (by kernel_rfl)) (fun _ _ _ h => h) (Or.inl ⟨by rfl, ?_⟩) ?_ ?_
          rotate_left
          ·intro w'
           go_simp
           with_reducible rfl
          rotate_left
          ·simp only [Act.put, zp8a, zp8b, zp8c, i64_w, i32_w]
           rfl
          refine done_ (done_of HT_.out (by kernel_rfl)) ?_
          try go_wp2
          go_roundg k1
          case measure => have := HK1.out; omega
          case rel => exact ⟨(x8_1), (wrap64 (x8_1 + 1)), (by first | rfl | (simp; done) | (simp [*]; done)), (by first | rfl | (simp; done) | (simp [*]; done)), H', ⟨by have := HK1.out; omega⟩, ⟨by repeat (first | (with_reducible first | exact HB.out | apply z8d | apply z8b | apply z8c | refine below_set ?_ GE237.out) | exact HB.out)⟩⟩
         ·rw [if_neg c13] at H
          have c13b0 : decide (t239 < 0) = false := decide_eq_false c13
          clear c13
          have H' := z8a H
          clear H
          have p236 : 0 ≤ (x8_1 : Int) := of_decide_eq_true (by first | (with_reducible assumption) | assumption)
          have q236 : x8_1 < (l0.length : Int) := of_decide_eq_true (by first | (with_reducible assumption) | assumption)
          obtain ⟨ad236, e236, hx236_0, hx236_1, hx236_2⟩ := at_T71 HR0.out x8_1 p236 q236
          cases e236
          replace hx236_0 := (HB.out.cell (z8e w _ hx236_0)).trans hx236_0
          replace hx236_1 := (HB.out.cell (z8e w _ hx236_1)).trans hx236_1
          replace hx236_2 := (HB.out.cell (z8e w _ hx236_2)).trans hx236_2
          replace p236 := eq_true p236
          replace q236 := eq_true q236
          try go_wp2_with (first | ((with_reducible refine gate_dst (N := 5) rfl ?_); refine box_event ?hg (N := 5) ?hd (cs := #[.int .i64 0, .int .i64 0, .int .i64 0]) (t := 71) ?hr ?_; (case hd => rfl); (case hg => rfl); (case hr => first | (go_simp; done) | (go_simp; rfl)); intro gb237 hg w19 hbox hb; have n0_ := z8a (below_step (by repeat (first | (with_reducible first | exact HB.out | apply z8d | apply z8b | apply z8c) | exact HB.out)) hb); have n1_ := z8a (hbox); have n2_ := z8a ((by rw [hg]; exact (below_size (by repeat (first | (with_reducible first | exact HB.out | apply z8d | apply z8b | apply z8c) | exact HB.out))) : w.heap.size ≤ gb237)); have n3_ := z8a ((by rw [hg]; exact (below_size (by repeat (first | (with_reducible first | exact HB.out | apply z8d | apply z8b | apply z8c) | exact HB.out))) : w.heap.size ≤ gb237)); clear HB; have HB := n0_; have BK237 := n1_; have GW237 := n2_; have GE237 := n3_; clear n0_ n1_ n2_ n3_; clear hb hbox hg; obtain ⟨hcz20_0, hcz20_1, hcz20_2⟩ := cells_3 BK237.out; obtain ⟨hfz20_0, hfz20_1, hfz20_2⟩ := frz_3 BK237.out))
          have n0_ : Aside0 ((((w19.setCell ⟨gb237, 0, none⟩ (.int .i64 ((rd_T71 l0 x8_1).f0))).setCell ⟨gb237, 1, none⟩ (.int .i64 ((rd_T71 l0 x8_1).f1))).setCell ⟨gb237, 2, none⟩ (.int .i64 ((rd_T71 l0 x8_1).f2))).heap[gb237]? = some (.cells #[.int .i64 ((rd_T71 l0 x8_1).f0), .int .i64 ((rd_T71 l0 x8_1).f1), .int .i64 ((rd_T71 l0 x8_1).f2)] 71 (0, 0))) := ⟨by (with_reducible repeat (first | refine blk_drewN ?_ _ | refine blk_drew ?_ | refine blk_alloc ?_ _)); refine blk_put (cs := #[.int .i64 ((rd_T71 l0 x8_1).f0), .int .i64 ((rd_T71 l0 x8_1).f1), .int .i64 0]) ?_ 2 _ rfl; (with_reducible repeat (first | refine blk_drewN ?_ _ | refine blk_drew ?_ | refine blk_alloc ?_ _)); refine blk_put (cs := #[.int .i64 ((rd_T71 l0 x8_1).f0), .int .i64 0, .int .i64 0]) ?_ 1 _ rfl; (with_reducible repeat (first | refine blk_drewN ?_ _ | refine blk_drew ?_ | refine blk_alloc ?_ _)); refine blk_put (cs := #[.int .i64 0, .int .i64 0, .int .i64 0]) ?_ 0 _ rfl; (with_reducible repeat (first | refine blk_drewN ?_ _ | refine blk_drew ?_ | refine blk_alloc ?_ _)); exact BK237.out⟩
          have n1_ : Aside0 (Below w.heap.size w (((w19.setCell ⟨gb237, 0, none⟩ (.int .i64 ((rd_T71 l0 x8_1).f0))).setCell ⟨gb237, 1, none⟩ (.int .i64 ((rd_T71 l0 x8_1).f1))).setCell ⟨gb237, 2, none⟩ (.int .i64 ((rd_T71 l0 x8_1).f2)))) := ⟨by repeat (first | (with_reducible first | exact HB.out | apply z8d | apply z8b | apply z8c | refine below_set ?_ GE237.out) | exact HB.out)⟩
          (try clear BK237)
          (try clear HB)
          generalize (((w19.setCell ⟨gb237, 0, none⟩ (.int .i64 ((rd_T71 l0 x8_1).f0))).setCell ⟨gb237, 1, none⟩ (.int .i64 ((rd_T71 l0 x8_1).f1))).setCell ⟨gb237, 2, none⟩ (.int .i64 ((rd_T71 l0 x8_1).f2))) = w21 at n0_ n1_ ⊢
          have BK237 := n0_
          have HB := n1_
          clear n0_ n1_
          have n0_ := z8a (blk_drew BK237.out)
          have n1_ := z8a (z8c HB.out)
          clear BK237
          clear HB
          have BK237 := n0_
          have HB := n1_
          clear n0_ n1_
          have p238 : 0 ≤ (x3_1 : Int) := of_decide_eq_true (by first | (with_reducible assumption) | assumption)
          have q238 : x3_1 < (l0.length : Int) := of_decide_eq_true (by first | (with_reducible assumption) | assumption)
          obtain ⟨ad238, e238, hx238_0, hx238_1, hx238_2⟩ := at_T71 HR0.out x3_1 p238 q238
          have hw238_2 := hx238_2
          have hw238_1 := hx238_1
          have hw238_0 := hx238_0
          obtain rfl : ad236 = ad238 := (by injection e238)
          replace hx238_0 := (HB.out.cell (z8e w _ hx238_0)).trans hx238_0
          replace hx238_1 := (HB.out.cell (z8e w _ hx238_1)).trans hx238_1
          replace hx238_2 := (HB.out.cell (z8e w _ hx238_2)).trans hx238_2
          replace p238 := eq_true p238
          replace q238 := eq_true q238
          refine start_ (n := 11) (S := fun w' => w'.cell? ⟨gb237, 0, none⟩ = some (.int .i64 ((rd_T71 l0 x8_1).f0)) ∧ w'.cell? ⟨gb237, 1, none⟩ = some (.int .i64 ((rd_T71 l0 x8_1).f1)) ∧ w'.cell? ⟨gb237, 2, none⟩ = some (.int .i64 ((rd_T71 l0 x8_1).f2)) ∧ w'.cell? (ad236.add ((x3_1).toNat * 3)) = some (.int .i64 ((rd_T71 l0 x3_1).f0)) ∧ w'.cell? ⟨(ad236.add ((x3_1).toNat * 3)).block, (ad236.add ((x3_1).toNat * 3)).off + 1, none⟩ = some (.int .i64 ((rd_T71 l0 x3_1).f1)) ∧ w'.cell? ⟨(ad236.add ((x3_1).toNat * 3)).block, (ad236.add ((x3_1).toNat * 3)).off + 2, none⟩ = some (.int .i64 ((rd_T71 l0 x3_1).f2))) (ds := []) zq8_0 (by kernel_rfl) rfl rfl ⟨(blk_cell BK237.out 0).trans rfl, (blk_cell BK237.out 1).trans rfl, (blk_cell BK237.out 2).trans rfl, ((HB.out.cell (z8e w _ hw238_0)).trans hw238_0), ((HB.out.cell (z8e w _ hw238_1)).trans hw238_1), ((HB.out.cell (z8e w _ hw238_2)).trans hw238_2)⟩ (fun hHeld => ?_); refine with_tabW y_f.tab5 y_f.bits5 (fun HT_ HW_ => ?_)
          generalize w21.drew = w22 at BK237 HB hx238_0 hx238_1 hx238_2 hHeld ⊢
          refine pure_ (i := 0) (N := some 13) (v := ?_) (a' := ?_) zq8_1 rfl rfl (any_of HT_.out (by kernel_rfl)) (fun _ _ _ h => h) (Or.inl ⟨by rfl, ?_⟩) ?_ ?_
          rotate_left
          ·intro w'
           go_simp
           with_reducible rfl
          rotate_left
          ·simp only [Act.put, zp8a, zp8b, zp8c, i64_w, i32_w]
           rfl
          refine pure_ (i := 1) (N := some 14) (v := ?_) (a' := ?_) zq8_2 rfl rfl (any_of HT_.out (by kernel_rfl)) (fun _ _ _ h => h) (Or.inl ⟨by rfl, ?_⟩) ?_ ?_
          rotate_left
          ·intro w'
           go_simp
           with_reducible rfl
          rotate_left
          ·simp only [Act.put, zp8a, zp8b, zp8c, i64_w, i32_w]
           rfl
          refine pure_ (i := 2) (N := some 15) (v := ?_) (a' := ?_) zq8_3 rfl rfl (any_of HT_.out (by kernel_rfl)) (fun _ _ _ h => h) (Or.inl ⟨by rfl, ?_⟩) ?_ ?_
          rotate_left
          ·intro w'
           go_simp
           with_reducible rfl
          rotate_left
          ·simp only [Act.put, zp8a, zp8b, zp8c, i64_w, i32_w]
           rfl
          refine pure_ (i := 4) (N := some 17) (v := ?_) (a' := ?_) #[zt8,zt8,zt8,zf8,zt8,zf8,zf8,zf8,zf8,zf8,zf8] rfl rfl (any_of HT_.out (by kernel_rfl)) (fun _ _ _ h => h) (Or.inl ⟨by rfl, ?_⟩) ?_ ?_
          rotate_left
          ·intro w'
           go_simp
           with_reducible rfl
          rotate_left
          ·simp only [Act.put, zp8a, zp8b, zp8c, i64_w, i32_w]
           rfl
          refine pure_ (i := 5) (N := some 18) (v := ?_) (a' := ?_) #[zt8,zt8,zt8,zf8,zt8,zt8,zf8,zf8,zf8,zf8,zf8] rfl rfl (any_of HT_.out (by kernel_rfl)) (fun _ _ _ h => h) (Or.inl ⟨by rfl, ?_⟩) ?_ ?_
          rotate_left
          ·intro w'
           go_simp
           with_reducible rfl
          rotate_left
          ·simp only [Act.put, zp8a, zp8b, zp8c, i64_w, i32_w]
           rfl
          refine pure_ (i := 6) (N := some 19) (v := ?_) (a' := ?_) #[zt8,zt8,zt8,zf8,zt8,zt8,zt8,zf8,zf8,zf8,zf8] rfl rfl (any_of HT_.out (by kernel_rfl)) (fun _ _ _ h => h) (Or.inl ⟨by rfl, ?_⟩) ?_ ?_
          rotate_left
          ·intro w'
           go_simp
           with_reducible rfl
          rotate_left
          ·simp only [Act.put, zp8a, zp8b, zp8c, i64_w, i32_w]
           rfl
          refine take_ (i := 3) (N := some 16) (v := ?_) (a' := ?_) zq8_4 rfl rfl (take_ofW HT_.out HW_.out (by kernel_rfl)) (fun _ _ _ h => h) (Or.inl ⟨by rfl, ?_⟩) hHeld ?_ ?_
          rotate_left
          ·rintro w' ⟨s0, s1, s2, s3, s4, s5⟩
           go_simp
           with_reducible rfl
          rotate_left
          ·simp only [Act.put, zp8a, zp8b, zp8c, i64_w, i32_w]
           rfl
          refine take_ (i := 7) (N := some 20) (v := ?_) (a' := ?_) zq8_5 rfl rfl (take_ofW HT_.out HW_.out (by kernel_rfl)) (fun _ _ _ h => h) (Or.inl ⟨by rfl, ?_⟩) hHeld ?_ ?_
          rotate_left
          ·rintro w' ⟨s0, s1, s2, s3, s4, s5⟩
           go_simp
           with_reducible rfl
          rotate_left
          ·simp only [Act.put, zp8a, zp8b, zp8c, i64_w, i32_w]
           rfl
          refine one_ (i := 8) (N := some 21) zq8_6 rfl rfl (one_of HT_.out (by kernel_rfl)) (by decide) (fun K hK => ?_)
          refine goes_ Try.func122 (by kernel_rfl) rfl #[.agg #[.int .i64 ((rd_T71 l0 x8_1).f0), .int .i64 ((rd_T71 l0 x8_1).f1), .int .i64 ((rd_T71 l0 x8_1).f2)], .agg #[.int .i64 ((rd_T71 l0 x3_1).f0), .int .i64 ((rd_T71 l0 x3_1).f1), .int .i64 ((rd_T71 l0 x3_1).f2)]] (by rfl) rfl rfl (by (try simp only [List.map_toArray, List.map_cons, List.map_nil]); first | done | rfl | (simp only [List.length_drop, List.length_take]; rfl)) ?_
          with_reducible refine (y_eb.calls ((rd_T71 l0 x8_1).f0) ((rd_T71 l0 x8_1).f1) ((rd_T71 l0 x8_1).f2) ((rd_T71 l0 x3_1).f0) ((rd_T71 l0 x3_1).f1) ((rd_T71 l0 x3_1).f2) t239 _ A12.out).mono ?_
          rintro e w23 ⟨rfl, hb⟩
          refine ⟨_, rfl, ?_⟩
          have n0_ := z8a (blk_below (g := gb237) (o := .cells #[.int .i64 ((rd_T71 l0 x8_1).f0), .int .i64 ((rd_T71 l0 x8_1).f1), .int .i64 ((rd_T71 l0 x8_1).f2)] 71 (0, 0)) (by (with_reducible repeat (first | refine blk_drewN ?_ _ | refine blk_drew ?_ | refine blk_alloc ?_ _)); exact BK237.out) hb)
          have n1_ := z8a (below_step (by repeat (first | (with_reducible first | exact HB.out | apply z8d | apply z8b | apply z8c | refine below_set ?_ GE237.out) | exact HB.out)) hb)
          clear BK237
          clear HB
          have BK237 := n0_
          have HB := n1_
          clear n0_ n1_
          (try clear hb)
          (try clear hb2)
          (try clear hk)
          (try clear hi)
          refine hK.out _ _ ⟨(blk_cell BK237.out 0).trans rfl, (blk_cell BK237.out 1).trans rfl, (blk_cell BK237.out 2).trans rfl, ((HB.out.cell (z8e w _ hw238_0)).trans hw238_0), ((HB.out.cell (z8e w _ hw238_1)).trans hw238_1), ((HB.out.cell (z8e w _ hw238_2)).trans hw238_2)⟩ (fun hHeld => ?_)
          clear hK K
          refine norm_ (a' := ?_) ?_ ?_
          rotate_left
          ·show Act.put _ (some 21) _ = _
           simp only [Act.put, zp8a, zp8b, zp8c, i64_w, i32_w]
           rfl
          refine pure_ (i := 9) (N := some 22) (v := ?_) (a' := ?_) zq8_7 rfl rfl (any_of HT_.out (by kernel_rfl)) (fun _ _ _ h => h) (Or.inl ⟨by rfl, ?_⟩) ?_ ?_
          rotate_left
          ·intro w'
           go_simp
           with_reducible rfl
          rotate_left
          ·simp only [Act.put, zp8a, zp8b, zp8c, i64_w, i32_w]
           rfl
          refine pure_ (i := 10) (N := some 23) (v := ?_) (a' := ?_) zq8_8 rfl rfl (any_of HT_.out (by kernel_rfl)) (fun _ _ _ h => h) (Or.inl ⟨by rfl, ?_⟩) ?_ ?_
          rotate_left
          ·intro w'
           go_simp
           with_reducible rfl
          rotate_left
          ·simp only [Act.put, zp8a, zp8b, zp8c, i64_w, i32_w]
           rfl
          refine done_ (done_of HT_.out (by kernel_rfl)) ?_
          try go_wp2
          go_roundg k1
          case measure => have := HK1.out; omega
          case rel => exact ⟨(x3_1), (wrap64 (x8_1 + 1)), (by first | rfl | (simp; done) | (simp [*]; done)), (by first | rfl | (simp; done) | (simp [*]; done)), H', ⟨by have := HK1.out; omega⟩, ⟨by repeat (first | (with_reducible first | exact HB.out | apply z8d | apply z8b | apply z8c | refine below_set ?_ GE237.out) | exact HB.out)⟩⟩
        ·rw [if_neg c11] at H
         exact absurd H (by simp)
       ·rw [if_neg c10] at H
        exact absurd H (by simp)
     ·rw [if_neg c4] at H
      exact absurd H (by simp)
    ·rw [if_neg c3] at H
     exact absurd H (by simp)
   ·rw [if_neg c2] at H
    have c2b0 : decide (x8_1 < (l0.length : Int)) = false := decide_eq_false c2
    clear c2
    obtain rfl := Option.some.inj H
    go_wp2
    go_ret
    exact ⟨by first | rfl | (simp [errW_none, errW_some] <;> rfl) | (simp [*, errW_none, errW_some] <;> rfl), by repeat (first | (with_reducible first | exact HB.out | apply z8d | apply z8b | apply z8c) | exact HB.out)⟩
end Go.Proofs.Ytkcicbigpbdjpaa.P
end
