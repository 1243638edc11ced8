-- merged by pack.py out of Px4 Px5 (words: printed by the kit's print.sh; what this claim does not use is left out)

import Derived.Test.YtkcicbigpbdjpaaKFnReplacementSelection1
import Derived.Test.YtkcicbigpbdjpaaKFnReplacementSelection2
namespace Go.Proofs.Ytkcicbigpbdjpaa
abbrev zq3_0 : Array Bool := #[false, false, false, false, false, false, false, false, false, false, false]
abbrev zq3_1 : Array Bool := #[true, false, false, false, false, false, false, false, false, false, false]
abbrev zq3_2 : Array Bool := #[true, true, false, false, false, false, false, false, false, false, false]
abbrev zq3_3 : Array Bool := #[true, true, true, false, false, false, false, false, false, false, false]
abbrev zq3_4 : Array Bool := #[true, true, true, true, true, true, true, false, false, false, false]
abbrev zq3_5 : Array Bool := #[true, true, true, true, true, true, true, true, false, false, false]
abbrev zq3_6 : Array Bool := #[true, true, true, true, true, true, true, true, true, false, false]
abbrev zq3_7 : Array Bool := #[true, true, true, true, true, true, true, true, true, true, false]
abbrev zq3_8 : Array Bool := #[true, true, true, true, true, true, true, true, true, true, true]
abbrev zt3 : Bool := true
abbrev zf3 : Bool := false
section
open Go.RowKit Go.Proofs.YtkcicbigpbdjpaaW.PrintWords Go.Proofs.YtkcicbigpbdjpaaW.PrintLast Go.Proofs.YtkcicbigpbdjpaaW.PrintMore
abbrev z3a := @Aside0.mk
abbrev z3b := @pw_below_drewN
abbrev z3c := @below_drew1
abbrev z3d := @below_alloc
abbrev z3e := @World.block_lt_of_cell?
abbrev z3f := @Option.bind_eq_some_iff
abbrev z3g := @of_decide_eq_true
abbrev z3h := @decide_eq_true
abbrev z3i := @blk_drewN
abbrev z3j := @blk_alloc
abbrev z3k := @blk_drew
end
theorem zm3a {α β : Type} (f : α → β) (l : List α) : l.toArray.map f = (l.map f).toArray := by simp
theorem zm3b {α β : Type} (f : α → β) (a : α) (l : List α) : (a :: l).map f = f a :: l.map f := rfl
theorem zm3c {α β : Type} (f : α → β) : ([] : List α).map f = [] := rfl
theorem zm3d {α : Type} (n : Nat) (l : List α) : (l.drop n).length = l.length - n := List.length_drop
theorem zm3e {α : Type} (n : Nat) (l : List α) : (l.take n).length = min n l.length := List.length_take
theorem zp3a {α : Type} (l : List α) (i : Nat) (a : α) : l.toArray.setIfInBounds i a = (l.set i a).toArray := List.setIfInBounds_toArray l i a
theorem zp3b {α : Type} (x : α) (l : List α) (a : α) : (x :: l).set 0 a = a :: l := List.set_cons_zero
theorem zp3c {α : Type} (x : α) (l : List α) (n : Nat) (a : α) : (x :: l).set (n + 1) a = x :: l.set n a := List.set_cons_succ
end Go.Proofs.Ytkcicbigpbdjpaa
set_option maxHeartbeats 8000000
set_option maxRecDepth 100000
section
namespace Go.Proofs.Ytkcicbigpbdjpaa.P
open Go.RowKit Go.Proofs.YtkcicbigpbdjpaaW.PrintWords Go.Proofs.YtkcicbigpbdjpaaW.PrintLast Go.Proofs.YtkcicbigpbdjpaaW.PrintMore
attribute [local go_sem] max2_int min2_int max_two min_two max_three min_three max_four min_four
set_option linter.unusedVariables false
set_option linter.unusedSimpArgs false
def y_f.l0 : Nat → List (S71) → Int → List (S71) → Int → Int → Option (Int)
 | 0, _, _, _, _, _ => none
 | k + 1, x0, x3, x6, x7, x8 => if x8 < x7 then (if 0 ≤ x8 then (if x8 < (x6.length : Int) then (if x3 < 0 then (y_f.l0 k x0 x8 x6 x7 (wrap64 (x8 + 1))) else (if 0 ≤ x3 then (if x3 < (x0.length : Int) then ((y_rb.f ((rd_T71 x6 x8).f0) ((rd_T71 x6 x8).f1) ((rd_T71 x6 x8).f2) ((rd_T71 x0 x3).f0) ((rd_T71 x0 x3).f1) ((rd_T71 x0 x3).f2)).bind fun t239 => (if t239 < 0 then (y_f.l0 k x0 x8 x6 x7 (wrap64 (x8 + 1))) else (y_f.l0 k x0 x3 x6 x7 (wrap64 (x8 + 1))))) else (none)) else (none))) else (none)) else (none)) else (some x3)
def y_f.f (k : Nat) (l0 : List (S71)) : Option (Int) := y_f.l0 k l0 (-1) l0 (l0.length : Int) 0
theorem y_f.mono_l : ∀ k, (∀ y0 y1 y2 y3 y4, LeO (y_f.l0 k y0 y1 y2 y3 y4) (y_f.l0 (k + 1) y0 y1 y2 y3 y4))
 | 0 => fun _ _ _ _ _ r h => by simp [y_f.l0] at h
 | k + 1 => by
  have ih0 := y_f.mono_l k
  ·intro y0 y1 y2 y3 y4
   unfold y_f.l0
   repeat' first
   | (with_reducible exact ih0 _ _ _ _ _)
   | (with_reducible exact LeO.refl _)
   | (with_reducible exact LeO.none _)
   | (with_reducible refine LeO.ite ?_ ?_)
   | (with_reducible refine LeO.bind ?_ (fun _ => ?_))
   | exact ih0 _ _ _ _ _
   | exact LeO.none _
   | refine LeO.ite ?_ ?_
   | refine LeO.bind ?_ (fun _ => ?_)
theorem y_f.mono : ∀ a0 k, LeO (y_f.f k a0) (y_f.f (k + 1) a0) := by
 intro a0 k
 have ih0 := y_f.mono_l k
 unfold y_f.f
 repeat' first
   | (with_reducible exact ih0 _ _ _ _ _)
   | (with_reducible exact LeO.refl _)
   | (with_reducible exact LeO.none _)
   | (with_reducible refine LeO.ite ?_ ?_)
   | (with_reducible refine LeO.bind ?_ (fun _ => ?_))
   | exact ih0 _ _ _ _ _
   | exact LeO.none _
   | refine LeO.ite ?_ ?_
   | refine LeO.bind ?_ (fun _ => ?_)
def y_f.T5 : Bool × List (List Nat × List Nat) := (true, [([], []), ([0], [0]), ([1], [1]), ([2], [2]), ([2], [2]), ([2], [2]), ([4, 5, 2], [2, 4, 5]), ([6, 2], [2, 6]), ([3, 7, 2, 2], [2, 3, 7]), ([8, 2], [2, 8]), ([2, 9], [2, 9])])
def y_f.B5 : List Nat := [0, 1, 3, 7, 7, 7, 55, 119, 255, 511, 1023]
theorem y_f.tab5 : rtab .any (opsOf Try.f26 5) = y_f.T5 := by kernel_rfl
theorem y_f.bits5 : waitsOk y_f.T5.2 y_f.B5 = true := by kernel_rfl
theorem y_f.calls (k : Nat) (A0 : Option Addr) (c0 : Nat) (l0 : List (S71)) (r : Int) (w : World) (hr0 : Kd.C k71 w A0 l0.length l0) (hc0 : l0.length ≤ c0) (h : y_f.f k l0 = some r) :
  Calls Try.prog 26 #[.slice A0 l0.length c0] w fun e w' => e = .returned (.int .i64 r) ∧ Below w.heap.size w w' := by
 have hu71 := Try.underlying71
 have HR0 := z3a hr0
 have HC0 := z3a hc0
 clear hr0 hc0
 have HB := z3a (Below.refl w.heap.size w)
 have H : (y_f.l0 k l0 (-1) l0 (l0.length : Int) 0) = some r := h
 clear h
 have H' := z3a H
 clear H
 go_enter Try.func26, Try.ntmps26
 go_wp2
 go_loopg [3, 8] k (fun kq v3 v8 w' => ∃ (x3_1 : Int) (x8_1 : Int), v3 = .int .i64 x3_1 ∧ v8 = .int .i64 x8_1 ∧ Aside0 (y_f.l0 kq l0 x3_1 l0 (l0.length : Int) x8_1 = some r) ∧ Aside0 (kq ≤ k) ∧ Aside0 (Below w.heap.size w w'))
 case atStart => exact ⟨((-1)), (0), (by first | rfl | (simp; done) | (simp [*]; done)), (by first | rfl | (simp; done) | (simp [*]; done)), H', ⟨Nat.le_refl _⟩, ⟨by repeat (first | (with_reducible first | exact HB.out | apply z3d | apply z3b | apply z3c) | exact HB.out)⟩⟩
 case round =>
  clear H'
  obtain ⟨x3_1, x8_1, rfl, rfl, HA, HK1, HB⟩ := hrel
  cases gk with
  | zero => exact absurd HA.out (by simp [y_f.l0])
  | succ k1 =>
   have H := HA.out
   clear HA
   simp only [y_f.l0] at H
   by_cases c2 : x8_1 < (l0.length : Int)
   ·rw [if_pos c2] at H
    have c2b0 : decide (x8_1 < (l0.length : Int)) = true := z3h c2
    clear c2
    by_cases c3 : 0 ≤ x8_1
    ·rw [if_pos c3] at H
     have c3b0 : decide (0 ≤ x8_1) = true := z3h c3
     clear c3
     by_cases c4 : x8_1 < (l0.length : Int)
     ·rw [if_pos c4] at H
      have c4b0 : decide (x8_1 < (l0.length : Int)) = true := z3h c4
      clear c4
      by_cases c5 : x3_1 < 0
      ·rw [if_pos c5] at H
       have c5b0 : decide (x3_1 < 0) = true := z3h c5
       clear c5
       have H' := z3a H
       clear H
       have p236 : 0 ≤ (x8_1 : Int) := z3g (by first | (with_reducible assumption) | assumption)
       have q236 : x8_1 < (l0.length : Int) := z3g (by first | (with_reducible assumption) | assumption)
       obtain ⟨ad236, e236, hx236_0, hx236_1, hx236_2⟩ := at_T71 HR0.out x8_1 p236 q236
       cases e236
       replace hx236_0 := (HB.out.cell (z3e w _ hx236_0)).trans hx236_0
       replace hx236_1 := (HB.out.cell (z3e w _ hx236_1)).trans hx236_1
       replace hx236_2 := (HB.out.cell (z3e w _ hx236_2)).trans hx236_2
       replace p236 := eq_true p236
       replace q236 := eq_true q236
       try go_wp2_with (first | ((with_reducible refine gate_dst (N := 5) rfl ?_); refine box_event ?hg (N := 5) ?hd (cs := #[.int .i64 0, .int .i64 0, .int .i64 0]) (t := 71) ?hr ?_; (case hd => rfl); (case hg => rfl); (case hr => first | (go_simp; done) | (go_simp; rfl)); intro gb237 hg w6 hbox hb; have n0_ := z3a (below_step (by repeat (first | (with_reducible first | exact HB.out | apply z3d | apply z3b | apply z3c) | exact HB.out)) hb); have n1_ := z3a (hbox); have n2_ := z3a ((by rw [hg]; exact (below_size (by repeat (first | (with_reducible first | exact HB.out | apply z3d | apply z3b | apply z3c) | exact HB.out))) : w.heap.size ≤ gb237)); have n3_ := z3a ((by rw [hg]; exact (below_size (by repeat (first | (with_reducible first | exact HB.out | apply z3d | apply z3b | apply z3c) | exact HB.out))) : w.heap.size ≤ gb237)); clear HB; have HB := n0_; have BK237 := n1_; have GW237 := n2_; have GE237 := n3_; clear n0_ n1_ n2_ n3_; clear hb hbox hg; obtain ⟨hcz7_0, hcz7_1, hcz7_2⟩ := cells_3 BK237.out; obtain ⟨hfz7_0, hfz7_1, hfz7_2⟩ := frz_3 BK237.out))
       have n0_ : Aside0 ((((w6.setCell ⟨gb237, 0, none⟩ (.int .i64 ((rd_T71 l0 x8_1).f0))).setCell ⟨gb237, 1, none⟩ (.int .i64 ((rd_T71 l0 x8_1).f1))).setCell ⟨gb237, 2, none⟩ (.int .i64 ((rd_T71 l0 x8_1).f2))).heap[gb237]? = some (.cells #[.int .i64 ((rd_T71 l0 x8_1).f0), .int .i64 ((rd_T71 l0 x8_1).f1), .int .i64 ((rd_T71 l0 x8_1).f2)] 71 (0, 0))) := ⟨by (with_reducible repeat (first | refine z3i ?_ _ | refine z3k ?_ | refine z3j ?_ _)); refine blk_put (cs := #[.int .i64 ((rd_T71 l0 x8_1).f0), .int .i64 ((rd_T71 l0 x8_1).f1), .int .i64 0]) ?_ 2 _ rfl; (with_reducible repeat (first | refine z3i ?_ _ | refine z3k ?_ | refine z3j ?_ _)); refine blk_put (cs := #[.int .i64 ((rd_T71 l0 x8_1).f0), .int .i64 0, .int .i64 0]) ?_ 1 _ rfl; (with_reducible repeat (first | refine z3i ?_ _ | refine z3k ?_ | refine z3j ?_ _)); refine blk_put (cs := #[.int .i64 0, .int .i64 0, .int .i64 0]) ?_ 0 _ rfl; (with_reducible repeat (first | refine z3i ?_ _ | refine z3k ?_ | refine z3j ?_ _)); exact BK237.out⟩
       have n1_ : Aside0 (Below w.heap.size w (((w6.setCell ⟨gb237, 0, none⟩ (.int .i64 ((rd_T71 l0 x8_1).f0))).setCell ⟨gb237, 1, none⟩ (.int .i64 ((rd_T71 l0 x8_1).f1))).setCell ⟨gb237, 2, none⟩ (.int .i64 ((rd_T71 l0 x8_1).f2)))) := ⟨by repeat (first | (with_reducible first | exact HB.out | apply z3d | apply z3b | apply z3c | refine below_set ?_ GE237.out) | exact HB.out)⟩
       (try clear BK237)
       (try clear HB)
       generalize (((w6.setCell ⟨gb237, 0, none⟩ (.int .i64 ((rd_T71 l0 x8_1).f0))).setCell ⟨gb237, 1, none⟩ (.int .i64 ((rd_T71 l0 x8_1).f1))).setCell ⟨gb237, 2, none⟩ (.int .i64 ((rd_T71 l0 x8_1).f2))) = w8 at n0_ n1_ ⊢
       have BK237 := n0_
       have HB := n1_
       clear n0_ n1_
       have n0_ := z3a (z3k BK237.out)
       have n1_ := z3a (z3c HB.out)
       clear BK237
       clear HB
       have BK237 := n0_
       have HB := n1_
       clear n0_ n1_
       refine start_ (n := 11) (S := fun w' => True) (ds := []) zq3_0 (by kernel_rfl) rfl rfl trivial (fun hHeld => ?_); refine with_tabW y_f.tab5 y_f.bits5 (fun HT_ HW_ => ?_)
       generalize w8.drew = w9 at BK237 HB hHeld ⊢
       refine pure_ (i := 0) (N := some 13) (v := ?_) (a' := ?_) zq3_1 rfl rfl (any_of HT_.out (by kernel_rfl)) (fun _ _ _ h => h) (Or.inl ⟨by rfl, ?_⟩) ?_ ?_
       rotate_left
       ·intro w'
        go_simp
        with_reducible rfl
       rotate_left
       ·simp only [Act.put, zp3a, zp3b, zp3c, i64_w, i32_w]
        rfl
       refine pure_ (i := 1) (N := some 14) (v := ?_) (a' := ?_) zq3_2 rfl rfl (any_of HT_.out (by kernel_rfl)) (fun _ _ _ h => h) (Or.inl ⟨by rfl, ?_⟩) ?_ ?_
       rotate_left
       ·intro w'
        go_simp
        with_reducible rfl
       rotate_left
       ·simp only [Act.put, zp3a, zp3b, zp3c, i64_w, i32_w]
        rfl
       refine pure_ (i := 2) (N := some 15) (v := ?_) (a' := ?_) zq3_3 rfl rfl (any_of HT_.out (by kernel_rfl)) (fun _ _ _ h => h) (Or.inl ⟨by rfl, ?_⟩) ?_ ?_
       rotate_left
       ·intro w'
        go_simp
        with_reducible rfl
       rotate_left
       ·simp only [Act.put, zp3a, zp3b, zp3c, i64_w, i32_w]
        rfl
       refine pure_ (i := 3) (N := some 16) (v := undef) (a' := ?_) #[zt3,zt3,zt3,zt3,zf3,zf3,zf3,zf3,zf3,zf3,zf3] rfl rfl (any_of HT_.out (by kernel_rfl)) (fun _ _ _ h => h) (Or.inr ⟨by rfl, rfl⟩) ?_ ?_
       rotate_left
       ·simp only [Act.put, zp3a, zp3b, zp3c, i64_w, i32_w]
        rfl
       refine pure_ (i := 4) (N := some 17) (v := undef) (a' := ?_) #[zt3,zt3,zt3,zt3,zt3,zf3,zf3,zf3,zf3,zf3,zf3] rfl rfl (any_of HT_.out (by kernel_rfl)) (fun _ _ _ h => h) (Or.inr ⟨by rfl, rfl⟩) ?_ ?_
       rotate_left
       ·simp only [Act.put, zp3a, zp3b, zp3c, i64_w, i32_w]
        rfl
       refine pure_ (i := 5) (N := some 18) (v := undef) (a' := ?_) #[zt3,zt3,zt3,zt3,zt3,zt3,zf3,zf3,zf3,zf3,zf3] rfl rfl (any_of HT_.out (by kernel_rfl)) (fun _ _ _ h => h) (Or.inr ⟨by rfl, rfl⟩) ?_ ?_
       rotate_left
       ·simp only [Act.put, zp3a, zp3b, zp3c, i64_w, i32_w]
        rfl
       refine pure_ (i := 6) (N := some 19) (v := undef) (a' := ?_) zq3_4 rfl rfl (any_of HT_.out (by kernel_rfl)) (fun _ _ _ h => h) (Or.inr ⟨by rfl, rfl⟩) ?_ ?_
       rotate_left
       ·simp only [Act.put, zp3a, zp3b, zp3c, i64_w, i32_w]
        rfl
       refine pure_ (i := 7) (N := some 20) (v := undef) (a' := ?_) zq3_5 rfl rfl (any_of HT_.out (by kernel_rfl)) (fun _ _ _ h => h) (Or.inr ⟨by rfl, rfl⟩) ?_ ?_
       rotate_left
       ·simp only [Act.put, zp3a, zp3b, zp3c, i64_w, i32_w]
        rfl
       refine pure_ (i := 8) (N := some 21) (v := undef) (a' := ?_) zq3_6 rfl rfl (any_of HT_.out (by kernel_rfl)) (fun _ _ _ h => h) (Or.inr ⟨by rfl, rfl⟩) ?_ ?_
       rotate_left
       ·simp only [Act.put, zp3a, zp3b, zp3c, i64_w, i32_w]
        rfl
       refine pure_ (i := 9) (N := some 22) (v := undef) (a' := ?_) zq3_7 rfl rfl (any_of HT_.out (by kernel_rfl)) (fun _ _ _ h => h) (Or.inr ⟨by rfl, rfl⟩) ?_ ?_
       rotate_left
       ·simp only [Act.put, zp3a, zp3b, zp3c, i64_w, i32_w]
        rfl
       refine pure_ (i := 10) (N := some 23) (v := ?_) (a' := ?_) zq3_8 rfl rfl (any_of HT_.out (by kernel_rfl)) (fun _ _ _ h => h) (Or.inl ⟨by rfl, ?_⟩) ?_ ?_
       rotate_left
       ·intro w'
        go_simp
        with_reducible rfl
       rotate_left
       ·simp only [Act.put, zp3a, zp3b, zp3c, i64_w, i32_w]
        rfl
       refine done_ (done_of HT_.out (by kernel_rfl)) ?_
       try go_wp2
       go_roundg k1
       case measure => have := HK1.out; omega
       case rel => exact ⟨(x8_1), (wrap64 (x8_1 + 1)), (by first | rfl | (simp; done) | (simp [*]; done)), (by first | rfl | (simp; done) | (simp [*]; done)), H', ⟨by have := HK1.out; omega⟩, ⟨by repeat (first | (with_reducible first | exact HB.out | apply z3d | apply z3b | apply z3c | refine below_set ?_ GE237.out) | exact HB.out)⟩⟩
      ·rw [if_neg c5] at H
       have c5b0 : decide (x3_1 < 0) = false := decide_eq_false c5
       clear c5
       by_cases c10 : 0 ≤ x3_1
       ·rw [if_pos c10] at H
        have c10b0 : decide (0 ≤ x3_1) = true := z3h c10
        clear c10
        by_cases c11 : x3_1 < (l0.length : Int)
        ·rw [if_pos c11] at H
         have c11b0 : decide (x3_1 < (l0.length : Int)) = true := z3h c11
         clear c11
         replace H := z3f.mp H
         obtain ⟨t239, A120, H⟩ := H
         have A12 := z3a A120
         clear A120
         by_cases c13 : t239 < 0
         ·rw [if_pos c13] at H
          have c13b0 : decide (t239 < 0) = true := z3h c13
          clear c13
          have H' := z3a H
          clear H
          have p236 : 0 ≤ (x8_1 : Int) := z3g (by first | (with_reducible assumption) | assumption)
          have q236 : x8_1 < (l0.length : Int) := z3g (by first | (with_reducible assumption) | assumption)
          obtain ⟨ad236, e236, hx236_0, hx236_1, hx236_2⟩ := at_T71 HR0.out x8_1 p236 q236
          cases e236
          replace hx236_0 := (HB.out.cell (z3e w _ hx236_0)).trans hx236_0
          replace hx236_1 := (HB.out.cell (z3e w _ hx236_1)).trans hx236_1
          replace hx236_2 := (HB.out.cell (z3e w _ hx236_2)).trans hx236_2
          replace p236 := eq_true p236
          replace q236 := eq_true q236
          try go_wp2_with (first | ((with_reducible refine gate_dst (N := 5) rfl ?_); refine box_event ?hg (N := 5) ?hd (cs := #[.int .i64 0, .int .i64 0, .int .i64 0]) (t := 71) ?hr ?_; (case hd => rfl); (case hg => rfl); (case hr => first | (go_simp; done) | (go_simp; rfl)); intro gb237 hg w14 hbox hb; have n0_ := z3a (below_step (by repeat (first | (with_reducible first | exact HB.out | apply z3d | apply z3b | apply z3c) | exact HB.out)) hb); have n1_ := z3a (hbox); have n2_ := z3a ((by rw [hg]; exact (below_size (by repeat (first | (with_reducible first | exact HB.out | apply z3d | apply z3b | apply z3c) | exact HB.out))) : w.heap.size ≤ gb237)); have n3_ := z3a ((by rw [hg]; exact (below_size (by repeat (first | (with_reducible first | exact HB.out | apply z3d | apply z3b | apply z3c) | exact HB.out))) : w.heap.size ≤ gb237)); clear HB; have HB := n0_; have BK237 := n1_; have GW237 := n2_; have GE237 := n3_; clear n0_ n1_ n2_ n3_; clear hb hbox hg; obtain ⟨hcz15_0, hcz15_1, hcz15_2⟩ := cells_3 BK237.out; obtain ⟨hfz15_0, hfz15_1, hfz15_2⟩ := frz_3 BK237.out))
          have n0_ : Aside0 ((((w14.setCell ⟨gb237, 0, none⟩ (.int .i64 ((rd_T71 l0 x8_1).f0))).setCell ⟨gb237, 1, none⟩ (.int .i64 ((rd_T71 l0 x8_1).f1))).setCell ⟨gb237, 2, none⟩ (.int .i64 ((rd_T71 l0 x8_1).f2))).heap[gb237]? = some (.cells #[.int .i64 ((rd_T71 l0 x8_1).f0), .int .i64 ((rd_T71 l0 x8_1).f1), .int .i64 ((rd_T71 l0 x8_1).f2)] 71 (0, 0))) := ⟨by (with_reducible repeat (first | refine z3i ?_ _ | refine z3k ?_ | refine z3j ?_ _)); refine blk_put (cs := #[.int .i64 ((rd_T71 l0 x8_1).f0), .int .i64 ((rd_T71 l0 x8_1).f1), .int .i64 0]) ?_ 2 _ rfl; (with_reducible repeat (first | refine z3i ?_ _ | refine z3k ?_ | refine z3j ?_ _)); refine blk_put (cs := #[.int .i64 ((rd_T71 l0 x8_1).f0), .int .i64 0, .int .i64 0]) ?_ 1 _ rfl; (with_reducible repeat (first | refine z3i ?_ _ | refine z3k ?_ | refine z3j ?_ _)); refine blk_put (cs := #[.int .i64 0, .int .i64 0, .int .i64 0]) ?_ 0 _ rfl; (with_reducible repeat (first | refine z3i ?_ _ | refine z3k ?_ | refine z3j ?_ _)); exact BK237.out⟩
          have n1_ : Aside0 (Below w.heap.size w (((w14.setCell ⟨gb237, 0, none⟩ (.int .i64 ((rd_T71 l0 x8_1).f0))).setCell ⟨gb237, 1, none⟩ (.int .i64 ((rd_T71 l0 x8_1).f1))).setCell ⟨gb237, 2, none⟩ (.int .i64 ((rd_T71 l0 x8_1).f2)))) := ⟨by repeat (first | (with_reducible first | exact HB.out | apply z3d | apply z3b | apply z3c | refine below_set ?_ GE237.out) | exact HB.out)⟩
          (try clear BK237)
          (try clear HB)
          generalize (((w14.setCell ⟨gb237, 0, none⟩ (.int .i64 ((rd_T71 l0 x8_1).f0))).setCell ⟨gb237, 1, none⟩ (.int .i64 ((rd_T71 l0 x8_1).f1))).setCell ⟨gb237, 2, none⟩ (.int .i64 ((rd_T71 l0 x8_1).f2))) = w16 at n0_ n1_ ⊢
          have BK237 := n0_
          have HB := n1_
          clear n0_ n1_
          have n0_ := z3a (z3k BK237.out)
          have n1_ := z3a (z3c HB.out)
          clear BK237
          clear HB
          have BK237 := n0_
          have HB := n1_
          clear n0_ n1_
          have p238 : 0 ≤ (x3_1 : Int) := z3g (by first | (with_reducible assumption) | assumption)
          have q238 : x3_1 < (l0.length : Int) := z3g (by first | (with_reducible assumption) | assumption)
          obtain ⟨ad238, e238, hx238_0, hx238_1, hx238_2⟩ := at_T71 HR0.out x3_1 p238 q238
          have hw238_2 := hx238_2
          have hw238_1 := hx238_1
          have hw238_0 := hx238_0
          obtain rfl : ad236 = ad238 := (by injection e238)
          replace hx238_0 := (HB.out.cell (z3e w _ hx238_0)).trans hx238_0
          replace hx238_1 := (HB.out.cell (z3e w _ hx238_1)).trans hx238_1
          replace hx238_2 := (HB.out.cell (z3e w _ hx238_2)).trans hx238_2
          replace p238 := eq_true p238
          replace q238 := eq_true q238
          refine start_ (n := 11) (S := fun w' => w'.cell? ⟨gb237, 0, none⟩ = some (.int .i64 ((rd_T71 l0 x8_1).f0)) ∧ w'.cell? ⟨gb237, 1, none⟩ = some (.int .i64 ((rd_T71 l0 x8_1).f1)) ∧ w'.cell? ⟨gb237, 2, none⟩ = some (.int .i64 ((rd_T71 l0 x8_1).f2)) ∧ w'.cell? (ad236.add ((x3_1).toNat * 3)) = some (.int .i64 ((rd_T71 l0 x3_1).f0)) ∧ w'.cell? ⟨(ad236.add ((x3_1).toNat * 3)).block, (ad236.add ((x3_1).toNat * 3)).off + 1, none⟩ = some (.int .i64 ((rd_T71 l0 x3_1).f1)) ∧ w'.cell? ⟨(ad236.add ((x3_1).toNat * 3)).block, (ad236.add ((x3_1).toNat * 3)).off + 2, none⟩ = some (.int .i64 ((rd_T71 l0 x3_1).f2))) (ds := []) zq3_0 (by kernel_rfl) rfl rfl ⟨(blk_cell BK237.out 0).trans rfl, (blk_cell BK237.out 1).trans rfl, (blk_cell BK237.out 2).trans rfl, ((HB.out.cell (z3e w _ hw238_0)).trans hw238_0), ((HB.out.cell (z3e w _ hw238_1)).trans hw238_1), ((HB.out.cell (z3e w _ hw238_2)).trans hw238_2)⟩ (fun hHeld => ?_); refine with_tabW y_f.tab5 y_f.bits5 (fun HT_ HW_ => ?_)
          generalize w16.drew = w17 at BK237 HB hx238_0 hx238_1 hx238_2 hHeld ⊢
          refine pure_ (i := 0) (N := some 13) (v := ?_) (a' := ?_) zq3_1 rfl rfl (any_of HT_.out (by kernel_rfl)) (fun _ _ _ h => h) (Or.inl ⟨by rfl, ?_⟩) ?_ ?_
          rotate_left
          ·intro w'
           go_simp
           with_reducible rfl
          rotate_left
          ·simp only [Act.put, zp3a, zp3b, zp3c, i64_w, i32_w]
           rfl
          refine pure_ (i := 1) (N := some 14) (v := ?_) (a' := ?_) zq3_2 rfl rfl (any_of HT_.out (by kernel_rfl)) (fun _ _ _ h => h) (Or.inl ⟨by rfl, ?_⟩) ?_ ?_
          rotate_left
          ·intro w'
           go_simp
           with_reducible rfl
          rotate_left
          ·simp only [Act.put, zp3a, zp3b, zp3c, i64_w, i32_w]
           rfl
          refine pure_ (i := 2) (N := some 15) (v := ?_) (a' := ?_) zq3_3 rfl rfl (any_of HT_.out (by kernel_rfl)) (fun _ _ _ h => h) (Or.inl ⟨by rfl, ?_⟩) ?_ ?_
          rotate_left
          ·intro w'
           go_simp
           with_reducible rfl
          rotate_left
          ·simp only [Act.put, zp3a, zp3b, zp3c, i64_w, i32_w]
           rfl
          refine pure_ (i := 4) (N := some 17) (v := ?_) (a' := ?_) #[zt3,zt3,zt3,zf3,zt3,zf3,zf3,zf3,zf3,zf3,zf3] rfl rfl (any_of HT_.out (by kernel_rfl)) (fun _ _ _ h => h) (Or.inl ⟨by rfl, ?_⟩) ?_ ?_
          rotate_left
          ·intro w'
           go_simp
           with_reducible rfl
          rotate_left
          ·simp only [Act.put, zp3a, zp3b, zp3c, i64_w, i32_w]
           rfl
          refine pure_ (i := 5) (N := some 18) (v := ?_) (a' := ?_) #[zt3,zt3,zt3,zf3,zt3,zt3,zf3,zf3,zf3,zf3,zf3] rfl rfl (any_of HT_.out (by kernel_rfl)) (fun _ _ _ h => h) (Or.inl ⟨by rfl, ?_⟩) ?_ ?_
          rotate_left
          ·intro w'
           go_simp
           with_reducible rfl
          rotate_left
          ·simp only [Act.put, zp3a, zp3b, zp3c, i64_w, i32_w]
           rfl
          refine pure_ (i := 6) (N := some 19) (v := ?_) (a' := ?_) #[zt3,zt3,zt3,zf3,zt3,zt3,zt3,zf3,zf3,zf3,zf3] rfl rfl (any_of HT_.out (by kernel_rfl)) (fun _ _ _ h => h) (Or.inl ⟨by rfl, ?_⟩) ?_ ?_
          rotate_left
          ·intro w'
           go_simp
           with_reducible rfl
          rotate_left
          ·simp only [Act.put, zp3a, zp3b, zp3c, i64_w, i32_w]
           rfl
          refine take_ (i := 3) (N := some 16) (v := ?_) (a' := ?_) zq3_4 rfl rfl (take_ofW HT_.out HW_.out (by kernel_rfl)) (fun _ _ _ h => h) (Or.inl ⟨by rfl, ?_⟩) hHeld ?_ ?_
          rotate_left
          ·rintro w' ⟨s0, s1, s2, s3, s4, s5⟩
           go_simp
           with_reducible rfl
          rotate_left
          ·simp only [Act.put, zp3a, zp3b, zp3c, i64_w, i32_w]
           rfl
          refine take_ (i := 7) (N := some 20) (v := ?_) (a' := ?_) zq3_5 rfl rfl (take_ofW HT_.out HW_.out (by kernel_rfl)) (fun _ _ _ h => h) (Or.inl ⟨by rfl, ?_⟩) hHeld ?_ ?_
          rotate_left
          ·rintro w' ⟨s0, s1, s2, s3, s4, s5⟩
           go_simp
           with_reducible rfl
          rotate_left
          ·simp only [Act.put, zp3a, zp3b, zp3c, i64_w, i32_w]
           rfl
          refine one_ (i := 8) (N := some 21) zq3_6 rfl rfl (one_of HT_.out (by kernel_rfl)) (by decide) (fun K hK => ?_)
          refine goes_ Try.func122 (by kernel_rfl) rfl #[.agg #[.int .i64 ((rd_T71 l0 x8_1).f0), .int .i64 ((rd_T71 l0 x8_1).f1), .int .i64 ((rd_T71 l0 x8_1).f2)], .agg #[.int .i64 ((rd_T71 l0 x3_1).f0), .int .i64 ((rd_T71 l0 x3_1).f1), .int .i64 ((rd_T71 l0 x3_1).f2)]] (by rfl) rfl rfl (by (try simp only [zm3a, zm3b, zm3c]); first | done | rfl | (simp only [zm3d, zm3e]; rfl)) ?_
          with_reducible refine (y_rb.calls ((rd_T71 l0 x8_1).f0) ((rd_T71 l0 x8_1).f1) ((rd_T71 l0 x8_1).f2) ((rd_T71 l0 x3_1).f0) ((rd_T71 l0 x3_1).f1) ((rd_T71 l0 x3_1).f2) t239 _ A12.out).mono ?_
          rintro e w18 ⟨rfl, hb⟩
          refine ⟨_, rfl, ?_⟩
          have n0_ := z3a (blk_below (g := gb237) (o := .cells #[.int .i64 ((rd_T71 l0 x8_1).f0), .int .i64 ((rd_T71 l0 x8_1).f1), .int .i64 ((rd_T71 l0 x8_1).f2)] 71 (0, 0)) (by (with_reducible repeat (first | refine z3i ?_ _ | refine z3k ?_ | refine z3j ?_ _)); exact BK237.out) hb)
          have n1_ := z3a (below_step (by repeat (first | (with_reducible first | exact HB.out | apply z3d | apply z3b | apply z3c | refine below_set ?_ GE237.out) | exact HB.out)) hb)
          clear BK237
          clear HB
          have BK237 := n0_
          have HB := n1_
          clear n0_ n1_
          (try clear hb)
          (try clear hb2)
          (try clear hk)
          (try clear hi)
          refine hK.out _ _ ⟨(blk_cell BK237.out 0).trans rfl, (blk_cell BK237.out 1).trans rfl, (blk_cell BK237.out 2).trans rfl, ((HB.out.cell (z3e w _ hw238_0)).trans hw238_0), ((HB.out.cell (z3e w _ hw238_1)).trans hw238_1), ((HB.out.cell (z3e w _ hw238_2)).trans hw238_2)⟩ (fun hHeld => ?_)
          clear hK K
          refine norm_ (a' := ?_) ?_ ?_
          rotate_left
          ·show Act.put _ (some 21) _ = _
           simp only [Act.put, zp3a, zp3b, zp3c, i64_w, i32_w]
           rfl
          refine pure_ (i := 9) (N := some 22) (v := ?_) (a' := ?_) zq3_7 rfl rfl (any_of HT_.out (by kernel_rfl)) (fun _ _ _ h => h) (Or.inl ⟨by rfl, ?_⟩) ?_ ?_
          rotate_left
          ·intro w'
           go_simp
           with_reducible rfl
          rotate_left
          ·simp only [Act.put, zp3a, zp3b, zp3c, i64_w, i32_w]
           rfl
          refine pure_ (i := 10) (N := some 23) (v := ?_) (a' := ?_) zq3_8 rfl rfl (any_of HT_.out (by kernel_rfl)) (fun _ _ _ h => h) (Or.inl ⟨by rfl, ?_⟩) ?_ ?_
          rotate_left
          ·intro w'
           go_simp
           with_reducible rfl
          rotate_left
          ·simp only [Act.put, zp3a, zp3b, zp3c, i64_w, i32_w]
           rfl
          refine done_ (done_of HT_.out (by kernel_rfl)) ?_
          try go_wp2
          go_roundg k1
          case measure => have := HK1.out; omega
          case rel => exact ⟨(x8_1), (wrap64 (x8_1 + 1)), (by first | rfl | (simp; done) | (simp [*]; done)), (by first | rfl | (simp; done) | (simp [*]; done)), H', ⟨by have := HK1.out; omega⟩, ⟨by repeat (first | (with_reducible first | exact HB.out | apply z3d | apply z3b | apply z3c | refine below_set ?_ GE237.out) | exact HB.out)⟩⟩
         ·rw [if_neg c13] at H
          have c13b0 : decide (t239 < 0) = false := decide_eq_false c13
          clear c13
          have H' := z3a H
          clear H
          have p236 : 0 ≤ (x8_1 : Int) := z3g (by first | (with_reducible assumption) | assumption)
          have q236 : x8_1 < (l0.length : Int) := z3g (by first | (with_reducible assumption) | assumption)
          obtain ⟨ad236, e236, hx236_0, hx236_1, hx236_2⟩ := at_T71 HR0.out x8_1 p236 q236
          cases e236
          replace hx236_0 := (HB.out.cell (z3e w _ hx236_0)).trans hx236_0
          replace hx236_1 := (HB.out.cell (z3e w _ hx236_1)).trans hx236_1
          replace hx236_2 := (HB.out.cell (z3e w _ hx236_2)).trans hx236_2
          replace p236 := eq_true p236
          replace q236 := eq_true q236
          try go_wp2_with (first | ((with_reducible refine gate_dst (N := 5) rfl ?_); refine box_event ?hg (N := 5) ?hd (cs := #[.int .i64 0, .int .i64 0, .int .i64 0]) (t := 71) ?hr ?_; (case hd => rfl); (case hg => rfl); (case hr => first | (go_simp; done) | (go_simp; rfl)); intro gb237 hg w19 hbox hb; have n0_ := z3a (below_step (by repeat (first | (with_reducible first | exact HB.out | apply z3d | apply z3b | apply z3c) | exact HB.out)) hb); have n1_ := z3a (hbox); have n2_ := z3a ((by rw [hg]; exact (below_size (by repeat (first | (with_reducible first | exact HB.out | apply z3d | apply z3b | apply z3c) | exact HB.out))) : w.heap.size ≤ gb237)); have n3_ := z3a ((by rw [hg]; exact (below_size (by repeat (first | (with_reducible first | exact HB.out | apply z3d | apply z3b | apply z3c) | exact HB.out))) : w.heap.size ≤ gb237)); clear HB; have HB := n0_; have BK237 := n1_; have GW237 := n2_; have GE237 := n3_; clear n0_ n1_ n2_ n3_; clear hb hbox hg; obtain ⟨hcz20_0, hcz20_1, hcz20_2⟩ := cells_3 BK237.out; obtain ⟨hfz20_0, hfz20_1, hfz20_2⟩ := frz_3 BK237.out))
          have n0_ : Aside0 ((((w19.setCell ⟨gb237, 0, none⟩ (.int .i64 ((rd_T71 l0 x8_1).f0))).setCell ⟨gb237, 1, none⟩ (.int .i64 ((rd_T71 l0 x8_1).f1))).setCell ⟨gb237, 2, none⟩ (.int .i64 ((rd_T71 l0 x8_1).f2))).heap[gb237]? = some (.cells #[.int .i64 ((rd_T71 l0 x8_1).f0), .int .i64 ((rd_T71 l0 x8_1).f1), .int .i64 ((rd_T71 l0 x8_1).f2)] 71 (0, 0))) := ⟨by (with_reducible repeat (first | refine z3i ?_ _ | refine z3k ?_ | refine z3j ?_ _)); refine blk_put (cs := #[.int .i64 ((rd_T71 l0 x8_1).f0), .int .i64 ((rd_T71 l0 x8_1).f1), .int .i64 0]) ?_ 2 _ rfl; (with_reducible repeat (first | refine z3i ?_ _ | refine z3k ?_ | refine z3j ?_ _)); refine blk_put (cs := #[.int .i64 ((rd_T71 l0 x8_1).f0), .int .i64 0, .int .i64 0]) ?_ 1 _ rfl; (with_reducible repeat (first | refine z3i ?_ _ | refine z3k ?_ | refine z3j ?_ _)); refine blk_put (cs := #[.int .i64 0, .int .i64 0, .int .i64 0]) ?_ 0 _ rfl; (with_reducible repeat (first | refine z3i ?_ _ | refine z3k ?_ | refine z3j ?_ _)); exact BK237.out⟩
          have n1_ : Aside0 (Below w.heap.size w (((w19.setCell ⟨gb237, 0, none⟩ (.int .i64 ((rd_T71 l0 x8_1).f0))).setCell ⟨gb237, 1, none⟩ (.int .i64 ((rd_T71 l0 x8_1).f1))).setCell ⟨gb237, 2, none⟩ (.int .i64 ((rd_T71 l0 x8_1).f2)))) := ⟨by repeat (first | (with_reducible first | exact HB.out | apply z3d | apply z3b | apply z3c | refine below_set ?_ GE237.out) | exact HB.out)⟩
          (try clear BK237)
          (try clear HB)
          generalize (((w19.setCell ⟨gb237, 0, none⟩ (.int .i64 ((rd_T71 l0 x8_1).f0))).setCell ⟨gb237, 1, none⟩ (.int .i64 ((rd_T71 l0 x8_1).f1))).setCell ⟨gb237, 2, none⟩ (.int .i64 ((rd_T71 l0 x8_1).f2))) = w21 at n0_ n1_ ⊢
          have BK237 := n0_
          have HB := n1_
          clear n0_ n1_
          have n0_ := z3a (z3k BK237.out)
          have n1_ := z3a (z3c HB.out)
          clear BK237
          clear HB
          have BK237 := n0_
          have HB := n1_
          clear n0_ n1_
          have p238 : 0 ≤ (x3_1 : Int) := z3g (by first | (with_reducible assumption) | assumption)
          have q238 : x3_1 < (l0.length : Int) := z3g (by first | (with_reducible assumption) | assumption)
          obtain ⟨ad238, e238, hx238_0, hx238_1, hx238_2⟩ := at_T71 HR0.out x3_1 p238 q238
          have hw238_2 := hx238_2
          have hw238_1 := hx238_1
          have hw238_0 := hx238_0
          obtain rfl : ad236 = ad238 := (by injection e238)
          replace hx238_0 := (HB.out.cell (z3e w _ hx238_0)).trans hx238_0
          replace hx238_1 := (HB.out.cell (z3e w _ hx238_1)).trans hx238_1
          replace hx238_2 := (HB.out.cell (z3e w _ hx238_2)).trans hx238_2
          replace p238 := eq_true p238
          replace q238 := eq_true q238
          refine start_ (n := 11) (S := fun w' => w'.cell? ⟨gb237, 0, none⟩ = some (.int .i64 ((rd_T71 l0 x8_1).f0)) ∧ w'.cell? ⟨gb237, 1, none⟩ = some (.int .i64 ((rd_T71 l0 x8_1).f1)) ∧ w'.cell? ⟨gb237, 2, none⟩ = some (.int .i64 ((rd_T71 l0 x8_1).f2)) ∧ w'.cell? (ad236.add ((x3_1).toNat * 3)) = some (.int .i64 ((rd_T71 l0 x3_1).f0)) ∧ w'.cell? ⟨(ad236.add ((x3_1).toNat * 3)).block, (ad236.add ((x3_1).toNat * 3)).off + 1, none⟩ = some (.int .i64 ((rd_T71 l0 x3_1).f1)) ∧ w'.cell? ⟨(ad236.add ((x3_1).toNat * 3)).block, (ad236.add ((x3_1).toNat * 3)).off + 2, none⟩ = some (.int .i64 ((rd_T71 l0 x3_1).f2))) (ds := []) zq3_0 (by kernel_rfl) rfl rfl ⟨(blk_cell BK237.out 0).trans rfl, (blk_cell BK237.out 1).trans rfl, (blk_cell BK237.out 2).trans rfl, ((HB.out.cell (z3e w _ hw238_0)).trans hw238_0), ((HB.out.cell (z3e w _ hw238_1)).trans hw238_1), ((HB.out.cell (z3e w _ hw238_2)).trans hw238_2)⟩ (fun hHeld => ?_); refine with_tabW y_f.tab5 y_f.bits5 (fun HT_ HW_ => ?_)
          generalize w21.drew = w22 at BK237 HB hx238_0 hx238_1 hx238_2 hHeld ⊢
          refine pure_ (i := 0) (N := some 13) (v := ?_) (a' := ?_) zq3_1 rfl rfl (any_of HT_.out (by kernel_rfl)) (fun _ _ _ h => h) (Or.inl ⟨by rfl, ?_⟩) ?_ ?_
          rotate_left
          ·intro w'
           go_simp
           with_reducible rfl
          rotate_left
          ·simp only [Act.put, zp3a, zp3b, zp3c, i64_w, i32_w]
           rfl
          refine pure_ (i := 1) (N := some 14) (v := ?_) (a' := ?_) zq3_2 rfl rfl (any_of HT_.out (by kernel_rfl)) (fun _ _ _ h => h) (Or.inl ⟨by rfl, ?_⟩) ?_ ?_
          rotate_left
          ·intro w'
           go_simp
           with_reducible rfl
          rotate_left
          ·simp only [Act.put, zp3a, zp3b, zp3c, i64_w, i32_w]
           rfl
          refine pure_ (i := 2) (N := some 15) (v := ?_) (a' := ?_) zq3_3 rfl rfl (any_of HT_.out (by kernel_rfl)) (fun _ _ _ h => h) (Or.inl ⟨by rfl, ?_⟩) ?_ ?_
          rotate_left
          ·intro w'
           go_simp
           with_reducible rfl
          rotate_left
          ·simp only [Act.put, zp3a, zp3b, zp3c, i64_w, i32_w]
           rfl
          refine pure_ (i := 4) (N := some 17) (v := ?_) (a' := ?_) #[zt3,zt3,zt3,zf3,zt3,zf3,zf3,zf3,zf3,zf3,zf3] rfl rfl (any_of HT_.out (by kernel_rfl)) (fun _ _ _ h => h) (Or.inl ⟨by rfl, ?_⟩) ?_ ?_
          rotate_left
          ·intro w'
           go_simp
           with_reducible rfl
          rotate_left
          ·simp only [Act.put, zp3a, zp3b, zp3c, i64_w, i32_w]
           rfl
          refine pure_ (i := 5) (N := some 18) (v := ?_) (a' := ?_) #[zt3,zt3,zt3,zf3,zt3,zt3,zf3,zf3,zf3,zf3,zf3] rfl rfl (any_of HT_.out (by kernel_rfl)) (fun _ _ _ h => h) (Or.inl ⟨by rfl, ?_⟩) ?_ ?_
          rotate_left
          ·intro w'
           go_simp
           with_reducible rfl
          rotate_left
          ·simp only [Act.put, zp3a, zp3b, zp3c, i64_w, i32_w]
           rfl
          refine pure_ (i := 6) (N := some 19) (v := ?_) (a' := ?_) #[zt3,zt3,zt3,zf3,zt3,zt3,zt3,zf3,zf3,zf3,zf3] rfl rfl (any_of HT_.out (by kernel_rfl)) (fun _ _ _ h => h) (Or.inl ⟨by rfl, ?_⟩) ?_ ?_
          rotate_left
          ·intro w'
           go_simp
           with_reducible rfl
          rotate_left
          ·simp only [Act.put, zp3a, zp3b, zp3c, i64_w, i32_w]
           rfl
          refine take_ (i := 3) (N := some 16) (v := ?_) (a' := ?_) zq3_4 rfl rfl (take_ofW HT_.out HW_.out (by kernel_rfl)) (fun _ _ _ h => h) (Or.inl ⟨by rfl, ?_⟩) hHeld ?_ ?_
          rotate_left
          ·rintro w' ⟨s0, s1, s2, s3, s4, s5⟩
           go_simp
           with_reducible rfl
          rotate_left
          ·simp only [Act.put, zp3a, zp3b, zp3c, i64_w, i32_w]
           rfl
          refine take_ (i := 7) (N := some 20) (v := ?_) (a' := ?_) zq3_5 rfl rfl (take_ofW HT_.out HW_.out (by kernel_rfl)) (fun _ _ _ h => h) (Or.inl ⟨by rfl, ?_⟩) hHeld ?_ ?_
          rotate_left
          ·rintro w' ⟨s0, s1, s2, s3, s4, s5⟩
           go_simp
           with_reducible rfl
          rotate_left
          ·simp only [Act.put, zp3a, zp3b, zp3c, i64_w, i32_w]
           rfl
          refine one_ (i := 8) (N := some 21) zq3_6 rfl rfl (one_of HT_.out (by kernel_rfl)) (by decide) (fun K hK => ?_)
          refine goes_ Try.func122 (by kernel_rfl) rfl #[.agg #[.int .i64 ((rd_T71 l0 x8_1).f0), .int .i64 ((rd_T71 l0 x8_1).f1), .int .i64 ((rd_T71 l0 x8_1).f2)], .agg #[.int .i64 ((rd_T71 l0 x3_1).f0), .int .i64 ((rd_T71 l0 x3_1).f1), .int .i64 ((rd_T71 l0 x3_1).f2)]] (by rfl) rfl rfl (by (try simp only [zm3a, zm3b, zm3c]); first | done | rfl | (simp only [zm3d, zm3e]; rfl)) ?_
          with_reducible refine (y_rb.calls ((rd_T71 l0 x8_1).f0) ((rd_T71 l0 x8_1).f1) ((rd_T71 l0 x8_1).f2) ((rd_T71 l0 x3_1).f0) ((rd_T71 l0 x3_1).f1) ((rd_T71 l0 x3_1).f2) t239 _ A12.out).mono ?_
          rintro e w23 ⟨rfl, hb⟩
          refine ⟨_, rfl, ?_⟩
          have n0_ := z3a (blk_below (g := gb237) (o := .cells #[.int .i64 ((rd_T71 l0 x8_1).f0), .int .i64 ((rd_T71 l0 x8_1).f1), .int .i64 ((rd_T71 l0 x8_1).f2)] 71 (0, 0)) (by (with_reducible repeat (first | refine z3i ?_ _ | refine z3k ?_ | refine z3j ?_ _)); exact BK237.out) hb)
          have n1_ := z3a (below_step (by repeat (first | (with_reducible first | exact HB.out | apply z3d | apply z3b | apply z3c | refine below_set ?_ GE237.out) | exact HB.out)) hb)
          clear BK237
          clear HB
          have BK237 := n0_
          have HB := n1_
          clear n0_ n1_
          (try clear hb)
          (try clear hb2)
          (try clear hk)
          (try clear hi)
          refine hK.out _ _ ⟨(blk_cell BK237.out 0).trans rfl, (blk_cell BK237.out 1).trans rfl, (blk_cell BK237.out 2).trans rfl, ((HB.out.cell (z3e w _ hw238_0)).trans hw238_0), ((HB.out.cell (z3e w _ hw238_1)).trans hw238_1), ((HB.out.cell (z3e w _ hw238_2)).trans hw238_2)⟩ (fun hHeld => ?_)
          clear hK K
          refine norm_ (a' := ?_) ?_ ?_
          rotate_left
          ·show Act.put _ (some 21) _ = _
           simp only [Act.put, zp3a, zp3b, zp3c, i64_w, i32_w]
           rfl
          refine pure_ (i := 9) (N := some 22) (v := ?_) (a' := ?_) zq3_7 rfl rfl (any_of HT_.out (by kernel_rfl)) (fun _ _ _ h => h) (Or.inl ⟨by rfl, ?_⟩) ?_ ?_
          rotate_left
          ·intro w'
           go_simp
           with_reducible rfl
          rotate_left
          ·simp only [Act.put, zp3a, zp3b, zp3c, i64_w, i32_w]
           rfl
          refine pure_ (i := 10) (N := some 23) (v := ?_) (a' := ?_) zq3_8 rfl rfl (any_of HT_.out (by kernel_rfl)) (fun _ _ _ h => h) (Or.inl ⟨by rfl, ?_⟩) ?_ ?_
          rotate_left
          ·intro w'
           go_simp
           with_reducible rfl
          rotate_left
          ·simp only [Act.put, zp3a, zp3b, zp3c, i64_w, i32_w]
           rfl
          refine done_ (done_of HT_.out (by kernel_rfl)) ?_
          try go_wp2
          go_roundg k1
          case measure => have := HK1.out; omega
          case rel => exact ⟨(x3_1), (wrap64 (x8_1 + 1)), (by first | rfl | (simp; done) | (simp [*]; done)), (by first | rfl | (simp; done) | (simp [*]; done)), H', ⟨by have := HK1.out; omega⟩, ⟨by repeat (first | (with_reducible first | exact HB.out | apply z3d | apply z3b | apply z3c | refine below_set ?_ GE237.out) | exact HB.out)⟩⟩
        ·rw [if_neg c11] at H
         exact absurd H (by simp)
       ·rw [if_neg c10] at H
        exact absurd H (by simp)
     ·rw [if_neg c4] at H
      exact absurd H (by simp)
    ·rw [if_neg c3] at H
     exact absurd H (by simp)
   ·rw [if_neg c2] at H
    have c2b0 : decide (x8_1 < (l0.length : Int)) = false := decide_eq_false c2
    clear c2
    obtain rfl := Option.some.inj H
    go_wp2
    go_ret
    exact ⟨by first | rfl | (simp [errW_none, errW_some] <;> rfl) | (simp [*, errW_none, errW_some] <;> rfl), by repeat (first | (with_reducible first | exact HB.out | apply z3d | apply z3b | apply z3c) | exact HB.out)⟩
def y_ab.f (a0 : Int) (a1 : Int) (a2 : Int) : Option (Bool) := if a0 ≥ a1 then (some (decide (a0 ≤ a2))) else (some false)
theorem y_ab.calls (a0 : Int) (a1 : Int) (a2 : Int) (r : Bool) (w : World) (h : y_ab.f a0 a1 a2 = some r) :
  Calls Try.prog 141 #[.int .i64 a0, .int .i64 a1, .int .i64 a2] w fun e w' => e = .returned (.bool r) ∧ Drawn0 w w' := by
 have H : (if a0 ≥ a1 then (some (decide (a0 ≤ a2))) else (some false)) = some r := h
 clear h
 by_cases c4 : a0 ≥ a1
 ·rw [if_pos c4] at H
  have c4b0 : decide (a1 ≤ a0) = true := z3h c4
  clear c4
  obtain rfl := Option.some.inj H
  go_enter Try.func141, Try.ntmps141
  go_wp2
  go_ret
  exact ⟨by first | rfl | (simp; done) | (simp [*]; done), by repeat (first | exact Drawn0.refl _ | apply Drawn0.step)⟩
 ·rw [if_neg c4] at H
  have c4b0 : decide (a1 ≤ a0) = false := decide_eq_false c4
  clear c4
  obtain rfl := Option.some.inj H
  go_enter Try.func141, Try.ntmps141
  go_wp2
  go_ret
  exact ⟨by first | rfl | (simp; done) | (simp [*]; done), by repeat (first | exact Drawn0.refl _ | apply Drawn0.step)⟩
def y_tb.f (a0_0 : Int) (a0_1 : Int) (a0_2 : Int) : Option (Bool) := (y_ab.f a0_0 0 9).bind fun t241 => (if t241 = true then ((y_ab.f a0_1 0 99).bind fun t242 => (if t242 = true then ((y_ab.f a0_2 0 3).bind fun t243 => (some t243)) else (some false))) else (some false))
theorem y_tb.calls (a0_0 : Int) (a0_1 : Int) (a0_2 : Int) (r : Bool) (w : World) (h : y_tb.f a0_0 a0_1 a0_2 = some r) :
  Calls Try.prog 157 #[.agg #[.int .i64 a0_0, .int .i64 a0_1, .int .i64 a0_2]] w fun e w' => e = .returned (.bool r) ∧ Below w.heap.size w w' := by
 have hu71 := Try.underlying71
 have HB := z3a (Below.refl w.heap.size w)
 have H := h
 unfold y_tb.f at H
 clear h
 replace H := z3f.mp H
 obtain ⟨t241, A20, H⟩ := H
 have A2 := z3a A20
 clear A20
 by_cases c3 : t241 = true
 ·subst c3
  rw [if_pos rfl] at H
  replace H := z3f.mp H
  obtain ⟨t242, A40, H⟩ := H
  have A4 := z3a A40
  clear A40
  by_cases c5 : t242 = true
  ·subst c5
   rw [if_pos rfl] at H
   replace H := z3f.mp H
   obtain ⟨t243, A60, H⟩ := H
   have A6 := z3a A60
   clear A60
   obtain rfl := Option.some.inj H
   go_enter Try.func157, Try.ntmps157
   go_wp2_with (first | ((with_reducible refine gate_dst (N := 1) rfl ?_); refine box_event ?hg (N := 1) ?hd (cs := #[.int .i64 a0_0, .int .i64 a0_1, .int .i64 a0_2]) (t := 71) ?hr ?_; (case hd => rfl); (case hg => rfl); (case hr => first | (go_simp; done) | (go_simp; rfl)); intro gb240 hg w7 hbox hb; have n0_ := z3a (below_step (by repeat (first | (with_reducible first | exact HB.out | apply z3d | apply z3b | apply z3c) | exact HB.out)) hb); have n1_ := z3a (hbox); have n2_ := z3a ((by rw [hg]; exact (below_size (by repeat (first | (with_reducible first | exact HB.out | apply z3d | apply z3b | apply z3c) | exact HB.out))) : w.heap.size ≤ gb240)); have n3_ := z3a ((by rw [hg]; exact (below_size (by repeat (first | (with_reducible first | exact HB.out | apply z3d | apply z3b | apply z3c) | exact HB.out))) : w.heap.size ≤ gb240)); clear HB; have HB := n0_; have BK240 := n1_; have GW240 := n2_; have GE240 := n3_; clear n0_ n1_ n2_ n3_; clear hb hbox hg; obtain ⟨hcz8_0, hcz8_1, hcz8_2⟩ := cells_3 BK240.out; obtain ⟨hfz8_0, hfz8_1, hfz8_2⟩ := frz_3 BK240.out) | ((with_reducible refine gate_callee (f := 141) rfl ?_); refine goesL_ (some 5) rfl rfl Try.func141 (by kernel_rfl) rfl #[.int .i64 a0_0, .int .i64 0, .int .i64 9] rfl (by (try simp only [zm3a, zm3b, zm3c]); first | done | rfl | (simp only [zm3d, zm3e]; rfl)) ?_; (with_reducible refine (y_ab.calls a0_0 0 9 true _ A2.out).mono ?_); rintro e w' ⟨rfl, ⟨nd, rfl⟩⟩; refine ⟨_, rfl, ?_⟩) | (go_at_call 141; (with_reducible refine (y_ab.calls a0_1 0 99 true _ A4.out).mono ?_); rintro e w' ⟨rfl, ⟨nd, rfl⟩⟩) | (go_at_call 141; (with_reducible refine (y_ab.calls a0_2 0 3 t243 _ A6.out).mono ?_); rintro e w' ⟨rfl, ⟨nd, rfl⟩⟩))
   go_ret
   exact ⟨by first | rfl | (simp [errW_none, errW_some] <;> rfl) | (simp [*, errW_none, errW_some] <;> rfl), by repeat (first | (with_reducible first | exact HB.out | apply z3d | apply z3b | apply z3c | refine below_set ?_ GE240.out) | exact HB.out)⟩
  ·replace c5 := Bool.eq_false_iff.mpr c5
   subst c5
   have H1 : (some false) = some r := by rw [if_neg (show ¬ (false = true) by decide)] at H; exact H
   clear H
   have H := H1
   clear H1
   obtain rfl := Option.some.inj H
   go_enter Try.func157, Try.ntmps157
   go_wp2_with (first | ((with_reducible refine gate_dst (N := 1) rfl ?_); refine box_event ?hg (N := 1) ?hd (cs := #[.int .i64 a0_0, .int .i64 a0_1, .int .i64 a0_2]) (t := 71) ?hr ?_; (case hd => rfl); (case hg => rfl); (case hr => first | (go_simp; done) | (go_simp; rfl)); intro gb240 hg w9 hbox hb; have n0_ := z3a (below_step (by repeat (first | (with_reducible first | exact HB.out | apply z3d | apply z3b | apply z3c) | exact HB.out)) hb); have n1_ := z3a (hbox); have n2_ := z3a ((by rw [hg]; exact (below_size (by repeat (first | (with_reducible first | exact HB.out | apply z3d | apply z3b | apply z3c) | exact HB.out))) : w.heap.size ≤ gb240)); have n3_ := z3a ((by rw [hg]; exact (below_size (by repeat (first | (with_reducible first | exact HB.out | apply z3d | apply z3b | apply z3c) | exact HB.out))) : w.heap.size ≤ gb240)); clear HB; have HB := n0_; have BK240 := n1_; have GW240 := n2_; have GE240 := n3_; clear n0_ n1_ n2_ n3_; clear hb hbox hg; obtain ⟨hcz10_0, hcz10_1, hcz10_2⟩ := cells_3 BK240.out; obtain ⟨hfz10_0, hfz10_1, hfz10_2⟩ := frz_3 BK240.out) | ((with_reducible refine gate_callee (f := 141) rfl ?_); refine goesL_ (some 5) rfl rfl Try.func141 (by kernel_rfl) rfl #[.int .i64 a0_0, .int .i64 0, .int .i64 9] rfl (by (try simp only [zm3a, zm3b, zm3c]); first | done | rfl | (simp only [zm3d, zm3e]; rfl)) ?_; (with_reducible refine (y_ab.calls a0_0 0 9 true _ A2.out).mono ?_); rintro e w' ⟨rfl, ⟨nd, rfl⟩⟩; refine ⟨_, rfl, ?_⟩) | (go_at_call 141; (with_reducible refine (y_ab.calls a0_1 0 99 false _ A4.out).mono ?_); rintro e w' ⟨rfl, ⟨nd, rfl⟩⟩))
   go_ret
   exact ⟨by first | rfl | (simp [errW_none, errW_some] <;> rfl) | (simp [*, errW_none, errW_some] <;> rfl), by repeat (first | (with_reducible first | exact HB.out | apply z3d | apply z3b | apply z3c | refine below_set ?_ GE240.out) | exact HB.out)⟩
 ·replace c3 := Bool.eq_false_iff.mpr c3
  subst c3
  have H1 : (some false) = some r := by rw [if_neg (show ¬ (false = true) by decide)] at H; exact H
  clear H
  have H := H1
  clear H1
  obtain rfl := Option.some.inj H
  go_enter Try.func157, Try.ntmps157
  go_wp2_with (first | ((with_reducible refine gate_dst (N := 1) rfl ?_); refine box_event ?hg (N := 1) ?hd (cs := #[.int .i64 a0_0, .int .i64 a0_1, .int .i64 a0_2]) (t := 71) ?hr ?_; (case hd => rfl); (case hg => rfl); (case hr => first | (go_simp; done) | (go_simp; rfl)); intro gb240 hg w11 hbox hb; have n0_ := z3a (below_step (by repeat (first | (with_reducible first | exact HB.out | apply z3d | apply z3b | apply z3c) | exact HB.out)) hb); have n1_ := z3a (hbox); have n2_ := z3a ((by rw [hg]; exact (below_size (by repeat (first | (with_reducible first | exact HB.out | apply z3d | apply z3b | apply z3c) | exact HB.out))) : w.heap.size ≤ gb240)); have n3_ := z3a ((by rw [hg]; exact (below_size (by repeat (first | (with_reducible first | exact HB.out | apply z3d | apply z3b | apply z3c) | exact HB.out))) : w.heap.size ≤ gb240)); clear HB; have HB := n0_; have BK240 := n1_; have GW240 := n2_; have GE240 := n3_; clear n0_ n1_ n2_ n3_; clear hb hbox hg; obtain ⟨hcz12_0, hcz12_1, hcz12_2⟩ := cells_3 BK240.out; obtain ⟨hfz12_0, hfz12_1, hfz12_2⟩ := frz_3 BK240.out) | ((with_reducible refine gate_callee (f := 141) rfl ?_); refine goesL_ (some 5) rfl rfl Try.func141 (by kernel_rfl) rfl #[.int .i64 a0_0, .int .i64 0, .int .i64 9] rfl (by (try simp only [zm3a, zm3b, zm3c]); first | done | rfl | (simp only [zm3d, zm3e]; rfl)) ?_; (with_reducible refine (y_ab.calls a0_0 0 9 false _ A2.out).mono ?_); rintro e w' ⟨rfl, ⟨nd, rfl⟩⟩; refine ⟨_, rfl, ?_⟩))
  go_ret
  exact ⟨by first | rfl | (simp [errW_none, errW_some] <;> rfl) | (simp [*, errW_none, errW_some] <;> rfl), by repeat (first | (with_reducible first | exact HB.out | apply z3d | apply z3b | apply z3c | refine below_set ?_ GE240.out) | exact HB.out)⟩
def y_ob.l0 : Nat → List (S71) → Int → Int → Option (Bool)
 | 0, _, _, _ => none
 | k + 1, x5, x6, x7 => if x7 < x6 then (if 0 ≤ x7 then (if x7 < (x5.length : Int) then ((y_tb.f ((rd_T71 x5 x7).f0) ((rd_T71 x5 x7).f1) ((rd_T71 x5 x7).f2)).bind fun t246 => (if t246 = true then (y_ob.l0 k x5 x6 (wrap64 (x7 + 1))) else (some false))) else (none)) else (none)) else (some true)
def y_ob.f (k : Nat) (l0 : List (S71)) : Option (Bool) := y_ob.l0 k l0 (l0.length : Int) 0
theorem y_ob.calls (k : Nat) (A0 : Option Addr) (c0 : Nat) (l0 : List (S71)) (r : Bool) (w : World) (hr0 : Kd.C k71 w A0 l0.length l0) (hc0 : l0.length ≤ c0) (h : y_ob.f k l0 = some r) :
  Calls Try.prog 156 #[.slice A0 l0.length c0] w fun e w' => e = .returned (.bool r) ∧ Below w.heap.size w w' := by
 have hu71 := Try.underlying71
 have HR0 := z3a hr0
 have HC0 := z3a hc0
 clear hr0 hc0
 have HB := z3a (Below.refl w.heap.size w)
 have H : (y_ob.l0 k l0 (l0.length : Int) 0) = some r := h
 clear h
 have H' := z3a H
 clear H
 go_enter Try.func156, Try.ntmps156
 go_wp2
 go_loopg [7] k (fun kq v7 w' => ∃ (x7_1 : Int), v7 = .int .i64 x7_1 ∧ Aside0 (y_ob.l0 kq l0 (l0.length : Int) x7_1 = some r) ∧ Aside0 (kq ≤ k) ∧ Aside0 (Below w.heap.size w w'))
 case atStart => exact ⟨(0), (by first | rfl | (simp; done) | (simp [*]; done)), H', ⟨Nat.le_refl _⟩, ⟨by repeat (first | (with_reducible first | exact HB.out | apply z3d | apply z3b | apply z3c) | exact HB.out)⟩⟩
 case round =>
  clear H'
  try clear c1
  obtain ⟨x7_1, rfl, HA, HK1, HB⟩ := hrel
  cases gk with
  | zero => exact absurd HA.out (by simp [y_ob.l0])
  | succ k1 =>
   have H := HA.out
   clear HA
   simp only [y_ob.l0] at H
   by_cases c2 : x7_1 < (l0.length : Int)
   ·rw [if_pos c2] at H
    have c2b0 : decide (x7_1 < (l0.length : Int)) = true := z3h c2
    clear c2
    by_cases c3 : 0 ≤ x7_1
    ·rw [if_pos c3] at H
     have c3b0 : decide (0 ≤ x7_1) = true := z3h c3
     clear c3
     by_cases c4 : x7_1 < (l0.length : Int)
     ·rw [if_pos c4] at H
      have c4b0 : decide (x7_1 < (l0.length : Int)) = true := z3h c4
      clear c4
      replace H := z3f.mp H
      obtain ⟨t246, A50, H⟩ := H
      have A5 := z3a A50
      clear A50
      by_cases c6 : t246 = true
      ·subst c6
       rw [if_pos rfl] at H
       have H' := z3a H
       clear H
       have p244 : 0 ≤ (x7_1 : Int) := z3g (by first | (with_reducible assumption) | assumption)
       have q244 : x7_1 < (l0.length : Int) := z3g (by first | (with_reducible assumption) | assumption)
       obtain ⟨ad244, e244, hx244_0, hx244_1, hx244_2⟩ := at_T71 HR0.out x7_1 p244 q244
       cases e244
       replace hx244_0 := (HB.out.cell (z3e w _ hx244_0)).trans hx244_0
       replace hx244_1 := (HB.out.cell (z3e w _ hx244_1)).trans hx244_1
       replace hx244_2 := (HB.out.cell (z3e w _ hx244_2)).trans hx244_2
       replace p244 := eq_true p244
       replace q244 := eq_true q244
       go_wp2_with (first | ((with_reducible refine gate_dst (N := 4) rfl ?_); refine box_event ?hg (N := 4) ?hd (cs := #[.int .i64 0, .int .i64 0, .int .i64 0]) (t := 71) ?hr ?_; (case hd => rfl); (case hg => rfl); (case hr => first | (go_simp; done) | (go_simp; rfl)); intro gb245 hg w7 hbox hb; have n0_ := z3a (below_step (by repeat (first | (with_reducible first | exact HB.out | apply z3d | apply z3b | apply z3c) | exact HB.out)) hb); have n1_ := z3a (hbox); have n2_ := z3a ((by rw [hg]; exact (below_size (by repeat (first | (with_reducible first | exact HB.out | apply z3d | apply z3b | apply z3c) | exact HB.out))) : w.heap.size ≤ gb245)); have n3_ := z3a ((by rw [hg]; exact (below_size (by repeat (first | (with_reducible first | exact HB.out | apply z3d | apply z3b | apply z3c) | exact HB.out))) : w.heap.size ≤ gb245)); clear HB; have HB := n0_; have BK245 := n1_; have GW245 := n2_; have GE245 := n3_; clear n0_ n1_ n2_ n3_; clear hb hbox hg; obtain ⟨hcz8_0, hcz8_1, hcz8_2⟩ := cells_3 BK245.out; obtain ⟨hfz8_0, hfz8_1, hfz8_2⟩ := frz_3 BK245.out) | ((with_reducible refine gate_callee (f := 157) rfl ?_); refine goesL_ (some 12) rfl rfl Try.func157 (by kernel_rfl) rfl #[.agg #[.int .i64 ((rd_T71 l0 x7_1).f0), .int .i64 ((rd_T71 l0 x7_1).f1), .int .i64 ((rd_T71 l0 x7_1).f2)]] rfl (by (try simp only [zm3a, zm3b, zm3c]); first | done | rfl | (simp only [zm3d, zm3e]; rfl)) ?_; (with_reducible refine (y_tb.calls ((rd_T71 l0 x7_1).f0) ((rd_T71 l0 x7_1).f1) ((rd_T71 l0 x7_1).f2) true _ A5.out).mono ?_); rintro e w9 ⟨rfl, hb⟩; refine ⟨_, rfl, ?_⟩; have n0_ := z3a (blk_below (g := gb245) (o := .cells #[.int .i64 ((rd_T71 l0 x7_1).f0), .int .i64 ((rd_T71 l0 x7_1).f1), .int .i64 ((rd_T71 l0 x7_1).f2)] 71 (0, 0)) (by (with_reducible repeat (first | refine z3i ?_ _ | refine z3k ?_ | refine z3j ?_ _)); refine blk_put (cs := #[.int .i64 ((rd_T71 l0 x7_1).f0), .int .i64 ((rd_T71 l0 x7_1).f1), .int .i64 0]) ?_ 2 _ rfl; (with_reducible repeat (first | refine z3i ?_ _ | refine z3k ?_ | refine z3j ?_ _)); refine blk_put (cs := #[.int .i64 ((rd_T71 l0 x7_1).f0), .int .i64 0, .int .i64 0]) ?_ 1 _ rfl; (with_reducible repeat (first | refine z3i ?_ _ | refine z3k ?_ | refine z3j ?_ _)); refine blk_put (cs := #[.int .i64 0, .int .i64 0, .int .i64 0]) ?_ 0 _ rfl; (with_reducible repeat (first | refine z3i ?_ _ | refine z3k ?_ | refine z3j ?_ _)); exact BK245.out) hb); have n1_ := z3a (below_step (by repeat (first | (with_reducible first | exact HB.out | apply z3d | apply z3b | apply z3c | refine below_set ?_ GE245.out) | exact HB.out)) hb); clear BK245; clear HB; have BK245 := n0_; have HB := n1_; clear n0_ n1_; (try clear hb); (try clear hb2); (try clear hk); (try clear hi)))
       go_roundg k1
       case measure => have := HK1.out; omega
       case rel => exact ⟨(wrap64 (x7_1 + 1)), (by first | rfl | (simp; done) | (simp [*]; done)), H', ⟨by have := HK1.out; omega⟩, ⟨by repeat (first | (with_reducible first | exact HB.out | apply z3d | apply z3b | apply z3c | refine below_set ?_ GE245.out) | exact HB.out)⟩⟩
      ·replace c6 := Bool.eq_false_iff.mpr c6
       subst c6
       have H1 : (some false) = some r := by rw [if_neg (show ¬ (false = true) by decide)] at H; exact H
       clear H
       have H := H1
       clear H1
       obtain rfl := Option.some.inj H
       have p244 : 0 ≤ (x7_1 : Int) := z3g (by first | (with_reducible assumption) | assumption)
       have q244 : x7_1 < (l0.length : Int) := z3g (by first | (with_reducible assumption) | assumption)
       obtain ⟨ad244, e244, hx244_0, hx244_1, hx244_2⟩ := at_T71 HR0.out x7_1 p244 q244
       cases e244
       replace hx244_0 := (HB.out.cell (z3e w _ hx244_0)).trans hx244_0
       replace hx244_1 := (HB.out.cell (z3e w _ hx244_1)).trans hx244_1
       replace hx244_2 := (HB.out.cell (z3e w _ hx244_2)).trans hx244_2
       replace p244 := eq_true p244
       replace q244 := eq_true q244
       go_wp2_with (first | ((with_reducible refine gate_dst (N := 4) rfl ?_); refine box_event ?hg (N := 4) ?hd (cs := #[.int .i64 0, .int .i64 0, .int .i64 0]) (t := 71) ?hr ?_; (case hd => rfl); (case hg => rfl); (case hr => first | (go_simp; done) | (go_simp; rfl)); intro gb245 hg w10 hbox hb; have n0_ := z3a (below_step (by repeat (first | (with_reducible first | exact HB.out | apply z3d | apply z3b | apply z3c) | exact HB.out)) hb); have n1_ := z3a (hbox); have n2_ := z3a ((by rw [hg]; exact (below_size (by repeat (first | (with_reducible first | exact HB.out | apply z3d | apply z3b | apply z3c) | exact HB.out))) : w.heap.size ≤ gb245)); have n3_ := z3a ((by rw [hg]; exact (below_size (by repeat (first | (with_reducible first | exact HB.out | apply z3d | apply z3b | apply z3c) | exact HB.out))) : w.heap.size ≤ gb245)); clear HB; have HB := n0_; have BK245 := n1_; have GW245 := n2_; have GE245 := n3_; clear n0_ n1_ n2_ n3_; clear hb hbox hg; obtain ⟨hcz11_0, hcz11_1, hcz11_2⟩ := cells_3 BK245.out; obtain ⟨hfz11_0, hfz11_1, hfz11_2⟩ := frz_3 BK245.out) | ((with_reducible refine gate_callee (f := 157) rfl ?_); refine goesL_ (some 12) rfl rfl Try.func157 (by kernel_rfl) rfl #[.agg #[.int .i64 ((rd_T71 l0 x7_1).f0), .int .i64 ((rd_T71 l0 x7_1).f1), .int .i64 ((rd_T71 l0 x7_1).f2)]] rfl (by (try simp only [zm3a, zm3b, zm3c]); first | done | rfl | (simp only [zm3d, zm3e]; rfl)) ?_; (with_reducible refine (y_tb.calls ((rd_T71 l0 x7_1).f0) ((rd_T71 l0 x7_1).f1) ((rd_T71 l0 x7_1).f2) false _ A5.out).mono ?_); rintro e w12 ⟨rfl, hb⟩; refine ⟨_, rfl, ?_⟩; have n0_ := z3a (blk_below (g := gb245) (o := .cells #[.int .i64 ((rd_T71 l0 x7_1).f0), .int .i64 ((rd_T71 l0 x7_1).f1), .int .i64 ((rd_T71 l0 x7_1).f2)] 71 (0, 0)) (by (with_reducible repeat (first | refine z3i ?_ _ | refine z3k ?_ | refine z3j ?_ _)); refine blk_put (cs := #[.int .i64 ((rd_T71 l0 x7_1).f0), .int .i64 ((rd_T71 l0 x7_1).f1), .int .i64 0]) ?_ 2 _ rfl; (with_reducible repeat (first | refine z3i ?_ _ | refine z3k ?_ | refine z3j ?_ _)); refine blk_put (cs := #[.int .i64 ((rd_T71 l0 x7_1).f0), .int .i64 0, .int .i64 0]) ?_ 1 _ rfl; (with_reducible repeat (first | refine z3i ?_ _ | refine z3k ?_ | refine z3j ?_ _)); refine blk_put (cs := #[.int .i64 0, .int .i64 0, .int .i64 0]) ?_ 0 _ rfl; (with_reducible repeat (first | refine z3i ?_ _ | refine z3k ?_ | refine z3j ?_ _)); exact BK245.out) hb); have n1_ := z3a (below_step (by repeat (first | (with_reducible first | exact HB.out | apply z3d | apply z3b | apply z3c | refine below_set ?_ GE245.out) | exact HB.out)) hb); clear BK245; clear HB; have BK245 := n0_; have HB := n1_; clear n0_ n1_; (try clear hb); (try clear hb2); (try clear hk); (try clear hi)))
       go_ret
       exact ⟨by first | rfl | (simp [errW_none, errW_some] <;> rfl) | (simp [*, errW_none, errW_some] <;> rfl), by repeat (first | (with_reducible first | exact HB.out | apply z3d | apply z3b | apply z3c | refine below_set ?_ GE245.out) | exact HB.out)⟩
     ·rw [if_neg c4] at H
      exact absurd H (by simp)
    ·rw [if_neg c3] at H
     exact absurd H (by simp)
   ·rw [if_neg c2] at H
    have c2b0 : decide (x7_1 < (l0.length : Int)) = false := decide_eq_false c2
    clear c2
    obtain rfl := Option.some.inj H
    go_wp2
    go_ret
    exact ⟨by first | rfl | (simp [errW_none, errW_some] <;> rfl) | (simp [*, errW_none, errW_some] <;> rfl), by repeat (first | (with_reducible first | exact HB.out | apply z3d | apply z3b | apply z3c) | exact HB.out)⟩
def y_qb.f (k : Nat) (l0 : List (S71)) : Option (Bool) := if (l0.length : Int) ≤ 24 then ((y_ob.f k l0).bind fun t247 => (some t247)) else (some false)
theorem y_qb.calls (k : Nat) (A0 : Option Addr) (c0 : Nat) (l0 : List (S71)) (r : Bool) (w : World) (hr0 : Kd.C k71 w A0 l0.length l0) (hc0 : l0.length ≤ c0) (h : y_qb.f k l0 = some r) :
  Calls Try.prog 107 #[.slice A0 l0.length c0] w fun e w' => e = .returned (.bool r) ∧ Below w.heap.size w w' := by
 have HR0 := z3a hr0
 have HC0 := z3a hc0
 clear hr0 hc0
 have HB := z3a (Below.refl w.heap.size w)
 have H : (if (l0.length : Int) ≤ 24 then ((y_ob.f k l0).bind fun t247 => (some t247)) else (some false)) = some r := h
 clear h
 by_cases c2 : (l0.length : Int) ≤ 24
 ·rw [if_pos c2] at H
  have c2b0 : decide ((l0.length : Int) ≤ 24) = true := z3h c2
  have c2b1 : decide (l0.length ≤ 24) = true := z3h (by omega)
  clear c2
  replace H := z3f.mp H
  obtain ⟨t247, A30, H⟩ := H
  have A3 := z3a A30
  clear A30
  obtain rfl := Option.some.inj H
  go_enter Try.func107, Try.ntmps107
  go_wp2_with (first | (go_at_call 156; (with_reducible refine (y_ob.calls k _ _ l0 t247 _ ?side1 ?side2 A3.out).mono ?_); (case side1 => repeat (first | exact HR0.out | (with_reducible refine Kd.C_alloc ?_ _) | (with_reducible refine Kd.C_drewN ?_ _) | (with_reducible refine Kd.C_drew ?_))); (case side2 => exact HC0.out); rintro e w4 ⟨rfl, hb⟩; have n0_ := z3a (below_step (by repeat (first | (with_reducible first | exact HB.out | apply z3d | apply z3b | apply z3c) | exact HB.out)) hb); clear HB; have HB := n0_; clear n0_; (try clear hb); (try clear hb2); (try clear hk); (try clear hi)))
  go_ret
  exact ⟨by first | rfl | (simp [errW_none, errW_some] <;> rfl) | (simp [*, errW_none, errW_some] <;> rfl), by repeat (first | (with_reducible first | exact HB.out | apply z3d | apply z3b | apply z3c) | exact HB.out)⟩
 ·rw [if_neg c2] at H
  have c2b0 : decide ((l0.length : Int) ≤ 24) = false := decide_eq_false c2
  have c2b1 : decide (l0.length ≤ 24) = false := decide_eq_false (by omega)
  clear c2
  obtain rfl := Option.some.inj H
  go_enter Try.func107, Try.ntmps107
  go_wp2
  go_ret
  exact ⟨by first | rfl | (simp [errW_none, errW_some] <;> rfl) | (simp [*, errW_none, errW_some] <;> rfl), by repeat (first | (with_reducible first | exact HB.out | apply z3d | apply z3b | apply z3c) | exact HB.out)⟩
def y_gc.f (a0 : Int) : Option (Bool) := (y_ab.f a0 8 60).bind fun t248 => (some t248)
theorem y_gc.calls (a0 : Int) (r : Bool) (w : World) (h : y_gc.f a0 = some r) :
  Calls Try.prog 108 #[.int .i64 a0] w fun e w' => e = .returned (.bool r) ∧ Drawn0 w w' := by
 have H : ((y_ab.f a0 8 60).bind fun t248 => (some t248)) = some r := h
 clear h
 replace H := z3f.mp H
 obtain ⟨t248, A20, H⟩ := H
 have A2 := z3a A20
 clear A20
 obtain rfl := Option.some.inj H
 go_enter Try.func108, Try.ntmps108
 go_wp2_with (first | ((with_reducible refine gate_callee (f := 141) rfl ?_); refine goesL_ (some 4) rfl rfl Try.func141 (by kernel_rfl) rfl #[.int .i64 a0, .int .i64 8, .int .i64 60] rfl (by (try simp only [zm3a, zm3b, zm3c]); first | done | rfl | (simp only [zm3d, zm3e]; rfl)) ?_; (with_reducible refine (y_ab.calls a0 8 60 t248 _ A2.out).mono ?_); rintro e w' ⟨rfl, ⟨nd, rfl⟩⟩; refine ⟨_, rfl, ?_⟩))
 go_ret
 exact ⟨by first | rfl | (simp; done) | (simp [*]; done), by repeat (first | exact Drawn0.refl _ | apply Drawn0.step)⟩
def y_ac.f (a0_0 : Int) (a0_1 : Int) (a0_2 : Int) : Option (Int) := (y_tb.f a0_0 a0_1 a0_2).bind fun t250 => (if t250 = true then (some (wrap64 (1 + a0_2))) else (some 0))
theorem y_ac.calls (a0_0 : Int) (a0_1 : Int) (a0_2 : Int) (r : Int) (w : World) (h : y_ac.f a0_0 a0_1 a0_2 = some r) :
  Calls Try.prog 110 #[.agg #[.int .i64 a0_0, .int .i64 a0_1, .int .i64 a0_2]] w fun e w' => e = .returned (.int .i64 r) ∧ Below w.heap.size w w' := by
 have hu71 := Try.underlying71
 have HB := z3a (Below.refl w.heap.size w)
 have H := h
 unfold y_ac.f at H
 clear h
 replace H := z3f.mp H
 obtain ⟨t250, A20, H⟩ := H
 have A2 := z3a A20
 clear A20
 by_cases c3 : t250 = true
 ·subst c3
  rw [if_pos rfl] at H
  obtain rfl := Option.some.inj H
  go_enter Try.func110, Try.ntmps110
  go_wp2_with (first | ((with_reducible refine gate_dst (N := 1) rfl ?_); refine box_event ?hg (N := 1) ?hd (cs := #[.int .i64 a0_0, .int .i64 a0_1, .int .i64 a0_2]) (t := 71) ?hr ?_; (case hd => rfl); (case hg => rfl); (case hr => first | (go_simp; done) | (go_simp; rfl)); intro gb249 hg w4 hbox hb; have n0_ := z3a (below_step (by repeat (first | (with_reducible first | exact HB.out | apply z3d | apply z3b | apply z3c) | exact HB.out)) hb); have n1_ := z3a (hbox); have n2_ := z3a ((by rw [hg]; exact (below_size (by repeat (first | (with_reducible first | exact HB.out | apply z3d | apply z3b | apply z3c) | exact HB.out))) : w.heap.size ≤ gb249)); have n3_ := z3a ((by rw [hg]; exact (below_size (by repeat (first | (with_reducible first | exact HB.out | apply z3d | apply z3b | apply z3c) | exact HB.out))) : w.heap.size ≤ gb249)); clear HB; have HB := n0_; have BK249 := n1_; have GW249 := n2_; have GE249 := n3_; clear n0_ n1_ n2_ n3_; clear hb hbox hg; obtain ⟨hcz5_0, hcz5_1, hcz5_2⟩ := cells_3 BK249.out; obtain ⟨hfz5_0, hfz5_1, hfz5_2⟩ := frz_3 BK249.out) | ((with_reducible refine gate_callee (f := 157) rfl ?_); refine goesL_ (some 4) rfl rfl Try.func157 (by kernel_rfl) rfl #[.agg #[.int .i64 a0_0, .int .i64 a0_1, .int .i64 a0_2]] rfl (by (try simp only [zm3a, zm3b, zm3c]); first | done | rfl | (simp only [zm3d, zm3e]; rfl)) ?_; (with_reducible refine (y_tb.calls a0_0 a0_1 a0_2 true _ A2.out).mono ?_); rintro e w6 ⟨rfl, hb⟩; refine ⟨_, rfl, ?_⟩; have n0_ := z3a (blk_below (g := gb249) (o := .cells #[.int .i64 a0_0, .int .i64 a0_1, .int .i64 a0_2] 71 (0, 0)) (by (with_reducible repeat (first | refine z3i ?_ _ | refine z3k ?_ | refine z3j ?_ _)); exact BK249.out) hb); have n1_ := z3a (below_step (by repeat (first | (with_reducible first | exact HB.out | apply z3d | apply z3b | apply z3c | refine below_set ?_ GE249.out) | exact HB.out)) hb); clear BK249; clear HB; have BK249 := n0_; have HB := n1_; clear n0_ n1_; (try clear hb); (try clear hb2); (try clear hk); (try clear hi); obtain ⟨hcz7_0, hcz7_1, hcz7_2⟩ := cells_3 BK249.out; obtain ⟨hfz7_0, hfz7_1, hfz7_2⟩ := frz_3 BK249.out))
  go_ret
  exact ⟨by first | rfl | (simp [errW_none, errW_some] <;> rfl) | (simp [*, errW_none, errW_some] <;> rfl), by repeat (first | (with_reducible first | exact HB.out | apply z3d | apply z3b | apply z3c | refine below_set ?_ GE249.out) | exact HB.out)⟩
 ·replace c3 := Bool.eq_false_iff.mpr c3
  subst c3
  have H1 : (some 0) = some r := by rw [if_neg (show ¬ (false = true) by decide)] at H; exact H
  clear H
  have H := H1
  clear H1
  obtain rfl := Option.some.inj H
  go_enter Try.func110, Try.ntmps110
  go_wp2_with (first | ((with_reducible refine gate_dst (N := 1) rfl ?_); refine box_event ?hg (N := 1) ?hd (cs := #[.int .i64 a0_0, .int .i64 a0_1, .int .i64 a0_2]) (t := 71) ?hr ?_; (case hd => rfl); (case hg => rfl); (case hr => first | (go_simp; done) | (go_simp; rfl)); intro gb249 hg w8 hbox hb; have n0_ := z3a (below_step (by repeat (first | (with_reducible first | exact HB.out | apply z3d | apply z3b | apply z3c) | exact HB.out)) hb); have n1_ := z3a (hbox); have n2_ := z3a ((by rw [hg]; exact (below_size (by repeat (first | (with_reducible first | exact HB.out | apply z3d | apply z3b | apply z3c) | exact HB.out))) : w.heap.size ≤ gb249)); have n3_ := z3a ((by rw [hg]; exact (below_size (by repeat (first | (with_reducible first | exact HB.out | apply z3d | apply z3b | apply z3c) | exact HB.out))) : w.heap.size ≤ gb249)); clear HB; have HB := n0_; have BK249 := n1_; have GW249 := n2_; have GE249 := n3_; clear n0_ n1_ n2_ n3_; clear hb hbox hg; obtain ⟨hcz9_0, hcz9_1, hcz9_2⟩ := cells_3 BK249.out; obtain ⟨hfz9_0, hfz9_1, hfz9_2⟩ := frz_3 BK249.out) | ((with_reducible refine gate_callee (f := 157) rfl ?_); refine goesL_ (some 4) rfl rfl Try.func157 (by kernel_rfl) rfl #[.agg #[.int .i64 a0_0, .int .i64 a0_1, .int .i64 a0_2]] rfl (by (try simp only [zm3a, zm3b, zm3c]); first | done | rfl | (simp only [zm3d, zm3e]; rfl)) ?_; (with_reducible refine (y_tb.calls a0_0 a0_1 a0_2 false _ A2.out).mono ?_); rintro e w10 ⟨rfl, hb⟩; refine ⟨_, rfl, ?_⟩; have n0_ := z3a (blk_below (g := gb249) (o := .cells #[.int .i64 a0_0, .int .i64 a0_1, .int .i64 a0_2] 71 (0, 0)) (by (with_reducible repeat (first | refine z3i ?_ _ | refine z3k ?_ | refine z3j ?_ _)); exact BK249.out) hb); have n1_ := z3a (below_step (by repeat (first | (with_reducible first | exact HB.out | apply z3d | apply z3b | apply z3c | refine below_set ?_ GE249.out) | exact HB.out)) hb); clear BK249; clear HB; have BK249 := n0_; have HB := n1_; clear n0_ n1_; (try clear hb); (try clear hb2); (try clear hk); (try clear hi)))
  go_ret
  exact ⟨by first | rfl | (simp [errW_none, errW_some] <;> rfl) | (simp [*, errW_none, errW_some] <;> rfl), by repeat (first | (with_reducible first | exact HB.out | apply z3d | apply z3b | apply z3c | refine below_set ?_ GE249.out) | exact HB.out)⟩
def y_jb.l0 : Nat → Int → List (S71) → Int → Int → Option (Int)
 | 0, _, _, _, _ => none
 | k + 1, x3, x6, x7, x8 => if x8 < x7 then (if 0 ≤ x8 then (if x8 < (x6.length : Int) then ((y_ac.f ((rd_T71 x6 x8).f0) ((rd_T71 x6 x8).f1) ((rd_T71 x6 x8).f2)).bind fun t253 => (y_jb.l0 k (wrap64 (x3 + t253)) x6 x7 (wrap64 (x8 + 1)))) else (none)) else (none)) else (some x3)
def y_jb.f (k : Nat) (l0 : List (S71)) : Option (Int) := y_jb.l0 k 0 l0 (l0.length : Int) 0
theorem y_jb.calls (k : Nat) (A0 : Option Addr) (c0 : Nat) (l0 : List (S71)) (r : Int) (w : World) (hr0 : Kd.C k71 w A0 l0.length l0) (hc0 : l0.length ≤ c0) (h : y_jb.f k l0 = some r) :
  Calls Try.prog 109 #[.slice A0 l0.length c0] w fun e w' => e = .returned (.int .i64 r) ∧ Below w.heap.size w w' := by
 have hu71 := Try.underlying71
 have HR0 := z3a hr0
 have HC0 := z3a hc0
 clear hr0 hc0
 have HB := z3a (Below.refl w.heap.size w)
 have H : (y_jb.l0 k 0 l0 (l0.length : Int) 0) = some r := h
 clear h
 have H' := z3a H
 clear H
 go_enter Try.func109, Try.ntmps109
 go_wp2
 go_loopg [3, 8] k (fun kq v3 v8 w' => ∃ (x3_1 : Int) (x8_1 : Int), v3 = .int .i64 x3_1 ∧ v8 = .int .i64 x8_1 ∧ Aside0 (y_jb.l0 kq x3_1 l0 (l0.length : Int) x8_1 = some r) ∧ Aside0 (kq ≤ k) ∧ Aside0 (Below w.heap.size w w'))
 case atStart => exact ⟨(0), (0), (by first | rfl | (simp; done) | (simp [*]; done)), (by first | rfl | (simp; done) | (simp [*]; done)), H', ⟨Nat.le_refl _⟩, ⟨by repeat (first | (with_reducible first | exact HB.out | apply z3d | apply z3b | apply z3c) | exact HB.out)⟩⟩
 case round =>
  clear H'
  try clear c1
  obtain ⟨x3_1, x8_1, rfl, rfl, HA, HK1, HB⟩ := hrel
  cases gk with
  | zero => exact absurd HA.out (by simp [y_jb.l0])
  | succ k1 =>
   have H := HA.out
   clear HA
   simp only [y_jb.l0] at H
   by_cases c2 : x8_1 < (l0.length : Int)
   ·rw [if_pos c2] at H
    have c2b0 : decide (x8_1 < (l0.length : Int)) = true := z3h c2
    clear c2
    by_cases c3 : 0 ≤ x8_1
    ·rw [if_pos c3] at H
     have c3b0 : decide (0 ≤ x8_1) = true := z3h c3
     clear c3
     by_cases c4 : x8_1 < (l0.length : Int)
     ·rw [if_pos c4] at H
      have c4b0 : decide (x8_1 < (l0.length : Int)) = true := z3h c4
      clear c4
      replace H := z3f.mp H
      obtain ⟨t253, A50, H⟩ := H
      have A5 := z3a A50
      clear A50
      have H' := z3a H
      clear H
      have p251 : 0 ≤ (x8_1 : Int) := z3g (by first | (with_reducible assumption) | assumption)
      have q251 : x8_1 < (l0.length : Int) := z3g (by first | (with_reducible assumption) | assumption)
      obtain ⟨ad251, e251, hx251_0, hx251_1, hx251_2⟩ := at_T71 HR0.out x8_1 p251 q251
      cases e251
      replace hx251_0 := (HB.out.cell (z3e w _ hx251_0)).trans hx251_0
      replace hx251_1 := (HB.out.cell (z3e w _ hx251_1)).trans hx251_1
      replace hx251_2 := (HB.out.cell (z3e w _ hx251_2)).trans hx251_2
      replace p251 := eq_true p251
      replace q251 := eq_true q251
      go_wp2_with (first | ((with_reducible refine gate_dst (N := 5) rfl ?_); refine box_event ?hg (N := 5) ?hd (cs := #[.int .i64 0, .int .i64 0, .int .i64 0]) (t := 71) ?hr ?_; (case hd => rfl); (case hg => rfl); (case hr => first | (go_simp; done) | (go_simp; rfl)); intro gb252 hg w6 hbox hb; have n0_ := z3a (below_step (by repeat (first | (with_reducible first | exact HB.out | apply z3d | apply z3b | apply z3c) | exact HB.out)) hb); have n1_ := z3a (hbox); have n2_ := z3a ((by rw [hg]; exact (below_size (by repeat (first | (with_reducible first | exact HB.out | apply z3d | apply z3b | apply z3c) | exact HB.out))) : w.heap.size ≤ gb252)); have n3_ := z3a ((by rw [hg]; exact (below_size (by repeat (first | (with_reducible first | exact HB.out | apply z3d | apply z3b | apply z3c) | exact HB.out))) : w.heap.size ≤ gb252)); clear HB; have HB := n0_; have BK252 := n1_; have GW252 := n2_; have GE252 := n3_; clear n0_ n1_ n2_ n3_; clear hb hbox hg; obtain ⟨hcz7_0, hcz7_1, hcz7_2⟩ := cells_3 BK252.out; obtain ⟨hfz7_0, hfz7_1, hfz7_2⟩ := frz_3 BK252.out) | ((with_reducible refine gate_callee (f := 110) rfl ?_); refine goesL_ (some 14) rfl rfl Try.func110 (by kernel_rfl) rfl #[.agg #[.int .i64 ((rd_T71 l0 x8_1).f0), .int .i64 ((rd_T71 l0 x8_1).f1), .int .i64 ((rd_T71 l0 x8_1).f2)]] rfl (by (try simp only [zm3a, zm3b, zm3c]); first | done | rfl | (simp only [zm3d, zm3e]; rfl)) ?_; (with_reducible refine (y_ac.calls ((rd_T71 l0 x8_1).f0) ((rd_T71 l0 x8_1).f1) ((rd_T71 l0 x8_1).f2) t253 _ A5.out).mono ?_); rintro e w8 ⟨rfl, hb⟩; refine ⟨_, rfl, ?_⟩; have n0_ := z3a (blk_below (g := gb252) (o := .cells #[.int .i64 ((rd_T71 l0 x8_1).f0), .int .i64 ((rd_T71 l0 x8_1).f1), .int .i64 ((rd_T71 l0 x8_1).f2)] 71 (0, 0)) (by (with_reducible repeat (first | refine z3i ?_ _ | refine z3k ?_ | refine z3j ?_ _)); refine blk_put (cs := #[.int .i64 ((rd_T71 l0 x8_1).f0), .int .i64 ((rd_T71 l0 x8_1).f1), .int .i64 0]) ?_ 2 _ rfl; (with_reducible repeat (first | refine z3i ?_ _ | refine z3k ?_ | refine z3j ?_ _)); refine blk_put (cs := #[.int .i64 ((rd_T71 l0 x8_1).f0), .int .i64 0, .int .i64 0]) ?_ 1 _ rfl; (with_reducible repeat (first | refine z3i ?_ _ | refine z3k ?_ | refine z3j ?_ _)); refine blk_put (cs := #[.int .i64 0, .int .i64 0, .int .i64 0]) ?_ 0 _ rfl; (with_reducible repeat (first | refine z3i ?_ _ | refine z3k ?_ | refine z3j ?_ _)); exact BK252.out) hb); have n1_ := z3a (below_step (by repeat (first | (with_reducible first | exact HB.out | apply z3d | apply z3b | apply z3c | refine below_set ?_ GE252.out) | exact HB.out)) hb); clear BK252; clear HB; have BK252 := n0_; have HB := n1_; clear n0_ n1_; (try clear hb); (try clear hb2); (try clear hk); (try clear hi)))
      go_roundg k1
      case measure => have := HK1.out; omega
      case rel => exact ⟨(wrap64 (x3_1 + t253)), (wrap64 (x8_1 + 1)), (by first | rfl | (simp; done) | (simp [*]; done)), (by first | rfl | (simp; done) | (simp [*]; done)), H', ⟨by have := HK1.out; omega⟩, ⟨by repeat (first | (with_reducible first | exact HB.out | apply z3d | apply z3b | apply z3c | refine below_set ?_ GE252.out) | exact HB.out)⟩⟩
     ·rw [if_neg c4] at H
      exact absurd H (by simp)
    ·rw [if_neg c3] at H
     exact absurd H (by simp)
   ·rw [if_neg c2] at H
    have c2b0 : decide (x8_1 < (l0.length : Int)) = false := decide_eq_false c2
    clear c2
    obtain rfl := Option.some.inj H
    go_wp2
    go_ret
    exact ⟨by first | rfl | (simp [errW_none, errW_some] <;> rfl) | (simp [*, errW_none, errW_some] <;> rfl), by repeat (first | (with_reducible first | exact HB.out | apply z3d | apply z3b | apply z3c) | exact HB.out)⟩
end Go.Proofs.Ytkcicbigpbdjpaa.P
end
