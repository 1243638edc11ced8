-- merged by pack.py out of Px28 (words: printed by the kit's print.sh; what this claim does not use is left out)

import Derived.Test.YtkcicbigpbdjpaaKFnExactExternalSort1
import Derived.Test.YtkcicbigpbdjpaaKFnExactExternalSort2
namespace Go.Proofs.Ytkcicbigpbdjpaa
abbrev zq5_0 : Array Bool := #[false, false, false, false, false, false, false, false, false, false, false, false, false, false, false, false, false, false, false, false, false, false]
abbrev zq5_1 : Array Bool := #[true, false, false, false, false, false, false, false, false, false, false, false, false, false, false, false, false, false, false, false, false, false]
abbrev zq5_2 : Array Bool := #[true, true, false, false, false, false, false, false, false, false, false, false, false, false, false, false, false, false, false, false, false, false]
abbrev zq5_3 : Array Bool := #[true, true, true, false, false, false, false, false, false, false, false, false, false, false, false, false, false, false, false, false, false, false]
abbrev zq5_4 : Array Bool := #[true, true, true, true, false, false, false, false, false, false, false, false, false, false, false, false, false, false, false, false, false, false]
abbrev zq5_5 : Array Bool := #[true, true, true, true, true, false, false, false, false, false, false, false, false, false, false, false, false, false, false, false, false, false]
abbrev zq5_6 : Array Bool := #[true, true, true, true, true, true, false, false, false, false, false, false, false, false, false, false, false, false, false, false, false, false]
abbrev zq5_7 : Array Bool := #[true, true, true, true, true, true, true, false, false, false, false, false, false, false, false, false, false, false, false, false, false, false]
abbrev zq5_8 : Array Bool := #[true, true, true, true, true, true, true, true, false, false, false, false, false, false, false, false, false, false, false, false, false, false]
abbrev zq5_9 : Array Bool := #[true, true, true, true, true, true, true, true, true, false, false, false, false, false, false, false, false, false, false, false, false, false]
abbrev zq5_10 : Array Bool := #[true, true, true, true, true, true, true, true, true, true, false, false, false, false, false, false, false, false, false, false, false, false]
abbrev zq5_11 : Array Bool := #[true, true, true, true, true, true, true, true, true, true, true, false, false, false, false, false, false, false, false, false, false, false]
abbrev zq5_12 : Array Bool := #[true, true, true, true, true, true, true, true, true, true, true, true, false, false, false, false, false, false, false, false, false, false]
abbrev zq5_13 : Array Bool := #[true, true, true, true, true, true, true, true, true, true, true, true, true, false, false, false, false, false, false, false, false, false]
abbrev zq5_14 : Array Bool := #[true, true, true, true, true, true, true, true, true, true, true, true, true, true, true, true, true, false, false, false, false, false]
abbrev zq5_15 : Array Bool := #[true, true, true, true, true, true, true, true, true, true, true, true, true, true, true, true, true, true, false, false, false, false]
abbrev zq5_16 : Array Bool := #[true, true, true, true, true, true, true, true, true, true, true, true, true, true, true, true, true, true, true, false, false, false]
abbrev zq5_17 : Array Bool := #[true, true, true, true, true, true, true, true, true, true, true, true, true, true, true, true, true, true, true, true, false, false]
abbrev zq5_18 : Array Bool := #[true, true, true, true, true, true, true, true, true, true, true, true, true, true, true, true, true, true, true, true, true, false]
abbrev zq5_19 : Array Bool := #[true, true, true, true, true, true, true, true, true, true, true, true, true, true, true, true, true, true, true, true, true, true]
abbrev zt5 : Bool := true
abbrev zf5 : Bool := false
section
open Go.RowKit Go.Proofs.YtkcicbigpbdjpaaW.PrintWords Go.Proofs.YtkcicbigpbdjpaaW.PrintLast Go.Proofs.YtkcicbigpbdjpaaW.PrintMore
abbrev z5a := @Aside0.mk
abbrev z5b := @pw_below_drewN
abbrev z5c := @below_drew1
abbrev z5d := @below_alloc
abbrev z5e := @World.block_lt_of_cell?
abbrev z5f := @of_decide_eq_true
end
theorem zp5a {α : Type} (l : List α) (i : Nat) (a : α) : l.toArray.setIfInBounds i a = (l.set i a).toArray := List.setIfInBounds_toArray l i a
theorem zp5b {α : Type} (x : α) (l : List α) (a : α) : (x :: l).set 0 a = a :: l := List.set_cons_zero
theorem zp5c {α : Type} (x : α) (l : List α) (n : Nat) (a : α) : (x :: l).set (n + 1) a = x :: l.set n a := List.set_cons_succ
end Go.Proofs.Ytkcicbigpbdjpaa
section
namespace Go.Proofs.Ytkcicbigpbdjpaa.P
open Go.RowKit Go.Proofs.YtkcicbigpbdjpaaW.PrintWords Go.Proofs.YtkcicbigpbdjpaaW.PrintLast Go.Proofs.YtkcicbigpbdjpaaW.PrintMore
attribute [local go_sem] max2_int min2_int max_two min_two max_three min_three max_four min_four
set_option linter.unusedVariables false
set_option linter.unusedSimpArgs false
mutual
def y_g.l0 : Nat → List (S71) → List (S71) → List (S71) → Int → Int → Option ((List (S71)))
 | 0, _, _, _, _, _ => none
 | k + 1, x0, x1, x5, x6, x7 => if x6 < (x0.length : Int) then (y_g.j1 k x0 x1 x5 x6 x7 true) else (y_g.j1 k x0 x1 x5 x6 x7 (decide (x7 < (x1.length : Int))))
def y_g.j1 : Nat → List (S71) → List (S71) → List (S71) → Int → Int → Bool → Option ((List (S71)))
 | 0, _, _, _, _, _, _ => none
 | k + 1, x0, x1, x5, x6, x7, x18 => if x18 = true then (if x7 = (x1.length : Int) then (if 0 ≤ x6 then (if x6 < (x0.length : Int) then (if x5.length < 5864062014805 then (y_g.l0 k x0 x1 (x5 ++ [(⟨(rd_T71 x0 x6).f0, (rd_T71 x0 x6).f1, (rd_T71 x0 x6).f2⟩ : S71)]) (wrap64 (x6 + 1)) x7) else (none)) else (none)) else (none)) else (if x6 < (x0.length : Int) then (if 0 ≤ x6 then (if 0 ≤ x7 then (if x7 < (x1.length : Int) then ((y_l.f k ((rd_T71 x0 x6).f0) ((rd_T71 x0 x6).f1) ((rd_T71 x0 x6).f2) ((rd_T71 x1 x7).f0) ((rd_T71 x1 x7).f1) ((rd_T71 x1 x7).f2)).bind fun t682 => (if t682 ≤ 0 then (if x5.length < 5864062014805 then (y_g.l0 k x0 x1 (x5 ++ [(⟨(rd_T71 x0 x6).f0, (rd_T71 x0 x6).f1, (rd_T71 x0 x6).f2⟩ : S71)]) (wrap64 (x6 + 1)) x7) else (none)) else (if x5.length < 5864062014805 then (y_g.l0 k x0 x1 (x5 ++ [(⟨(rd_T71 x1 x7).f0, (rd_T71 x1 x7).f1, (rd_T71 x1 x7).f2⟩ : S71)]) x6 (wrap64 (x7 + 1))) else (none)))) else (none)) else (none)) else (none)) else (if 0 ≤ x7 then (if x7 < (x1.length : Int) then (if x5.length < 5864062014805 then (y_g.l0 k x0 x1 (x5 ++ [(⟨(rd_T71 x1 x7).f0, (rd_T71 x1 x7).f1, (rd_T71 x1 x7).f2⟩ : S71)]) x6 (wrap64 (x7 + 1))) else (none)) else (none)) else (none)))) else (some x5)
end
def y_g.f (k : Nat) (l0 : List (S71)) (l1 : List (S71)) : Option ((List (S71))) := y_g.l0 k l0 l1 (([] : List (S71))) 0 0
def y_g.T5 : Bool × List (List Nat × List Nat) := (true, [([], []), ([], []), ([1], [1]), ([0, 2], [0, 2]), ([3], [3]), ([4], [4]), ([4], [4]), ([6, 4], [4, 6]), ([5, 7, 4], [4, 5, 7]), ([8, 4, 4], [4, 8]), ([9], [9]), ([9], [9]), ([10, 11, 9], [9, 10, 11]), ([12, 9], [9, 12]), ([9], [9]), ([9], [9]), ([14, 15, 9], [9, 14, 15]), ([16, 9], [9, 16]), ([13, 17, 9, 9], [9, 13, 17]), ([18, 9], [9, 18]), ([9, 19, 4], [4, 9, 19]), ([4, 20], [4, 20])])
def y_g.B5 : List Nat := [0, 0, 2, 7, 15, 31, 31, 95, 255, 511, 1023, 1023, 4095, 8191, 1023, 1023, 50175, 115711, 262143, 524287, 1048575, 2097151]
theorem y_g.tab5 : rtab .any (opsOf Try.f51 5) = y_g.T5 := by kernel_rfl
theorem y_g.bits5 : waitsOk y_g.T5.2 y_g.B5 = true := by kernel_rfl
set_option maxHeartbeats 8000000 in
set_option maxRecDepth 100000 in
theorem y_g.calls (k : Nat) (A0 : Option Addr) (c0 : Nat) (l0 : List (S71)) (A1 : Option Addr) (c1 : Nat) (l1 : List (S71)) (r : List (S71)) (w : World) (hr0 : Kd.C k71 w A0 l0.length l0) (hc0 : l0.length ≤ c0) (hr1 : Kd.C k71 w A1 l1.length l1) (hc1 : l1.length ≤ c1) (h : y_g.f k l0 l1 = some r) :
  Calls Try.prog 51 #[.slice A0 l0.length c0, .slice A1 l1.length c1] w fun e w' => ∃ v0_ : Value, e = .returned (v0_) ∧ Kd.R k71 71 w' w.heap.size (fun _ => True) v0_ r ∧ Below w.heap.size w w' := by
 have hu71 := Try.underlying71
 have HR0 := z5a hr0
 have HC0 := z5a hc0
 clear hr0 hc0
 have HR1 := z5a hr1
 have HC1 := z5a hc1
 clear hr1 hc1
 have HB := z5a (Below.refl w.heap.size w)
 have H : (y_g.l0 k l0 l1 (([] : List (S71))) 0 0) = some r := h
 clear h
 obtain ⟨y673, hy673⟩ : ∃ y_ : List (S71), y_ = (([] : List (S71))) := ⟨_, rfl⟩
 replace H : (y_g.l0 k l0 l1 y673 0 0) = some r := by first | (rw [hy673]; with_reducible exact H) | (have H2_ := (Option.bind_some _ _).symm.trans H; rw [hy673]; with_reducible exact H2_) | (have H2_ := (Option.bind_some _ _).symm.trans H; with_reducible exact H2_) | with_reducible exact H | (rw [hy673]; exact H) | exact H
 have Ny673 := z5a hy673
 clear hy673
 have H' := z5a H
 clear H
 go_enter Try.func51, Try.ntmps51
 go_wp2_with (first | ((with_reducible refine gate_dst (N := 8) rfl ?_); (try (refine gate_guard (by rfl) ?_; dsimp only)); refine Kd.R_lit k71 _ 71 ?hg (N := 8) ?hd (xs := ([] : List (S71))) (inner := []) (ok := fun _ => True) (okp := fun _ => True) ?hr ?hp (fun _ hk => hk) trivial (Below.refl _ _) (Nat.le_refl _) (by simp) ?_; (case hd => rfl); (case hg => rfl); (case hr => first | (go_simp; done) | (go_simp; rfl)); (case hp => exact (Reps.none _ _)); intro v674 w3 ho4 hb hg_ hnew_; clear hg_ hnew_; (first | rw [← Ny673.out] at ho4 | (simp only [Int.reduceToNat] at ho4; rw [← Ny673.out] at ho4)); have n0_ := z5a (Kd.R_lower ho4 (below_size (by repeat (first | (with_reducible first | exact HB.out | apply z5d | apply z5b | apply z5c) | exact HB.out)))); have n1_ := z5a (below_step (by repeat (first | (with_reducible first | exact HB.out | apply z5d | apply z5b | apply z5c) | exact HB.out)) hb); clear HB; have HO675 := n0_; have HB := n1_; clear n0_ n1_; clear hb ho4))
 go_loopg [5, 6, 7] k (fun kq v5 v6 v7 w' => ∃ (x5_1 : List (S71)) (x6_1 : Int) (x7_1 : Int), v6 = .int .i64 x6_1 ∧ v7 = .int .i64 x7_1 ∧ Aside0 (y_g.l0 kq l0 l1 x5_1 x6_1 x7_1 = some r) ∧ Aside0 (kq ≤ k) ∧ Aside0 (Kd.R k71 71 w' w.heap.size (fun _ => True) v5 x5_1) ∧ Aside0 (Below w.heap.size w w'))
 case atStart => exact ⟨(y673), (0), (0), (by first | rfl | (simp; done) | (simp [*]; done)), (by first | rfl | (simp; done) | (simp [*]; done)), H', ⟨Nat.le_refl _⟩, ⟨by (with_reducible repeat (first | apply Kd.R_alloc | apply Kd.R_drewN | apply Kd.R_drew)); exact HO675.out⟩, ⟨by repeat (first | (with_reducible first | exact HB.out | apply z5d | apply z5b | apply z5c) | exact HB.out)⟩⟩
 case round =>
  clear H'
  try clear c1
  try clear p2
  obtain ⟨x5_1, x6_1, x7_1, rfl, rfl, HA, HK1, HO_5, HB⟩ := hrel
  cases gk with
  | zero => exact absurd HA.out (by simp [y_g.l0])
  | succ k1 =>
   have H := HA.out
   clear HA
   simp only [y_g.l0] at H
   have HC5 := z5a H
   clear H
   go_upto_region 4 with (fail)
   go_cut [18] (fun v18 wc => ∃ (kq : Nat) (x18_4 : Bool), v18 = .bool x18_4 ∧ Aside0 (y_g.j1 kq l0 l1 x5_1 x6_1 x7_1 x18_4 = some r) ∧ Aside0 (kq ≤ k1) ∧ Aside0 (Kd.R k71 71 wc w.heap.size (fun _ => True) u5 x5_1) ∧ Aside0 (Below w.heap.size w wc))
   case first =>
    have H := HC5.out
    clear HC5
    by_cases c6 : x6_1 < (l0.length : Int)
    ·rw [if_pos c6] at H
     have c6b0 : decide (x6_1 < (l0.length : Int)) = true := decide_eq_true c6
     clear c6
     (first | rw [c6b0] | (simp only [i64_w, i32_w]; rw [c6b0]) | skip)
     have H' := z5a H
     clear H
     go_wp2
     go_meet
     case rel => exact ⟨_, (true), (by first | rfl | (simp; done) | (simp [*]; done)), H', ⟨by have := HK1.out; first | omega | exact Nat.le_refl _⟩, ⟨by (with_reducible repeat (first | apply Kd.R_alloc | apply Kd.R_drewN | apply Kd.R_drew)); exact HO_5.out⟩, ⟨by repeat (first | (with_reducible first | exact HB.out | apply z5d | apply z5b | apply z5c) | exact HB.out)⟩⟩
    ·rw [if_neg c6] at H
     have c6b0 : decide (x6_1 < (l0.length : Int)) = false := decide_eq_false c6
     clear c6
     (first | rw [c6b0] | (simp only [i64_w, i32_w]; rw [c6b0]) | skip)
     have H' := z5a H
     clear H
     go_wp2
     go_meet
     case rel => exact ⟨_, (decide (x7_1 < (l1.length : Int))), (by first | rfl | (simp; done) | (simp [*]; done)), H', ⟨by have := HK1.out; first | omega | exact Nat.le_refl _⟩, ⟨by (with_reducible repeat (first | apply Kd.R_alloc | apply Kd.R_drewN | apply Kd.R_drew)); exact HO_5.out⟩, ⟨by repeat (first | (with_reducible first | exact HB.out | apply z5d | apply z5b | apply z5c) | exact HB.out)⟩⟩
   case rest =>
    clear HC5
    try clear c1
    try clear p2
    try clear c5
    try clear c6
    try clear c6b0
    try clear p2
    obtain ⟨kq, x18_4, rfl, HA, HJ4, HO_5, HB⟩ := hcut
    cases kq with
    | zero => exact absurd HA.out (by simp [y_g.j1])
    | succ kj4 =>
     have H := HA.out
     clear HA
     simp only [y_g.j1] at H
     by_cases c7 : x18_4 = true
     ·subst c7
      rw [if_pos rfl] at H
      by_cases c8 : x7_1 = (l1.length : Int)
      ·rw [if_pos c8] at H
       have c8b0 : (x7_1 == (l1.length : Int)) = true := beq_iff_eq.mpr c8
       have c8b1 : (x7_1 != (l1.length : Int)) = false := bne_eq_false_iff_eq.mpr c8
       clear c8
       by_cases c9 : 0 ≤ x6_1
       ·rw [if_pos c9] at H
        have c9b0 : decide (0 ≤ x6_1) = true := decide_eq_true c9
        clear c9
        by_cases c10 : x6_1 < (l0.length : Int)
        ·rw [if_pos c10] at H
         have c10b0 : decide (x6_1 < (l0.length : Int)) = true := decide_eq_true c10
         clear c10
         by_cases c11 : x5_1.length < 5864062014805
         ·rw [if_pos c11] at H
          have LMc11 := z5a c11
          clear c11
          obtain ⟨y677, hy677⟩ : ∃ y_ : List (S71), y_ = (x5_1 ++ [(⟨(rd_T71 l0 x6_1).f0, (rd_T71 l0 x6_1).f1, (rd_T71 l0 x6_1).f2⟩ : S71)]) := ⟨_, rfl⟩
          replace H : (y_g.l0 kj4 l0 l1 y677 (wrap64 (x6_1 + 1)) x7_1) = some r := by first | (rw [hy677]; with_reducible exact H) | (have H2_ := (Option.bind_some _ _).symm.trans H; rw [hy677]; with_reducible exact H2_) | (have H2_ := (Option.bind_some _ _).symm.trans H; with_reducible exact H2_) | with_reducible exact H | (rw [hy677]; exact H) | exact H
          have Ny677 := z5a hy677
          clear hy677
          have H' := z5a H
          clear H
          try go_wp2
          have n0_ := z5a (Kd.R_drew HO_5.out)
          have n1_ := z5a (z5c HB.out)
          clear HO_5
          clear HB
          have HO_5 := n0_
          have HB := n1_
          clear n0_ n1_
          refine start_ (n := 22) (S := fun w' => True) (ds := []) zq5_0 (by kernel_rfl) rfl rfl trivial (fun hHeld => ?_); refine with_tabW y_g.tab5 y_g.bits5 (fun HT_ HW_ => ?_)
          generalize wc.drew = w12 at HO_5 HB hHeld ⊢
          refine pure_ (i := 0) (N := some 19) (v := ?_) (a' := ?_) zq5_1 rfl rfl (any_of HT_.out (by kernel_rfl)) (fun _ _ _ h => h) (Or.inl ⟨by rfl, ?_⟩) ?_ ?_
          rotate_left
          ·intro w'
           go_simp
           with_reducible rfl
          rotate_left
          ·simp only [Act.put, zp5a, zp5b, zp5c, i64_w, i32_w]
           rfl
          refine pure_ (i := 1) (N := some 20) (v := ?_) (a' := ?_) zq5_2 rfl rfl (any_of HT_.out (by kernel_rfl)) (fun _ _ _ h => h) (Or.inl ⟨by rfl, ?_⟩) ?_ ?_
          rotate_left
          ·intro w'
           go_simp
           with_reducible rfl
          rotate_left
          ·simp only [Act.put, zp5a, zp5b, zp5c, i64_w, i32_w]
           rfl
          refine pure_ (i := 2) (N := some 21) (v := ?_) (a' := ?_) zq5_3 rfl rfl (any_of HT_.out (by kernel_rfl)) (fun _ _ _ h => h) (Or.inl ⟨by rfl, ?_⟩) ?_ ?_
          rotate_left
          ·intro w'
           go_simp
           with_reducible rfl
          rotate_left
          ·simp only [Act.put, zp5a, zp5b, zp5c, i64_w, i32_w]
           rfl
          refine pure_ (i := 3) (N := some 22) (v := ?_) (a' := ?_) zq5_4 rfl rfl (any_of HT_.out (by kernel_rfl)) (fun _ _ _ h => h) (Or.inl ⟨by rfl, ?_⟩) ?_ ?_
          rotate_left
          ·intro w'
           go_simp
           with_reducible rfl
          rotate_left
          ·simp only [Act.put, zp5a, zp5b, zp5c, i64_w, i32_w]
           rfl
          refine pure_ (i := 4) (N := some 23) (v := ?_) (a' := ?_) zq5_5 rfl rfl (any_of HT_.out (by kernel_rfl)) (fun _ _ _ h => h) (Or.inl ⟨by rfl, ?_⟩) ?_ ?_
          rotate_left
          ·intro w'
           go_simp
           with_reducible rfl
          rotate_left
          ·simp only [Act.put, zp5a, zp5b, zp5c, i64_w, i32_w]
           rfl
          refine pure_ (i := 5) (N := some 24) (v := undef) (a' := ?_) zq5_6 rfl rfl (any_of HT_.out (by kernel_rfl)) (fun _ _ _ h => h) (Or.inr ⟨by rfl, rfl⟩) ?_ ?_
          rotate_left
          ·simp only [Act.put, zp5a, zp5b, zp5c, i64_w, i32_w]
           rfl
          refine pure_ (i := 6) (N := some 25) (v := undef) (a' := ?_) zq5_7 rfl rfl (any_of HT_.out (by kernel_rfl)) (fun _ _ _ h => h) (Or.inr ⟨by rfl, rfl⟩) ?_ ?_
          rotate_left
          ·simp only [Act.put, zp5a, zp5b, zp5c, i64_w, i32_w]
           rfl
          refine pure_ (i := 7) (N := some 26) (v := undef) (a' := ?_) zq5_8 rfl rfl (any_of HT_.out (by kernel_rfl)) (fun _ _ _ h => h) (Or.inr ⟨by rfl, rfl⟩) ?_ ?_
          rotate_left
          ·simp only [Act.put, zp5a, zp5b, zp5c, i64_w, i32_w]
           rfl
          refine pure_ (i := 8) (N := some 27) (v := undef) (a' := ?_) zq5_9 rfl rfl (any_of HT_.out (by kernel_rfl)) (fun _ _ _ h => h) (Or.inr ⟨by rfl, rfl⟩) ?_ ?_
          rotate_left
          ·simp only [Act.put, zp5a, zp5b, zp5c, i64_w, i32_w]
           rfl
          refine pure_ (i := 9) (N := some 28) (v := undef) (a' := ?_) zq5_10 rfl rfl (any_of HT_.out (by kernel_rfl)) (fun _ _ _ h => h) (Or.inr ⟨by rfl, rfl⟩) ?_ ?_
          rotate_left
          ·simp only [Act.put, zp5a, zp5b, zp5c, i64_w, i32_w]
           rfl
          refine pure_ (i := 10) (N := some 29) (v := undef) (a' := ?_) zq5_11 rfl rfl (any_of HT_.out (by kernel_rfl)) (fun _ _ _ h => h) (Or.inr ⟨by rfl, rfl⟩) ?_ ?_
          rotate_left
          ·simp only [Act.put, zp5a, zp5b, zp5c, i64_w, i32_w]
           rfl
          refine pure_ (i := 11) (N := some 30) (v := undef) (a' := ?_) zq5_12 rfl rfl (any_of HT_.out (by kernel_rfl)) (fun _ _ _ h => h) (Or.inr ⟨by rfl, rfl⟩) ?_ ?_
          rotate_left
          ·simp only [Act.put, zp5a, zp5b, zp5c, i64_w, i32_w]
           rfl
          refine pure_ (i := 12) (N := some 31) (v := undef) (a' := ?_) zq5_13 rfl rfl (any_of HT_.out (by kernel_rfl)) (fun _ _ _ h => h) (Or.inr ⟨by rfl, rfl⟩) ?_ ?_
          rotate_left
          ·simp only [Act.put, zp5a, zp5b, zp5c, i64_w, i32_w]
           rfl
          refine pure_ (i := 13) (N := some 32) (v := undef) (a' := ?_) #[zt5,zt5,zt5,zt5,zt5,zt5,zt5,zt5,zt5,zt5,zt5,zt5,zt5,zt5,zf5,zf5,zf5,zf5,zf5,zf5,zf5,zf5] rfl rfl (any_of HT_.out (by kernel_rfl)) (fun _ _ _ h => h) (Or.inr ⟨by rfl, rfl⟩) ?_ ?_
          rotate_left
          ·simp only [Act.put, zp5a, zp5b, zp5c, i64_w, i32_w]
           rfl
          refine pure_ (i := 14) (N := some 33) (v := undef) (a' := ?_) #[zt5,zt5,zt5,zt5,zt5,zt5,zt5,zt5,zt5,zt5,zt5,zt5,zt5,zt5,zt5,zf5,zf5,zf5,zf5,zf5,zf5,zf5] rfl rfl (any_of HT_.out (by kernel_rfl)) (fun _ _ _ h => h) (Or.inr ⟨by rfl, rfl⟩) ?_ ?_
          rotate_left
          ·simp only [Act.put, zp5a, zp5b, zp5c, i64_w, i32_w]
           rfl
          refine pure_ (i := 15) (N := some 34) (v := undef) (a' := ?_) #[zt5,zt5,zt5,zt5,zt5,zt5,zt5,zt5,zt5,zt5,zt5,zt5,zt5,zt5,zt5,zt5,zf5,zf5,zf5,zf5,zf5,zf5] rfl rfl (any_of HT_.out (by kernel_rfl)) (fun _ _ _ h => h) (Or.inr ⟨by rfl, rfl⟩) ?_ ?_
          rotate_left
          ·simp only [Act.put, zp5a, zp5b, zp5c, i64_w, i32_w]
           rfl
          refine pure_ (i := 16) (N := some 35) (v := undef) (a' := ?_) zq5_14 rfl rfl (any_of HT_.out (by kernel_rfl)) (fun _ _ _ h => h) (Or.inr ⟨by rfl, rfl⟩) ?_ ?_
          rotate_left
          ·simp only [Act.put, zp5a, zp5b, zp5c, i64_w, i32_w]
           rfl
          refine pure_ (i := 17) (N := some 36) (v := undef) (a' := ?_) zq5_15 rfl rfl (any_of HT_.out (by kernel_rfl)) (fun _ _ _ h => h) (Or.inr ⟨by rfl, rfl⟩) ?_ ?_
          rotate_left
          ·simp only [Act.put, zp5a, zp5b, zp5c, i64_w, i32_w]
           rfl
          refine pure_ (i := 18) (N := some 37) (v := undef) (a' := ?_) zq5_16 rfl rfl (any_of HT_.out (by kernel_rfl)) (fun _ _ _ h => h) (Or.inr ⟨by rfl, rfl⟩) ?_ ?_
          rotate_left
          ·simp only [Act.put, zp5a, zp5b, zp5c, i64_w, i32_w]
           rfl
          refine pure_ (i := 19) (N := some 38) (v := undef) (a' := ?_) zq5_17 rfl rfl (any_of HT_.out (by kernel_rfl)) (fun _ _ _ h => h) (Or.inr ⟨by rfl, rfl⟩) ?_ ?_
          rotate_left
          ·simp only [Act.put, zp5a, zp5b, zp5c, i64_w, i32_w]
           rfl
          refine pure_ (i := 20) (N := some 39) (v := undef) (a' := ?_) zq5_18 rfl rfl (any_of HT_.out (by kernel_rfl)) (fun _ _ _ h => h) (Or.inr ⟨by rfl, rfl⟩) ?_ ?_
          rotate_left
          ·simp only [Act.put, zp5a, zp5b, zp5c, i64_w, i32_w]
           rfl
          refine pure_ (i := 21) (N := some 40) (v := ?_) (a' := ?_) zq5_19 rfl rfl (any_of HT_.out (by kernel_rfl)) (fun _ _ _ h => h) (Or.inl ⟨by rfl, ?_⟩) ?_ ?_
          rotate_left
          ·intro w'
           go_simp
           with_reducible rfl
          rotate_left
          ·simp only [Act.put, zp5a, zp5b, zp5c, i64_w, i32_w]
           rfl
          refine done_ (done_of HT_.out (by kernel_rfl)) ?_
          have p676 : 0 ≤ (x6_1 : Int) := z5f (by first | (with_reducible assumption) | assumption)
          have q676 : x6_1 < (l0.length : Int) := z5f (by first | (with_reducible assumption) | assumption)
          obtain ⟨ad676, e676, hx676_0, hx676_1, hx676_2⟩ := at_T71 HR0.out x6_1 p676 q676
          cases e676
          replace hx676_0 := (HB.out.cell (z5e w _ hx676_0)).trans hx676_0
          replace hx676_1 := (HB.out.cell (z5e w _ hx676_1)).trans hx676_1
          replace hx676_2 := (HB.out.cell (z5e w _ hx676_2)).trans hx676_2
          replace p676 := eq_true p676
          replace q676 := eq_true q676
          try go_wp2_with (first | ((with_reducible refine gate_builtin (b := .append) (xs := #[.tmp 41, .tmp 46]) rfl ?_); (try (refine gate_guard (by rfl) ?_; dsimp only)); at_builtin; refine Kd.R_append k71 (w0 := w) w.heap.size rfl (.tmp 41) (.tmp 46) 24 71 (.agg #[(.int .i64 0), (.int .i64 0), (.int .i64 0)]) 24 rfl Try.underlying24 info71 rfl (by decide) (by omega) u5 x5_1 (⟨(rd_T71 l0 x6_1).f0, (rd_T71 l0 x6_1).f1, (rd_T71 l0 x6_1).f2⟩ : S71) [.int .i64 ((rd_T71 l0 x6_1).f0), .int .i64 ((rd_T71 l0 x6_1).f1), .int .i64 ((rd_T71 l0 x6_1).f2)] (fun _ => True) (fun _ => False) rfl rfl ?aP (fun _ hk => hk.elim) ?aF ?aO ?aB ?aS ?aL ?_; (case aP => exact k71_mkM _ _ _ (⟨(rd_T71 l0 x6_1).f0, (rd_T71 l0 x6_1).f1, (rd_T71 l0 x6_1).f2⟩ : S71)); (case aB => exact (by repeat (first | (with_reducible first | exact HB.out | apply z5d | apply z5b | apply z5c) | exact HB.out))); (case aF => exact (fun _ _ => trivial)); (case aO => exact (by (with_reducible repeat (first | apply Kd.R_alloc | apply Kd.R_drewN | apply Kd.R_drew)); exact HO_5.out)); (case aS => exact (below_size (by repeat (first | (with_reducible first | exact HB.out | apply z5d | apply z5b | apply z5c) | exact HB.out)))); (case aL => have := LMc11.out; omega); intro v678 w13 ho hb hg hat; rw [← Ny677.out] at ho; have n0_ := z5a (hb); have n1_ := z5a (ho); clear HB; clear HO_5; have HB := n0_; have HO679 := n1_; clear n0_ n1_; clear ho hb hg hat))
          go_roundg kj4
          case measure => have := HK1.out; have := HJ4.out; omega
          case rel => exact ⟨(y677), (wrap64 (x6_1 + 1)), (x7_1), (by first | rfl | (simp; done) | (simp [*]; done)), (by first | rfl | (simp; done) | (simp [*]; done)), H', ⟨by have := HK1.out; have := HJ4.out; omega⟩, ⟨by (with_reducible repeat (first | apply Kd.R_alloc | apply Kd.R_drewN | apply Kd.R_drew)); exact HO679.out⟩, ⟨by repeat (first | (with_reducible first | exact HB.out | apply z5d | apply z5b | apply z5c) | exact HB.out)⟩⟩
         ·rw [if_neg c11] at H
          exact absurd H (by simp)
        ·rw [if_neg c10] at H
         exact absurd H (by simp)
       ·rw [if_neg c9] at H
        exact absurd H (by simp)
      ·rw [if_neg c8] at H
       have c8b0 : (x7_1 == (l1.length : Int)) = false := beq_eq_false_iff_ne.mpr c8
       have c8b1 : (x7_1 != (l1.length : Int)) = true := bne_iff_ne.mpr c8
       by_cases c14 : x6_1 < (l0.length : Int)
       ·rw [if_pos c14] at H
        have c14b0 : decide (x6_1 < (l0.length : Int)) = true := decide_eq_true c14
        clear c14
        by_cases c15 : 0 ≤ x6_1
        ·rw [if_pos c15] at H
         have c15b0 : decide (0 ≤ x6_1) = true := decide_eq_true c15
         clear c15
         by_cases c16 : 0 ≤ x7_1
         ·rw [if_pos c16] at H
          have c16b0 : decide (0 ≤ x7_1) = true := decide_eq_true c16
          clear c16
          by_cases c17 : x7_1 < (l1.length : Int)
          ·rw [if_pos c17] at H
           have c17b0 : decide (x7_1 < (l1.length : Int)) = true := decide_eq_true c17
           clear c17
           replace H := Option.bind_eq_some_iff.mp H
           obtain ⟨t682, A180, H⟩ := H
           have A18 := z5a A180
           clear A180
           by_cases c19 : t682 ≤ 0
           ·rw [if_pos c19] at H
            have c19b0 : decide (t682 ≤ 0) = true := decide_eq_true c19
            clear c19
            by_cases c20 : x5_1.length < 5864062014805
            ·rw [if_pos c20] at H
             have LMc20 := z5a c20
             clear c20
             obtain ⟨y684, hy684⟩ : ∃ y_ : List (S71), y_ = (x5_1 ++ [(⟨(rd_T71 l0 x6_1).f0, (rd_T71 l0 x6_1).f1, (rd_T71 l0 x6_1).f2⟩ : S71)]) := ⟨_, rfl⟩
             replace H : (y_g.l0 kj4 l0 l1 y684 (wrap64 (x6_1 + 1)) x7_1) = some r := by first | (rw [hy684]; with_reducible exact H) | (have H2_ := (Option.bind_some _ _).symm.trans H; rw [hy684]; with_reducible exact H2_) | (have H2_ := (Option.bind_some _ _).symm.trans H; with_reducible exact H2_) | with_reducible exact H | (rw [hy684]; exact H) | exact H
             have Ny684 := z5a hy684
             clear hy684
             have H' := z5a H
             clear H
             try go_wp2
             have n0_ := z5a (Kd.R_drew HO_5.out)
             have n1_ := z5a (z5c HB.out)
             clear HO_5
             clear HB
             have HO_5 := n0_
             have HB := n1_
             clear n0_ n1_
             have p680 : 0 ≤ (x6_1 : Int) := z5f (by first | (with_reducible assumption) | assumption)
             have q680 : x6_1 < (l0.length : Int) := z5f (by first | (with_reducible assumption) | assumption)
             obtain ⟨ad680, e680, hx680_0, hx680_1, hx680_2⟩ := at_T71 HR0.out x6_1 p680 q680
             have hw680_2 := hx680_2
             have hw680_1 := hx680_1
             have hw680_0 := hx680_0
             cases e680
             replace hx680_0 := (HB.out.cell (z5e w _ hx680_0)).trans hx680_0
             replace hx680_1 := (HB.out.cell (z5e w _ hx680_1)).trans hx680_1
             replace hx680_2 := (HB.out.cell (z5e w _ hx680_2)).trans hx680_2
             replace p680 := eq_true p680
             replace q680 := eq_true q680
             have p681 : 0 ≤ (x7_1 : Int) := z5f (by first | (with_reducible assumption) | assumption)
             have q681 : x7_1 < (l1.length : Int) := z5f (by first | (with_reducible assumption) | assumption)
             obtain ⟨ad681, e681, hx681_0, hx681_1, hx681_2⟩ := at_T71 HR1.out x7_1 p681 q681
             have hw681_2 := hx681_2
             have hw681_1 := hx681_1
             have hw681_0 := hx681_0
             cases e681
             replace hx681_0 := (HB.out.cell (z5e w _ hx681_0)).trans hx681_0
             replace hx681_1 := (HB.out.cell (z5e w _ hx681_1)).trans hx681_1
             replace hx681_2 := (HB.out.cell (z5e w _ hx681_2)).trans hx681_2
             replace p681 := eq_true p681
             replace q681 := eq_true q681
             refine start_ (n := 22) (S := fun w' => w'.cell? (ad680.add ((x6_1).toNat * 3)) = some (.int .i64 ((rd_T71 l0 x6_1).f0)) ∧ w'.cell? ⟨(ad680.add ((x6_1).toNat * 3)).block, (ad680.add ((x6_1).toNat * 3)).off + 1, none⟩ = some (.int .i64 ((rd_T71 l0 x6_1).f1)) ∧ w'.cell? ⟨(ad680.add ((x6_1).toNat * 3)).block, (ad680.add ((x6_1).toNat * 3)).off + 2, none⟩ = some (.int .i64 ((rd_T71 l0 x6_1).f2)) ∧ w'.cell? (ad681.add ((x7_1).toNat * 3)) = some (.int .i64 ((rd_T71 l1 x7_1).f0)) ∧ w'.cell? ⟨(ad681.add ((x7_1).toNat * 3)).block, (ad681.add ((x7_1).toNat * 3)).off + 1, none⟩ = some (.int .i64 ((rd_T71 l1 x7_1).f1)) ∧ w'.cell? ⟨(ad681.add ((x7_1).toNat * 3)).block, (ad681.add ((x7_1).toNat * 3)).off + 2, none⟩ = some (.int .i64 ((rd_T71 l1 x7_1).f2))) (ds := []) zq5_0 (by kernel_rfl) rfl rfl ⟨((HB.out.cell (z5e w _ hw680_0)).trans hw680_0), ((HB.out.cell (z5e w _ hw680_1)).trans hw680_1), ((HB.out.cell (z5e w _ hw680_2)).trans hw680_2), ((HB.out.cell (z5e w _ hw681_0)).trans hw681_0), ((HB.out.cell (z5e w _ hw681_1)).trans hw681_1), ((HB.out.cell (z5e w _ hw681_2)).trans hw681_2)⟩ (fun hHeld => ?_); refine with_tabW y_g.tab5 y_g.bits5 (fun HT_ HW_ => ?_)
             generalize wc.drew = w21 at HO_5 HB hx680_0 hx680_1 hx680_2 hx681_0 hx681_1 hx681_2 hHeld ⊢
             refine pure_ (i := 0) (N := some 19) (v := ?_) (a' := ?_) zq5_1 rfl rfl (any_of HT_.out (by kernel_rfl)) (fun _ _ _ h => h) (Or.inl ⟨by rfl, ?_⟩) ?_ ?_
             rotate_left
             ·intro w'
              go_simp
              with_reducible rfl
             rotate_left
             ·simp only [Act.put, zp5a, zp5b, zp5c, i64_w, i32_w]
              rfl
             refine pure_ (i := 1) (N := some 20) (v := ?_) (a' := ?_) zq5_2 rfl rfl (any_of HT_.out (by kernel_rfl)) (fun _ _ _ h => h) (Or.inl ⟨by rfl, ?_⟩) ?_ ?_
             rotate_left
             ·intro w'
              go_simp
              with_reducible rfl
             rotate_left
             ·simp only [Act.put, zp5a, zp5b, zp5c, i64_w, i32_w]
              rfl
             refine pure_ (i := 2) (N := some 21) (v := ?_) (a' := ?_) zq5_3 rfl rfl (any_of HT_.out (by kernel_rfl)) (fun _ _ _ h => h) (Or.inl ⟨by rfl, ?_⟩) ?_ ?_
             rotate_left
             ·intro w'
              go_simp
              with_reducible rfl
             rotate_left
             ·simp only [Act.put, zp5a, zp5b, zp5c, i64_w, i32_w]
              rfl
             refine pure_ (i := 3) (N := some 22) (v := ?_) (a' := ?_) zq5_4 rfl rfl (any_of HT_.out (by kernel_rfl)) (fun _ _ _ h => h) (Or.inl ⟨by rfl, ?_⟩) ?_ ?_
             rotate_left
             ·intro w'
              go_simp
              with_reducible rfl
             rotate_left
             ·simp only [Act.put, zp5a, zp5b, zp5c, i64_w, i32_w]
              rfl
             refine pure_ (i := 4) (N := some 23) (v := ?_) (a' := ?_) zq5_5 rfl rfl (any_of HT_.out (by kernel_rfl)) (fun _ _ _ h => h) (Or.inl ⟨by rfl, ?_⟩) ?_ ?_
             rotate_left
             ·intro w'
              go_simp
              with_reducible rfl
             rotate_left
             ·simp only [Act.put, zp5a, zp5b, zp5c, i64_w, i32_w]
              rfl
             refine pure_ (i := 5) (N := some 24) (v := ?_) (a' := ?_) zq5_6 rfl rfl (any_of HT_.out (by kernel_rfl)) (fun _ _ _ h => h) (Or.inl ⟨by rfl, ?_⟩) ?_ ?_
             rotate_left
             ·intro w'
              go_simp
              with_reducible rfl
             rotate_left
             ·simp only [Act.put, zp5a, zp5b, zp5c, i64_w, i32_w]
              rfl
             refine pure_ (i := 6) (N := some 25) (v := ?_) (a' := ?_) zq5_7 rfl rfl (any_of HT_.out (by kernel_rfl)) (fun _ _ _ h => h) (Or.inl ⟨by rfl, ?_⟩) ?_ ?_
             rotate_left
             ·intro w'
              go_simp
              with_reducible rfl
             rotate_left
             ·simp only [Act.put, zp5a, zp5b, zp5c, i64_w, i32_w]
              rfl
             refine pure_ (i := 7) (N := some 26) (v := ?_) (a' := ?_) zq5_8 rfl rfl (any_of HT_.out (by kernel_rfl)) (fun _ _ _ h => h) (Or.inl ⟨by rfl, ?_⟩) ?_ ?_
             rotate_left
             ·intro w'
              go_simp
              with_reducible rfl
             rotate_left
             ·simp only [Act.put, zp5a, zp5b, zp5c, i64_w, i32_w]
              rfl
             refine pure_ (i := 8) (N := some 27) (v := ?_) (a' := ?_) zq5_9 rfl rfl (any_of HT_.out (by kernel_rfl)) (fun _ _ _ h => h) (Or.inl ⟨by rfl, ?_⟩) ?_ ?_
             rotate_left
             ·intro w'
              go_simp
              with_reducible rfl
             rotate_left
             ·simp only [Act.put, zp5a, zp5b, zp5c, i64_w, i32_w]
              rfl
             refine pure_ (i := 9) (N := some 28) (v := ?_) (a' := ?_) zq5_10 rfl rfl (any_of HT_.out (by kernel_rfl)) (fun _ _ _ h => h) (Or.inl ⟨by rfl, ?_⟩) ?_ ?_
             rotate_left
             ·intro w'
              go_simp
              with_reducible rfl
             rotate_left
             ·simp only [Act.put, zp5a, zp5b, zp5c, i64_w, i32_w]
              rfl
             refine pure_ (i := 10) (N := some 29) (v := ?_) (a' := ?_) zq5_11 rfl rfl (any_of HT_.out (by kernel_rfl)) (fun _ _ _ h => h) (Or.inl ⟨by rfl, ?_⟩) ?_ ?_
             rotate_left
             ·intro w'
              go_simp
              with_reducible rfl
             rotate_left
             ·simp only [Act.put, zp5a, zp5b, zp5c, i64_w, i32_w]
              rfl
             refine pure_ (i := 11) (N := some 30) (v := ?_) (a' := ?_) zq5_12 rfl rfl (any_of HT_.out (by kernel_rfl)) (fun _ _ _ h => h) (Or.inl ⟨by rfl, ?_⟩) ?_ ?_
             rotate_left
             ·intro w'
              go_simp
              with_reducible rfl
             rotate_left
             ·simp only [Act.put, zp5a, zp5b, zp5c, i64_w, i32_w]
              rfl
             refine pure_ (i := 12) (N := some 31) (v := ?_) (a' := ?_) zq5_13 rfl rfl (any_of HT_.out (by kernel_rfl)) (fun _ _ _ h => h) (Or.inl ⟨by rfl, ?_⟩) ?_ ?_
             rotate_left
             ·intro w'
              go_simp
              with_reducible rfl
             rotate_left
             ·simp only [Act.put, zp5a, zp5b, zp5c, i64_w, i32_w]
              rfl
             refine pure_ (i := 14) (N := some 33) (v := ?_) (a' := ?_) #[zt5,zt5,zt5,zt5,zt5,zt5,zt5,zt5,zt5,zt5,zt5,zt5,zt5,zf5,zt5,zf5,zf5,zf5,zf5,zf5,zf5,zf5] rfl rfl (any_of HT_.out (by kernel_rfl)) (fun _ _ _ h => h) (Or.inl ⟨by rfl, ?_⟩) ?_ ?_
             rotate_left
             ·intro w'
              go_simp
              with_reducible rfl
             rotate_left
             ·simp only [Act.put, zp5a, zp5b, zp5c, i64_w, i32_w]
              rfl
             refine pure_ (i := 15) (N := some 34) (v := ?_) (a' := ?_) #[zt5,zt5,zt5,zt5,zt5,zt5,zt5,zt5,zt5,zt5,zt5,zt5,zt5,zf5,zt5,zt5,zf5,zf5,zf5,zf5,zf5,zf5] rfl rfl (any_of HT_.out (by kernel_rfl)) (fun _ _ _ h => h) (Or.inl ⟨by rfl, ?_⟩) ?_ ?_
             rotate_left
             ·intro w'
              go_simp
              with_reducible rfl
             rotate_left
             ·simp only [Act.put, zp5a, zp5b, zp5c, i64_w, i32_w]
              rfl
             refine pure_ (i := 16) (N := some 35) (v := ?_) (a' := ?_) #[zt5,zt5,zt5,zt5,zt5,zt5,zt5,zt5,zt5,zt5,zt5,zt5,zt5,zf5,zt5,zt5,zt5,zf5,zf5,zf5,zf5,zf5] rfl rfl (any_of HT_.out (by kernel_rfl)) (fun _ _ _ h => h) (Or.inl ⟨by rfl, ?_⟩) ?_ ?_
             rotate_left
             ·intro w'
              go_simp
              with_reducible rfl
             rotate_left
             ·simp only [Act.put, zp5a, zp5b, zp5c, i64_w, i32_w]
              rfl
             refine take_ (i := 13) (N := some 32) (v := ?_) (a' := ?_) zq5_14 rfl rfl (take_ofW HT_.out HW_.out (by kernel_rfl)) (fun _ _ _ h => h) (Or.inl ⟨by rfl, ?_⟩) hHeld ?_ ?_
             rotate_left
             ·rintro w' ⟨s0, s1, s2, s3, s4, s5⟩
              go_simp
              with_reducible rfl
             rotate_left
             ·simp only [Act.put, zp5a, zp5b, zp5c, i64_w, i32_w]
              rfl
             refine take_ (i := 17) (N := some 36) (v := ?_) (a' := ?_) zq5_15 rfl rfl (take_ofW HT_.out HW_.out (by kernel_rfl)) (fun _ _ _ h => h) (Or.inl ⟨by rfl, ?_⟩) hHeld ?_ ?_
             rotate_left
             ·rintro w' ⟨s0, s1, s2, s3, s4, s5⟩
              go_simp
              with_reducible rfl
             rotate_left
             ·simp only [Act.put, zp5a, zp5b, zp5c, i64_w, i32_w]
              rfl
             refine one_ (i := 18) (N := some 37) zq5_16 rfl rfl (one_of HT_.out (by kernel_rfl)) (by decide) (fun K hK => ?_)
             refine goes_ Try.func116 (by kernel_rfl) rfl #[.agg #[.int .i64 ((rd_T71 l0 x6_1).f0), .int .i64 ((rd_T71 l0 x6_1).f1), .int .i64 ((rd_T71 l0 x6_1).f2)], .agg #[.int .i64 ((rd_T71 l1 x7_1).f0), .int .i64 ((rd_T71 l1 x7_1).f1), .int .i64 ((rd_T71 l1 x7_1).f2)]] (by rfl) rfl rfl (by (try simp only [List.map_toArray, List.map_cons, List.map_nil]); first | done | rfl | (simp only [List.length_drop, List.length_take]; rfl)) ?_
             with_reducible refine (y_l.calls kj4 ((rd_T71 l0 x6_1).f0) ((rd_T71 l0 x6_1).f1) ((rd_T71 l0 x6_1).f2) ((rd_T71 l1 x7_1).f0) ((rd_T71 l1 x7_1).f1) ((rd_T71 l1 x7_1).f2) t682 _ A18.out).mono ?_
             rintro e w22 ⟨rfl, hb⟩
             refine ⟨_, rfl, ?_⟩
             have n0_ := z5a (Kd.R_below (by (with_reducible repeat (first | apply Kd.R_alloc | apply Kd.R_drewN | apply Kd.R_drew)); exact HO_5.out) hb)
             have n1_ := z5a (below_step (by repeat (first | (with_reducible first | exact HB.out | apply z5d | apply z5b | apply z5c) | exact HB.out)) hb)
             clear HO_5
             clear HB
             have HO_5 := n0_
             have HB := n1_
             clear n0_ n1_
             (try clear hb)
             (try clear hb2)
             (try clear hk)
             (try clear hi)
             refine hK.out _ _ ⟨((HB.out.cell (z5e w _ hw680_0)).trans hw680_0), ((HB.out.cell (z5e w _ hw680_1)).trans hw680_1), ((HB.out.cell (z5e w _ hw680_2)).trans hw680_2), ((HB.out.cell (z5e w _ hw681_0)).trans hw681_0), ((HB.out.cell (z5e w _ hw681_1)).trans hw681_1), ((HB.out.cell (z5e w _ hw681_2)).trans hw681_2)⟩ (fun hHeld => ?_)
             clear hK K
             refine norm_ (a' := ?_) ?_ ?_
             rotate_left
             ·show Act.put _ (some 37) _ = _
              simp only [Act.put, zp5a, zp5b, zp5c, i64_w, i32_w]
              rfl
             refine pure_ (i := 19) (N := some 38) (v := ?_) (a' := ?_) zq5_17 rfl rfl (any_of HT_.out (by kernel_rfl)) (fun _ _ _ h => h) (Or.inl ⟨by rfl, ?_⟩) ?_ ?_
             rotate_left
             ·intro w'
              go_simp
              with_reducible rfl
             rotate_left
             ·simp only [Act.put, zp5a, zp5b, zp5c, i64_w, i32_w]
              rfl
             refine pure_ (i := 20) (N := some 39) (v := ?_) (a' := ?_) zq5_18 rfl rfl (any_of HT_.out (by kernel_rfl)) (fun _ _ _ h => h) (Or.inl ⟨by rfl, ?_⟩) ?_ ?_
             rotate_left
             ·intro w'
              go_simp
              with_reducible rfl
             rotate_left
             ·simp only [Act.put, zp5a, zp5b, zp5c, i64_w, i32_w]
              rfl
             refine pure_ (i := 21) (N := some 40) (v := ?_) (a' := ?_) zq5_19 rfl rfl (any_of HT_.out (by kernel_rfl)) (fun _ _ _ h => h) (Or.inl ⟨by rfl, ?_⟩) ?_ ?_
             rotate_left
             ·intro w'
              go_simp
              with_reducible rfl
             rotate_left
             ·simp only [Act.put, zp5a, zp5b, zp5c, i64_w, i32_w]
              rfl
             refine done_ (done_of HT_.out (by kernel_rfl)) ?_
             have p683 : 0 ≤ (x6_1 : Int) := z5f (by first | (with_reducible assumption) | assumption)
             have q683 : x6_1 < (l0.length : Int) := z5f (by first | (with_reducible assumption) | assumption)
             obtain ⟨ad683, e683, hx683_0, hx683_1, hx683_2⟩ := at_T71 HR0.out x6_1 p683 q683
             obtain rfl : ad680 = ad683 := (by injection e683)
             replace hx683_0 := (HB.out.cell (z5e w _ hx683_0)).trans hx683_0
             replace hx683_1 := (HB.out.cell (z5e w _ hx683_1)).trans hx683_1
             replace hx683_2 := (HB.out.cell (z5e w _ hx683_2)).trans hx683_2
             replace p683 := eq_true p683
             replace q683 := eq_true q683
             try go_wp2_with (first | ((with_reducible refine gate_builtin (b := .append) (xs := #[.tmp 41, .tmp 46]) rfl ?_); (try (refine gate_guard (by rfl) ?_; dsimp only)); at_builtin; refine Kd.R_append k71 (w0 := w) w.heap.size rfl (.tmp 41) (.tmp 46) 24 71 (.agg #[(.int .i64 0), (.int .i64 0), (.int .i64 0)]) 24 rfl Try.underlying24 info71 rfl (by decide) (by omega) u5 x5_1 (⟨(rd_T71 l0 x6_1).f0, (rd_T71 l0 x6_1).f1, (rd_T71 l0 x6_1).f2⟩ : S71) [.int .i64 ((rd_T71 l0 x6_1).f0), .int .i64 ((rd_T71 l0 x6_1).f1), .int .i64 ((rd_T71 l0 x6_1).f2)] (fun _ => True) (fun _ => False) rfl rfl ?aP (fun _ hk => hk.elim) ?aF ?aO ?aB ?aS ?aL ?_; (case aP => exact k71_mkM _ _ _ (⟨(rd_T71 l0 x6_1).f0, (rd_T71 l0 x6_1).f1, (rd_T71 l0 x6_1).f2⟩ : S71)); (case aB => exact (by repeat (first | (with_reducible first | exact HB.out | apply z5d | apply z5b | apply z5c) | exact HB.out))); (case aF => exact (fun _ _ => trivial)); (case aO => exact (by (with_reducible repeat (first | apply Kd.R_alloc | apply Kd.R_drewN | apply Kd.R_drew)); exact HO_5.out)); (case aS => exact (below_size (by repeat (first | (with_reducible first | exact HB.out | apply z5d | apply z5b | apply z5c) | exact HB.out)))); (case aL => have := LMc20.out; omega); intro v685 w23 ho hb hg hat; rw [← Ny684.out] at ho; have n0_ := z5a (hb); have n1_ := z5a (ho); clear HB; clear HO_5; have HB := n0_; have HO686 := n1_; clear n0_ n1_; clear ho hb hg hat))
             go_roundg kj4
             case measure => have := HK1.out; have := HJ4.out; omega
             case rel => exact ⟨(y684), (wrap64 (x6_1 + 1)), (x7_1), (by first | rfl | (simp; done) | (simp [*]; done)), (by first | rfl | (simp; done) | (simp [*]; done)), H', ⟨by have := HK1.out; have := HJ4.out; omega⟩, ⟨by (with_reducible repeat (first | apply Kd.R_alloc | apply Kd.R_drewN | apply Kd.R_drew)); exact HO686.out⟩, ⟨by repeat (first | (with_reducible first | exact HB.out | apply z5d | apply z5b | apply z5c) | exact HB.out)⟩⟩
            ·rw [if_neg c20] at H
             exact absurd H (by simp)
           ·rw [if_neg c19] at H
            have c19b0 : decide (t682 ≤ 0) = false := decide_eq_false c19
            clear c19
            by_cases c24 : x5_1.length < 5864062014805
            ·rw [if_pos c24] at H
             have LMc24 := z5a c24
             clear c24
             obtain ⟨y688, hy688⟩ : ∃ y_ : List (S71), y_ = (x5_1 ++ [(⟨(rd_T71 l1 x7_1).f0, (rd_T71 l1 x7_1).f1, (rd_T71 l1 x7_1).f2⟩ : S71)]) := ⟨_, rfl⟩
             replace H : (y_g.l0 kj4 l0 l1 y688 x6_1 (wrap64 (x7_1 + 1))) = some r := by first | (rw [hy688]; with_reducible exact H) | (have H2_ := (Option.bind_some _ _).symm.trans H; rw [hy688]; with_reducible exact H2_) | (have H2_ := (Option.bind_some _ _).symm.trans H; with_reducible exact H2_) | with_reducible exact H | (rw [hy688]; exact H) | exact H
             have Ny688 := z5a hy688
             clear hy688
             have H' := z5a H
             clear H
             try go_wp2
             have n0_ := z5a (Kd.R_drew HO_5.out)
             have n1_ := z5a (z5c HB.out)
             clear HO_5
             clear HB
             have HO_5 := n0_
             have HB := n1_
             clear n0_ n1_
             have p680 : 0 ≤ (x6_1 : Int) := z5f (by first | (with_reducible assumption) | assumption)
             have q680 : x6_1 < (l0.length : Int) := z5f (by first | (with_reducible assumption) | assumption)
             obtain ⟨ad680, e680, hx680_0, hx680_1, hx680_2⟩ := at_T71 HR0.out x6_1 p680 q680
             have hw680_2 := hx680_2
             have hw680_1 := hx680_1
             have hw680_0 := hx680_0
             cases e680
             replace hx680_0 := (HB.out.cell (z5e w _ hx680_0)).trans hx680_0
             replace hx680_1 := (HB.out.cell (z5e w _ hx680_1)).trans hx680_1
             replace hx680_2 := (HB.out.cell (z5e w _ hx680_2)).trans hx680_2
             replace p680 := eq_true p680
             replace q680 := eq_true q680
             have p681 : 0 ≤ (x7_1 : Int) := z5f (by first | (with_reducible assumption) | assumption)
             have q681 : x7_1 < (l1.length : Int) := z5f (by first | (with_reducible assumption) | assumption)
             obtain ⟨ad681, e681, hx681_0, hx681_1, hx681_2⟩ := at_T71 HR1.out x7_1 p681 q681
             have hw681_2 := hx681_2
             have hw681_1 := hx681_1
             have hw681_0 := hx681_0
             cases e681
             replace hx681_0 := (HB.out.cell (z5e w _ hx681_0)).trans hx681_0
             replace hx681_1 := (HB.out.cell (z5e w _ hx681_1)).trans hx681_1
             replace hx681_2 := (HB.out.cell (z5e w _ hx681_2)).trans hx681_2
             replace p681 := eq_true p681
             replace q681 := eq_true q681
             refine start_ (n := 22) (S := fun w' => w'.cell? (ad680.add ((x6_1).toNat * 3)) = some (.int .i64 ((rd_T71 l0 x6_1).f0)) ∧ w'.cell? ⟨(ad680.add ((x6_1).toNat * 3)).block, (ad680.add ((x6_1).toNat * 3)).off + 1, none⟩ = some (.int .i64 ((rd_T71 l0 x6_1).f1)) ∧ w'.cell? ⟨(ad680.add ((x6_1).toNat * 3)).block, (ad680.add ((x6_1).toNat * 3)).off + 2, none⟩ = some (.int .i64 ((rd_T71 l0 x6_1).f2)) ∧ w'.cell? (ad681.add ((x7_1).toNat * 3)) = some (.int .i64 ((rd_T71 l1 x7_1).f0)) ∧ w'.cell? ⟨(ad681.add ((x7_1).toNat * 3)).block, (ad681.add ((x7_1).toNat * 3)).off + 1, none⟩ = some (.int .i64 ((rd_T71 l1 x7_1).f1)) ∧ w'.cell? ⟨(ad681.add ((x7_1).toNat * 3)).block, (ad681.add ((x7_1).toNat * 3)).off + 2, none⟩ = some (.int .i64 ((rd_T71 l1 x7_1).f2))) (ds := []) zq5_0 (by kernel_rfl) rfl rfl ⟨((HB.out.cell (z5e w _ hw680_0)).trans hw680_0), ((HB.out.cell (z5e w _ hw680_1)).trans hw680_1), ((HB.out.cell (z5e w _ hw680_2)).trans hw680_2), ((HB.out.cell (z5e w _ hw681_0)).trans hw681_0), ((HB.out.cell (z5e w _ hw681_1)).trans hw681_1), ((HB.out.cell (z5e w _ hw681_2)).trans hw681_2)⟩ (fun hHeld => ?_); refine with_tabW y_g.tab5 y_g.bits5 (fun HT_ HW_ => ?_)
             generalize wc.drew = w25 at HO_5 HB hx680_0 hx680_1 hx680_2 hx681_0 hx681_1 hx681_2 hHeld ⊢
             refine pure_ (i := 0) (N := some 19) (v := ?_) (a' := ?_) zq5_1 rfl rfl (any_of HT_.out (by kernel_rfl)) (fun _ _ _ h => h) (Or.inl ⟨by rfl, ?_⟩) ?_ ?_
             rotate_left
             ·intro w'
              go_simp
              with_reducible rfl
             rotate_left
             ·simp only [Act.put, zp5a, zp5b, zp5c, i64_w, i32_w]
              rfl
             refine pure_ (i := 1) (N := some 20) (v := ?_) (a' := ?_) zq5_2 rfl rfl (any_of HT_.out (by kernel_rfl)) (fun _ _ _ h => h) (Or.inl ⟨by rfl, ?_⟩) ?_ ?_
             rotate_left
             ·intro w'
              go_simp
              with_reducible rfl
             rotate_left
             ·simp only [Act.put, zp5a, zp5b, zp5c, i64_w, i32_w]
              rfl
             refine pure_ (i := 2) (N := some 21) (v := ?_) (a' := ?_) zq5_3 rfl rfl (any_of HT_.out (by kernel_rfl)) (fun _ _ _ h => h) (Or.inl ⟨by rfl, ?_⟩) ?_ ?_
             rotate_left
             ·intro w'
              go_simp
              with_reducible rfl
             rotate_left
             ·simp only [Act.put, zp5a, zp5b, zp5c, i64_w, i32_w]
              rfl
             refine pure_ (i := 3) (N := some 22) (v := ?_) (a' := ?_) zq5_4 rfl rfl (any_of HT_.out (by kernel_rfl)) (fun _ _ _ h => h) (Or.inl ⟨by rfl, ?_⟩) ?_ ?_
             rotate_left
             ·intro w'
              go_simp
              with_reducible rfl
             rotate_left
             ·simp only [Act.put, zp5a, zp5b, zp5c, i64_w, i32_w]
              rfl
             refine pure_ (i := 4) (N := some 23) (v := ?_) (a' := ?_) zq5_5 rfl rfl (any_of HT_.out (by kernel_rfl)) (fun _ _ _ h => h) (Or.inl ⟨by rfl, ?_⟩) ?_ ?_
             rotate_left
             ·intro w'
              go_simp
              with_reducible rfl
             rotate_left
             ·simp only [Act.put, zp5a, zp5b, zp5c, i64_w, i32_w]
              rfl
             refine pure_ (i := 5) (N := some 24) (v := ?_) (a' := ?_) zq5_6 rfl rfl (any_of HT_.out (by kernel_rfl)) (fun _ _ _ h => h) (Or.inl ⟨by rfl, ?_⟩) ?_ ?_
             rotate_left
             ·intro w'
              go_simp
              with_reducible rfl
             rotate_left
             ·simp only [Act.put, zp5a, zp5b, zp5c, i64_w, i32_w]
              rfl
             refine pure_ (i := 6) (N := some 25) (v := ?_) (a' := ?_) zq5_7 rfl rfl (any_of HT_.out (by kernel_rfl)) (fun _ _ _ h => h) (Or.inl ⟨by rfl, ?_⟩) ?_ ?_
             rotate_left
             ·intro w'
              go_simp
              with_reducible rfl
             rotate_left
             ·simp only [Act.put, zp5a, zp5b, zp5c, i64_w, i32_w]
              rfl
             refine pure_ (i := 7) (N := some 26) (v := ?_) (a' := ?_) zq5_8 rfl rfl (any_of HT_.out (by kernel_rfl)) (fun _ _ _ h => h) (Or.inl ⟨by rfl, ?_⟩) ?_ ?_
             rotate_left
             ·intro w'
              go_simp
              with_reducible rfl
             rotate_left
             ·simp only [Act.put, zp5a, zp5b, zp5c, i64_w, i32_w]
              rfl
             refine pure_ (i := 8) (N := some 27) (v := ?_) (a' := ?_) zq5_9 rfl rfl (any_of HT_.out (by kernel_rfl)) (fun _ _ _ h => h) (Or.inl ⟨by rfl, ?_⟩) ?_ ?_
             rotate_left
             ·intro w'
              go_simp
              with_reducible rfl
             rotate_left
             ·simp only [Act.put, zp5a, zp5b, zp5c, i64_w, i32_w]
              rfl
             refine pure_ (i := 9) (N := some 28) (v := ?_) (a' := ?_) zq5_10 rfl rfl (any_of HT_.out (by kernel_rfl)) (fun _ _ _ h => h) (Or.inl ⟨by rfl, ?_⟩) ?_ ?_
             rotate_left
             ·intro w'
              go_simp
              with_reducible rfl
             rotate_left
             ·simp only [Act.put, zp5a, zp5b, zp5c, i64_w, i32_w]
              rfl
             refine pure_ (i := 10) (N := some 29) (v := ?_) (a' := ?_) zq5_11 rfl rfl (any_of HT_.out (by kernel_rfl)) (fun _ _ _ h => h) (Or.inl ⟨by rfl, ?_⟩) ?_ ?_
             rotate_left
             ·intro w'
              go_simp
              with_reducible rfl
             rotate_left
             ·simp only [Act.put, zp5a, zp5b, zp5c, i64_w, i32_w]
              rfl
             refine pure_ (i := 11) (N := some 30) (v := ?_) (a' := ?_) zq5_12 rfl rfl (any_of HT_.out (by kernel_rfl)) (fun _ _ _ h => h) (Or.inl ⟨by rfl, ?_⟩) ?_ ?_
             rotate_left
             ·intro w'
              go_simp
              with_reducible rfl
             rotate_left
             ·simp only [Act.put, zp5a, zp5b, zp5c, i64_w, i32_w]
              rfl
             refine pure_ (i := 12) (N := some 31) (v := ?_) (a' := ?_) zq5_13 rfl rfl (any_of HT_.out (by kernel_rfl)) (fun _ _ _ h => h) (Or.inl ⟨by rfl, ?_⟩) ?_ ?_
             rotate_left
             ·intro w'
              go_simp
              with_reducible rfl
             rotate_left
             ·simp only [Act.put, zp5a, zp5b, zp5c, i64_w, i32_w]
              rfl
             refine pure_ (i := 14) (N := some 33) (v := ?_) (a' := ?_) #[zt5,zt5,zt5,zt5,zt5,zt5,zt5,zt5,zt5,zt5,zt5,zt5,zt5,zf5,zt5,zf5,zf5,zf5,zf5,zf5,zf5,zf5] rfl rfl (any_of HT_.out (by kernel_rfl)) (fun _ _ _ h => h) (Or.inl ⟨by rfl, ?_⟩) ?_ ?_
             rotate_left
             ·intro w'
              go_simp
              with_reducible rfl
             rotate_left
             ·simp only [Act.put, zp5a, zp5b, zp5c, i64_w, i32_w]
              rfl
             refine pure_ (i := 15) (N := some 34) (v := ?_) (a' := ?_) #[zt5,zt5,zt5,zt5,zt5,zt5,zt5,zt5,zt5,zt5,zt5,zt5,zt5,zf5,zt5,zt5,zf5,zf5,zf5,zf5,zf5,zf5] rfl rfl (any_of HT_.out (by kernel_rfl)) (fun _ _ _ h => h) (Or.inl ⟨by rfl, ?_⟩) ?_ ?_
             rotate_left
             ·intro w'
              go_simp
              with_reducible rfl
             rotate_left
             ·simp only [Act.put, zp5a, zp5b, zp5c, i64_w, i32_w]
              rfl
             refine pure_ (i := 16) (N := some 35) (v := ?_) (a' := ?_) #[zt5,zt5,zt5,zt5,zt5,zt5,zt5,zt5,zt5,zt5,zt5,zt5,zt5,zf5,zt5,zt5,zt5,zf5,zf5,zf5,zf5,zf5] rfl rfl (any_of HT_.out (by kernel_rfl)) (fun _ _ _ h => h) (Or.inl ⟨by rfl, ?_⟩) ?_ ?_
             rotate_left
             ·intro w'
              go_simp
              with_reducible rfl
             rotate_left
             ·simp only [Act.put, zp5a, zp5b, zp5c, i64_w, i32_w]
              rfl
             refine take_ (i := 13) (N := some 32) (v := ?_) (a' := ?_) zq5_14 rfl rfl (take_ofW HT_.out HW_.out (by kernel_rfl)) (fun _ _ _ h => h) (Or.inl ⟨by rfl, ?_⟩) hHeld ?_ ?_
             rotate_left
             ·rintro w' ⟨s0, s1, s2, s3, s4, s5⟩
              go_simp
              with_reducible rfl
             rotate_left
             ·simp only [Act.put, zp5a, zp5b, zp5c, i64_w, i32_w]
              rfl
             refine take_ (i := 17) (N := some 36) (v := ?_) (a' := ?_) zq5_15 rfl rfl (take_ofW HT_.out HW_.out (by kernel_rfl)) (fun _ _ _ h => h) (Or.inl ⟨by rfl, ?_⟩) hHeld ?_ ?_
             rotate_left
             ·rintro w' ⟨s0, s1, s2, s3, s4, s5⟩
              go_simp
              with_reducible rfl
             rotate_left
             ·simp only [Act.put, zp5a, zp5b, zp5c, i64_w, i32_w]
              rfl
             refine one_ (i := 18) (N := some 37) zq5_16 rfl rfl (one_of HT_.out (by kernel_rfl)) (by decide) (fun K hK => ?_)
             refine goes_ Try.func116 (by kernel_rfl) rfl #[.agg #[.int .i64 ((rd_T71 l0 x6_1).f0), .int .i64 ((rd_T71 l0 x6_1).f1), .int .i64 ((rd_T71 l0 x6_1).f2)], .agg #[.int .i64 ((rd_T71 l1 x7_1).f0), .int .i64 ((rd_T71 l1 x7_1).f1), .int .i64 ((rd_T71 l1 x7_1).f2)]] (by rfl) rfl rfl (by (try simp only [List.map_toArray, List.map_cons, List.map_nil]); first | done | rfl | (simp only [List.length_drop, List.length_take]; rfl)) ?_
             with_reducible refine (y_l.calls kj4 ((rd_T71 l0 x6_1).f0) ((rd_T71 l0 x6_1).f1) ((rd_T71 l0 x6_1).f2) ((rd_T71 l1 x7_1).f0) ((rd_T71 l1 x7_1).f1) ((rd_T71 l1 x7_1).f2) t682 _ A18.out).mono ?_
             rintro e w26 ⟨rfl, hb⟩
             refine ⟨_, rfl, ?_⟩
             have n0_ := z5a (Kd.R_below (by (with_reducible repeat (first | apply Kd.R_alloc | apply Kd.R_drewN | apply Kd.R_drew)); exact HO_5.out) hb)
             have n1_ := z5a (below_step (by repeat (first | (with_reducible first | exact HB.out | apply z5d | apply z5b | apply z5c) | exact HB.out)) hb)
             clear HO_5
             clear HB
             have HO_5 := n0_
             have HB := n1_
             clear n0_ n1_
             (try clear hb)
             (try clear hb2)
             (try clear hk)
             (try clear hi)
             refine hK.out _ _ ⟨((HB.out.cell (z5e w _ hw680_0)).trans hw680_0), ((HB.out.cell (z5e w _ hw680_1)).trans hw680_1), ((HB.out.cell (z5e w _ hw680_2)).trans hw680_2), ((HB.out.cell (z5e w _ hw681_0)).trans hw681_0), ((HB.out.cell (z5e w _ hw681_1)).trans hw681_1), ((HB.out.cell (z5e w _ hw681_2)).trans hw681_2)⟩ (fun hHeld => ?_)
             clear hK K
             refine norm_ (a' := ?_) ?_ ?_
             rotate_left
             ·show Act.put _ (some 37) _ = _
              simp only [Act.put, zp5a, zp5b, zp5c, i64_w, i32_w]
              rfl
             refine pure_ (i := 19) (N := some 38) (v := ?_) (a' := ?_) zq5_17 rfl rfl (any_of HT_.out (by kernel_rfl)) (fun _ _ _ h => h) (Or.inl ⟨by rfl, ?_⟩) ?_ ?_
             rotate_left
             ·intro w'
              go_simp
              with_reducible rfl
             rotate_left
             ·simp only [Act.put, zp5a, zp5b, zp5c, i64_w, i32_w]
              rfl
             refine pure_ (i := 20) (N := some 39) (v := ?_) (a' := ?_) zq5_18 rfl rfl (any_of HT_.out (by kernel_rfl)) (fun _ _ _ h => h) (Or.inl ⟨by rfl, ?_⟩) ?_ ?_
             rotate_left
             ·intro w'
              go_simp
              with_reducible rfl
             rotate_left
             ·simp only [Act.put, zp5a, zp5b, zp5c, i64_w, i32_w]
              rfl
             refine pure_ (i := 21) (N := some 40) (v := ?_) (a' := ?_) zq5_19 rfl rfl (any_of HT_.out (by kernel_rfl)) (fun _ _ _ h => h) (Or.inl ⟨by rfl, ?_⟩) ?_ ?_
             rotate_left
             ·intro w'
              go_simp
              with_reducible rfl
             rotate_left
             ·simp only [Act.put, zp5a, zp5b, zp5c, i64_w, i32_w]
              rfl
             refine done_ (done_of HT_.out (by kernel_rfl)) ?_
             have p687 : 0 ≤ (x7_1 : Int) := z5f (by first | (with_reducible assumption) | assumption)
             have q687 : x7_1 < (l1.length : Int) := z5f (by first | (with_reducible assumption) | assumption)
             obtain ⟨ad687, e687, hx687_0, hx687_1, hx687_2⟩ := at_T71 HR1.out x7_1 p687 q687
             obtain rfl : ad681 = ad687 := (by injection e687)
             replace hx687_0 := (HB.out.cell (z5e w _ hx687_0)).trans hx687_0
             replace hx687_1 := (HB.out.cell (z5e w _ hx687_1)).trans hx687_1
             replace hx687_2 := (HB.out.cell (z5e w _ hx687_2)).trans hx687_2
             replace p687 := eq_true p687
             replace q687 := eq_true q687
             try go_wp2_with (first | ((with_reducible refine gate_builtin (b := .append) (xs := #[.tmp 50, .tmp 55]) rfl ?_); (try (refine gate_guard (by rfl) ?_; dsimp only)); at_builtin; refine Kd.R_append k71 (w0 := w) w.heap.size rfl (.tmp 50) (.tmp 55) 24 71 (.agg #[(.int .i64 0), (.int .i64 0), (.int .i64 0)]) 24 rfl Try.underlying24 info71 rfl (by decide) (by omega) u5 x5_1 (⟨(rd_T71 l1 x7_1).f0, (rd_T71 l1 x7_1).f1, (rd_T71 l1 x7_1).f2⟩ : S71) [.int .i64 ((rd_T71 l1 x7_1).f0), .int .i64 ((rd_T71 l1 x7_1).f1), .int .i64 ((rd_T71 l1 x7_1).f2)] (fun _ => True) (fun _ => False) rfl rfl ?aP (fun _ hk => hk.elim) ?aF ?aO ?aB ?aS ?aL ?_; (case aP => exact k71_mkM _ _ _ (⟨(rd_T71 l1 x7_1).f0, (rd_T71 l1 x7_1).f1, (rd_T71 l1 x7_1).f2⟩ : S71)); (case aB => exact (by repeat (first | (with_reducible first | exact HB.out | apply z5d | apply z5b | apply z5c) | exact HB.out))); (case aF => exact (fun _ _ => trivial)); (case aO => exact (by (with_reducible repeat (first | apply Kd.R_alloc | apply Kd.R_drewN | apply Kd.R_drew)); exact HO_5.out)); (case aS => exact (below_size (by repeat (first | (with_reducible first | exact HB.out | apply z5d | apply z5b | apply z5c) | exact HB.out)))); (case aL => have := LMc24.out; omega); intro v689 w27 ho hb hg hat; rw [← Ny688.out] at ho; have n0_ := z5a (hb); have n1_ := z5a (ho); clear HB; clear HO_5; have HB := n0_; have HO690 := n1_; clear n0_ n1_; clear ho hb hg hat))
             go_roundg kj4
             case measure => have := HK1.out; have := HJ4.out; omega
             case rel => exact ⟨(y688), (x6_1), (wrap64 (x7_1 + 1)), (by first | rfl | (simp; done) | (simp [*]; done)), (by first | rfl | (simp; done) | (simp [*]; done)), H', ⟨by have := HK1.out; have := HJ4.out; omega⟩, ⟨by (with_reducible repeat (first | apply Kd.R_alloc | apply Kd.R_drewN | apply Kd.R_drew)); exact HO690.out⟩, ⟨by repeat (first | (with_reducible first | exact HB.out | apply z5d | apply z5b | apply z5c) | exact HB.out)⟩⟩
            ·rw [if_neg c24] at H
             exact absurd H (by simp)
          ·rw [if_neg c17] at H
           exact absurd H (by simp)
         ·rw [if_neg c16] at H
          exact absurd H (by simp)
        ·rw [if_neg c15] at H
         exact absurd H (by simp)
       ·rw [if_neg c14] at H
        have c14b0 : decide (x6_1 < (l0.length : Int)) = false := decide_eq_false c14
        clear c14
        by_cases c28 : 0 ≤ x7_1
        ·rw [if_pos c28] at H
         have c28b0 : decide (0 ≤ x7_1) = true := decide_eq_true c28
         clear c28
         by_cases c29 : x7_1 < (l1.length : Int)
         ·rw [if_pos c29] at H
          have c29b0 : decide (x7_1 < (l1.length : Int)) = true := decide_eq_true c29
          clear c29
          by_cases c30 : x5_1.length < 5864062014805
          ·rw [if_pos c30] at H
           have LMc30 := z5a c30
           clear c30
           obtain ⟨y692, hy692⟩ : ∃ y_ : List (S71), y_ = (x5_1 ++ [(⟨(rd_T71 l1 x7_1).f0, (rd_T71 l1 x7_1).f1, (rd_T71 l1 x7_1).f2⟩ : S71)]) := ⟨_, rfl⟩
           replace H : (y_g.l0 kj4 l0 l1 y692 x6_1 (wrap64 (x7_1 + 1))) = some r := by first | (rw [hy692]; with_reducible exact H) | (have H2_ := (Option.bind_some _ _).symm.trans H; rw [hy692]; with_reducible exact H2_) | (have H2_ := (Option.bind_some _ _).symm.trans H; with_reducible exact H2_) | with_reducible exact H | (rw [hy692]; exact H) | exact H
           have Ny692 := z5a hy692
           clear hy692
           have H' := z5a H
           clear H
           try go_wp2
           have n0_ := z5a (Kd.R_drew HO_5.out)
           have n1_ := z5a (z5c HB.out)
           clear HO_5
           clear HB
           have HO_5 := n0_
           have HB := n1_
           clear n0_ n1_
           refine start_ (n := 22) (S := fun w' => True) (ds := []) zq5_0 (by kernel_rfl) rfl rfl trivial (fun hHeld => ?_); refine with_tabW y_g.tab5 y_g.bits5 (fun HT_ HW_ => ?_)
           generalize wc.drew = w31 at HO_5 HB hHeld ⊢
           refine pure_ (i := 0) (N := some 19) (v := ?_) (a' := ?_) zq5_1 rfl rfl (any_of HT_.out (by kernel_rfl)) (fun _ _ _ h => h) (Or.inl ⟨by rfl, ?_⟩) ?_ ?_
           rotate_left
           ·intro w'
            go_simp
            with_reducible rfl
           rotate_left
           ·simp only [Act.put, zp5a, zp5b, zp5c, i64_w, i32_w]
            rfl
           refine pure_ (i := 1) (N := some 20) (v := ?_) (a' := ?_) zq5_2 rfl rfl (any_of HT_.out (by kernel_rfl)) (fun _ _ _ h => h) (Or.inl ⟨by rfl, ?_⟩) ?_ ?_
           rotate_left
           ·intro w'
            go_simp
            with_reducible rfl
           rotate_left
           ·simp only [Act.put, zp5a, zp5b, zp5c, i64_w, i32_w]
            rfl
           refine pure_ (i := 2) (N := some 21) (v := ?_) (a' := ?_) zq5_3 rfl rfl (any_of HT_.out (by kernel_rfl)) (fun _ _ _ h => h) (Or.inl ⟨by rfl, ?_⟩) ?_ ?_
           rotate_left
           ·intro w'
            go_simp
            with_reducible rfl
           rotate_left
           ·simp only [Act.put, zp5a, zp5b, zp5c, i64_w, i32_w]
            rfl
           refine pure_ (i := 3) (N := some 22) (v := ?_) (a' := ?_) zq5_4 rfl rfl (any_of HT_.out (by kernel_rfl)) (fun _ _ _ h => h) (Or.inl ⟨by rfl, ?_⟩) ?_ ?_
           rotate_left
           ·intro w'
            go_simp
            with_reducible rfl
           rotate_left
           ·simp only [Act.put, zp5a, zp5b, zp5c, i64_w, i32_w]
            rfl
           refine pure_ (i := 4) (N := some 23) (v := ?_) (a' := ?_) zq5_5 rfl rfl (any_of HT_.out (by kernel_rfl)) (fun _ _ _ h => h) (Or.inl ⟨by rfl, ?_⟩) ?_ ?_
           rotate_left
           ·intro w'
            go_simp
            with_reducible rfl
           rotate_left
           ·simp only [Act.put, zp5a, zp5b, zp5c, i64_w, i32_w]
            rfl
           refine pure_ (i := 5) (N := some 24) (v := ?_) (a' := ?_) zq5_6 rfl rfl (any_of HT_.out (by kernel_rfl)) (fun _ _ _ h => h) (Or.inl ⟨by rfl, ?_⟩) ?_ ?_
           rotate_left
           ·intro w'
            go_simp
            with_reducible rfl
           rotate_left
           ·simp only [Act.put, zp5a, zp5b, zp5c, i64_w, i32_w]
            rfl
           refine pure_ (i := 6) (N := some 25) (v := ?_) (a' := ?_) zq5_7 rfl rfl (any_of HT_.out (by kernel_rfl)) (fun _ _ _ h => h) (Or.inl ⟨by rfl, ?_⟩) ?_ ?_
           rotate_left
           ·intro w'
            go_simp
            with_reducible rfl
           rotate_left
           ·simp only [Act.put, zp5a, zp5b, zp5c, i64_w, i32_w]
            rfl
           refine pure_ (i := 7) (N := some 26) (v := ?_) (a' := ?_) zq5_8 rfl rfl (any_of HT_.out (by kernel_rfl)) (fun _ _ _ h => h) (Or.inl ⟨by rfl, ?_⟩) ?_ ?_
           rotate_left
           ·intro w'
            go_simp
            with_reducible rfl
           rotate_left
           ·simp only [Act.put, zp5a, zp5b, zp5c, i64_w, i32_w]
            rfl
           refine pure_ (i := 8) (N := some 27) (v := ?_) (a' := ?_) zq5_9 rfl rfl (any_of HT_.out (by kernel_rfl)) (fun _ _ _ h => h) (Or.inl ⟨by rfl, ?_⟩) ?_ ?_
           rotate_left
           ·intro w'
            go_simp
            with_reducible rfl
           rotate_left
           ·simp only [Act.put, zp5a, zp5b, zp5c, i64_w, i32_w]
            rfl
           refine pure_ (i := 9) (N := some 28) (v := ?_) (a' := ?_) zq5_10 rfl rfl (any_of HT_.out (by kernel_rfl)) (fun _ _ _ h => h) (Or.inl ⟨by rfl, ?_⟩) ?_ ?_
           rotate_left
           ·intro w'
            go_simp
            with_reducible rfl
           rotate_left
           ·simp only [Act.put, zp5a, zp5b, zp5c, i64_w, i32_w]
            rfl
           refine pure_ (i := 10) (N := some 29) (v := undef) (a' := ?_) zq5_11 rfl rfl (any_of HT_.out (by kernel_rfl)) (fun _ _ _ h => h) (Or.inr ⟨by rfl, rfl⟩) ?_ ?_
           rotate_left
           ·simp only [Act.put, zp5a, zp5b, zp5c, i64_w, i32_w]
            rfl
           refine pure_ (i := 11) (N := some 30) (v := undef) (a' := ?_) zq5_12 rfl rfl (any_of HT_.out (by kernel_rfl)) (fun _ _ _ h => h) (Or.inr ⟨by rfl, rfl⟩) ?_ ?_
           rotate_left
           ·simp only [Act.put, zp5a, zp5b, zp5c, i64_w, i32_w]
            rfl
           refine pure_ (i := 12) (N := some 31) (v := undef) (a' := ?_) zq5_13 rfl rfl (any_of HT_.out (by kernel_rfl)) (fun _ _ _ h => h) (Or.inr ⟨by rfl, rfl⟩) ?_ ?_
           rotate_left
           ·simp only [Act.put, zp5a, zp5b, zp5c, i64_w, i32_w]
            rfl
           refine pure_ (i := 13) (N := some 32) (v := undef) (a' := ?_) #[zt5,zt5,zt5,zt5,zt5,zt5,zt5,zt5,zt5,zt5,zt5,zt5,zt5,zt5,zf5,zf5,zf5,zf5,zf5,zf5,zf5,zf5] rfl rfl (any_of HT_.out (by kernel_rfl)) (fun _ _ _ h => h) (Or.inr ⟨by rfl, rfl⟩) ?_ ?_
           rotate_left
           ·simp only [Act.put, zp5a, zp5b, zp5c, i64_w, i32_w]
            rfl
           refine pure_ (i := 14) (N := some 33) (v := undef) (a' := ?_) #[zt5,zt5,zt5,zt5,zt5,zt5,zt5,zt5,zt5,zt5,zt5,zt5,zt5,zt5,zt5,zf5,zf5,zf5,zf5,zf5,zf5,zf5] rfl rfl (any_of HT_.out (by kernel_rfl)) (fun _ _ _ h => h) (Or.inr ⟨by rfl, rfl⟩) ?_ ?_
           rotate_left
           ·simp only [Act.put, zp5a, zp5b, zp5c, i64_w, i32_w]
            rfl
           refine pure_ (i := 15) (N := some 34) (v := undef) (a' := ?_) #[zt5,zt5,zt5,zt5,zt5,zt5,zt5,zt5,zt5,zt5,zt5,zt5,zt5,zt5,zt5,zt5,zf5,zf5,zf5,zf5,zf5,zf5] rfl rfl (any_of HT_.out (by kernel_rfl)) (fun _ _ _ h => h) (Or.inr ⟨by rfl, rfl⟩) ?_ ?_
           rotate_left
           ·simp only [Act.put, zp5a, zp5b, zp5c, i64_w, i32_w]
            rfl
           refine pure_ (i := 16) (N := some 35) (v := undef) (a' := ?_) zq5_14 rfl rfl (any_of HT_.out (by kernel_rfl)) (fun _ _ _ h => h) (Or.inr ⟨by rfl, rfl⟩) ?_ ?_
           rotate_left
           ·simp only [Act.put, zp5a, zp5b, zp5c, i64_w, i32_w]
            rfl
           refine pure_ (i := 17) (N := some 36) (v := undef) (a' := ?_) zq5_15 rfl rfl (any_of HT_.out (by kernel_rfl)) (fun _ _ _ h => h) (Or.inr ⟨by rfl, rfl⟩) ?_ ?_
           rotate_left
           ·simp only [Act.put, zp5a, zp5b, zp5c, i64_w, i32_w]
            rfl
           refine pure_ (i := 18) (N := some 37) (v := undef) (a' := ?_) zq5_16 rfl rfl (any_of HT_.out (by kernel_rfl)) (fun _ _ _ h => h) (Or.inr ⟨by rfl, rfl⟩) ?_ ?_
           rotate_left
           ·simp only [Act.put, zp5a, zp5b, zp5c, i64_w, i32_w]
            rfl
           refine pure_ (i := 19) (N := some 38) (v := undef) (a' := ?_) zq5_17 rfl rfl (any_of HT_.out (by kernel_rfl)) (fun _ _ _ h => h) (Or.inr ⟨by rfl, rfl⟩) ?_ ?_
           rotate_left
           ·simp only [Act.put, zp5a, zp5b, zp5c, i64_w, i32_w]
            rfl
           refine pure_ (i := 20) (N := some 39) (v := ?_) (a' := ?_) zq5_18 rfl rfl (any_of HT_.out (by kernel_rfl)) (fun _ _ _ h => h) (Or.inl ⟨by rfl, ?_⟩) ?_ ?_
           rotate_left
           ·intro w'
            go_simp
            with_reducible rfl
           rotate_left
           ·simp only [Act.put, zp5a, zp5b, zp5c, i64_w, i32_w]
            rfl
           refine pure_ (i := 21) (N := some 40) (v := ?_) (a' := ?_) zq5_19 rfl rfl (any_of HT_.out (by kernel_rfl)) (fun _ _ _ h => h) (Or.inl ⟨by rfl, ?_⟩) ?_ ?_
           rotate_left
           ·intro w'
            go_simp
            with_reducible rfl
           rotate_left
           ·simp only [Act.put, zp5a, zp5b, zp5c, i64_w, i32_w]
            rfl
           refine done_ (done_of HT_.out (by kernel_rfl)) ?_
           have p691 : 0 ≤ (x7_1 : Int) := z5f (by first | (with_reducible assumption) | assumption)
           have q691 : x7_1 < (l1.length : Int) := z5f (by first | (with_reducible assumption) | assumption)
           obtain ⟨ad691, e691, hx691_0, hx691_1, hx691_2⟩ := at_T71 HR1.out x7_1 p691 q691
           cases e691
           replace hx691_0 := (HB.out.cell (z5e w _ hx691_0)).trans hx691_0
           replace hx691_1 := (HB.out.cell (z5e w _ hx691_1)).trans hx691_1
           replace hx691_2 := (HB.out.cell (z5e w _ hx691_2)).trans hx691_2
           replace p691 := eq_true p691
           replace q691 := eq_true q691
           try go_wp2_with (first | ((with_reducible refine gate_builtin (b := .append) (xs := #[.tmp 50, .tmp 55]) rfl ?_); (try (refine gate_guard (by rfl) ?_; dsimp only)); at_builtin; refine Kd.R_append k71 (w0 := w) w.heap.size rfl (.tmp 50) (.tmp 55) 24 71 (.agg #[(.int .i64 0), (.int .i64 0), (.int .i64 0)]) 24 rfl Try.underlying24 info71 rfl (by decide) (by omega) u5 x5_1 (⟨(rd_T71 l1 x7_1).f0, (rd_T71 l1 x7_1).f1, (rd_T71 l1 x7_1).f2⟩ : S71) [.int .i64 ((rd_T71 l1 x7_1).f0), .int .i64 ((rd_T71 l1 x7_1).f1), .int .i64 ((rd_T71 l1 x7_1).f2)] (fun _ => True) (fun _ => False) rfl rfl ?aP (fun _ hk => hk.elim) ?aF ?aO ?aB ?aS ?aL ?_; (case aP => exact k71_mkM _ _ _ (⟨(rd_T71 l1 x7_1).f0, (rd_T71 l1 x7_1).f1, (rd_T71 l1 x7_1).f2⟩ : S71)); (case aB => exact (by repeat (first | (with_reducible first | exact HB.out | apply z5d | apply z5b | apply z5c) | exact HB.out))); (case aF => exact (fun _ _ => trivial)); (case aO => exact (by (with_reducible repeat (first | apply Kd.R_alloc | apply Kd.R_drewN | apply Kd.R_drew)); exact HO_5.out)); (case aS => exact (below_size (by repeat (first | (with_reducible first | exact HB.out | apply z5d | apply z5b | apply z5c) | exact HB.out)))); (case aL => have := LMc30.out; omega); intro v693 w32 ho hb hg hat; rw [← Ny692.out] at ho; have n0_ := z5a (hb); have n1_ := z5a (ho); clear HB; clear HO_5; have HB := n0_; have HO694 := n1_; clear n0_ n1_; clear ho hb hg hat))
           go_roundg kj4
           case measure => have := HK1.out; have := HJ4.out; omega
           case rel => exact ⟨(y692), (x6_1), (wrap64 (x7_1 + 1)), (by first | rfl | (simp; done) | (simp [*]; done)), (by first | rfl | (simp; done) | (simp [*]; done)), H', ⟨by have := HK1.out; have := HJ4.out; omega⟩, ⟨by (with_reducible repeat (first | apply Kd.R_alloc | apply Kd.R_drewN | apply Kd.R_drew)); exact HO694.out⟩, ⟨by repeat (first | (with_reducible first | exact HB.out | apply z5d | apply z5b | apply z5c) | exact HB.out)⟩⟩
          ·rw [if_neg c30] at H
           exact absurd H (by simp)
         ·rw [if_neg c29] at H
          exact absurd H (by simp)
        ·rw [if_neg c28] at H
         exact absurd H (by simp)
     ·replace c7 := Bool.eq_false_iff.mpr c7
      subst c7
      have H1 : (some x5_1) = some r := by rw [if_neg (show ¬ (false = true) by decide)] at H; exact H
      clear H
      have H := H1
      clear H1
      obtain rfl := Option.some.inj H
      go_wp2
      go_ret
      exact ⟨_, by first | rfl | (simp [errW_none, errW_some] <;> rfl) | (simp [*, errW_none, errW_some] <;> rfl), by (with_reducible repeat (first | apply Kd.R_alloc | apply Kd.R_drewN | apply Kd.R_drew)); exact HO_5.out, by repeat (first | (with_reducible first | exact HB.out | apply z5d | apply z5b | apply z5c) | exact HB.out)⟩
end Go.Proofs.Ytkcicbigpbdjpaa.P
end
