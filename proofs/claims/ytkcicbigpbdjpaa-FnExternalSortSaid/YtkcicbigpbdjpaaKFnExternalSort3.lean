-- merged by pack.py out of Px14 Px1 (words: printed by the kit's print.sh; what this claim does not use is left out)

import Derived.Test.YtkcicbigpbdjpaaKFnExternalSort1
import Derived.Test.YtkcicbigpbdjpaaKFnExternalSort2
namespace Go.Proofs.Ytkcicbigpbdjpaa
abbrev zq3_0 : Array Bool := #[false, false, false, false, false, false, false, false, false, false, false, false, false, false, false]
abbrev zq3_1 : Array Bool := #[true, false, false, false, false, false, false, false, false, false, false, false, false, false, false]
abbrev zq3_2 : Array Bool := #[true, true, false, false, false, false, false, false, false, false, false, false, false, false, false]
abbrev zq3_3 : Array Bool := #[true, true, true, false, false, false, false, false, false, false, false, false, false, false, false]
abbrev zq3_4 : Array Bool := #[true, true, true, true, false, false, false, false, false, false, false, false, false, false, false]
abbrev zq3_5 : Array Bool := #[true, true, true, true, true, false, false, false, false, false, false, false, false, false, false]
abbrev zq3_6 : Array Bool := #[true, true, true, true, true, true, false, false, false, false, false, false, false, false, false]
abbrev zq3_7 : Array Bool := #[true, true, true, true, true, true, true, false, false, false, false, false, false, false, false]
abbrev zq3_8 : Array Bool := #[true, true, true, true, true, true, true, true, true, true, true, false, false, false, false]
abbrev zq3_9 : Array Bool := #[true, true, true, true, true, true, true, true, true, true, true, true, false, false, false]
abbrev zq3_10 : Array Bool := #[true, true, true, true, true, true, true, true, true, true, true, true, true, false, false]
abbrev zq3_11 : Array Bool := #[true, true, true, true, true, true, true, true, true, true, true, true, true, true, false]
abbrev zq3_12 : Array Bool := #[true, true, true, true, true, true, true, true, true, true, true, true, true, true, true]
abbrev zt3 : Bool := true
abbrev zf3 : Bool := false
section
open Go.RowKit Go.Proofs.YtkcicbigpbdjpaaW.PrintWords Go.Proofs.YtkcicbigpbdjpaaW.PrintLast Go.Proofs.YtkcicbigpbdjpaaW.PrintMore
abbrev z3a := @Aside0.mk
abbrev z3b := @pw_below_drewN
abbrev z3c := @below_drew1
abbrev z3d := @below_alloc
abbrev z3e := @World.block_lt_of_cell?
abbrev z3f := @of_decide_eq_true
abbrev z3g := @Kd.R_alloc
abbrev z3h := @Kd.R_drewN
abbrev z3i := @Kd.R_drew
end
theorem zp3a {α : Type} (l : List α) (i : Nat) (a : α) : l.toArray.setIfInBounds i a = (l.set i a).toArray := List.setIfInBounds_toArray l i a
theorem zp3b {α : Type} (x : α) (l : List α) (a : α) : (x :: l).set 0 a = a :: l := List.set_cons_zero
theorem zp3c {α : Type} (x : α) (l : List α) (n : Nat) (a : α) : (x :: l).set (n + 1) a = x :: l.set n a := List.set_cons_succ
end Go.Proofs.Ytkcicbigpbdjpaa
section
namespace Go.Proofs.Ytkcicbigpbdjpaa.P
open Go.RowKit Go.Proofs.YtkcicbigpbdjpaaW.PrintWords Go.Proofs.YtkcicbigpbdjpaaW.PrintLast Go.Proofs.YtkcicbigpbdjpaaW.PrintMore
attribute [local go_sem] max2_int min2_int max_two min_two max_three min_three max_four min_four
set_option linter.unusedVariables false
set_option linter.unusedSimpArgs false
mutual
def y_c.l0 : Nat → List (S71) → List (S71) → Int → Option ((List (S71)))
 | 0, _, _, _ => none
 | k + 1, x0, x3, x4 => if x4 < (x0.length : Int) then (y_c.l1 k x0 x3 x4 (x3.length : Int)) else (some x3)
def y_c.l1 : Nat → List (S71) → List (S71) → Int → Int → Option ((List (S71)))
 | 0, _, _, _, _ => none
 | k + 1, x0, x3, x4, x5 => if x5 > 0 then (if 0 ≤ (wrap64 (x5 - 1)) then (if (wrap64 (x5 - 1)) < (x3.length : Int) then (if 0 ≤ x4 then (if x4 < (x0.length : Int) then ((y_f.f k ((rd_T71 x3 (wrap64 (x5 - 1))).f0) ((rd_T71 x3 (wrap64 (x5 - 1))).f1) ((rd_T71 x3 (wrap64 (x5 - 1))).f2) ((rd_T71 x0 x4).f0) ((rd_T71 x0 x4).f1) ((rd_T71 x0 x4).f2)).bind fun t433 => (if t433 > 0 then (y_c.l1 k x0 x3 x4 (wrap64 (x5 - 1))) else ((some (([(⟨(rd_T71 x0 x4).f0, (rd_T71 x0 x4).f1, (rd_T71 x0 x4).f2⟩ : S71)] : List (S71)) : List (S71))).bind fun y435 => (if 0 ≤ x5 then (if x5 ≤ (x3.length : Int) then ((some (x3.drop (x5 : Int).toNat : List (S71))).bind fun y438 => (if y435.length + y438.length < 5864062014805 then ((some (y435 ++ y438 : List (S71))).bind fun y442 => ((some (([] : List (S71)) : List (S71))).bind fun y445 => ((some (x3.take (x5 : Int).toNat : List (S71))).bind fun y448 => (if y445.length + y448.length < 5864062014805 then ((some (y445 ++ y448 : List (S71))).bind fun y452 => (if y452.length + y442.length < 5864062014805 then (y_c.l0 k x0 (y452 ++ y442) (wrap64 (x4 + 1))) else (none))) else (none))))) else (none))) else (none)) else (none))))) else (none)) else (none)) else (none)) else (none)) else (if 0 ≤ x4 then (if x4 < (x0.length : Int) then ((some (([(⟨(rd_T71 x0 x4).f0, (rd_T71 x0 x4).f1, (rd_T71 x0 x4).f2⟩ : S71)] : List (S71)) : List (S71))).bind fun y459 => (if 0 ≤ x5 then (if x5 ≤ (x3.length : Int) then ((some (x3.drop (x5 : Int).toNat : List (S71))).bind fun y462 => (if y459.length + y462.length < 5864062014805 then ((some (y459 ++ y462 : List (S71))).bind fun y466 => ((some (([] : List (S71)) : List (S71))).bind fun y469 => ((some (x3.take (x5 : Int).toNat : List (S71))).bind fun y472 => (if y469.length + y472.length < 5864062014805 then ((some (y469 ++ y472 : List (S71))).bind fun y476 => (if y476.length + y466.length < 5864062014805 then (y_c.l0 k x0 (y476 ++ y466) (wrap64 (x4 + 1))) else (none))) else (none))))) else (none))) else (none)) else (none))) else (none)) else (none))
end
def y_c.f (k : Nat) (l0 : List (S71)) : Option ((List (S71))) := y_c.l0 k l0 (([] : List (S71))) 0
def y_c.T6 : Bool × List (List Nat × List Nat) := (true, [([], []), ([0], [0]), ([1], [1]), ([2], [2]), ([2], [2]), ([4, 2], [2, 4]), ([3, 5, 2], [2, 3, 5]), ([6, 2], [2, 6]), ([2], [2]), ([2], [2]), ([8, 9, 2], [2, 8, 9]), ([10, 2], [2, 10]), ([7, 11, 2, 2], [2, 7, 11]), ([12, 2], [2, 12]), ([2, 13], [2, 13])])
def y_c.B6 : List Nat := [0, 1, 3, 7, 7, 23, 63, 127, 7, 7, 775, 1799, 4095, 8191, 16383]
theorem y_c.tab6 : rtab .any (opsOf Try.f60 6) = y_c.T6 := by kernel_rfl
theorem y_c.bits6 : waitsOk y_c.T6.2 y_c.B6 = true := by kernel_rfl
def y_c.T8 : Bool × List (List Nat × List Nat) := (true, [([], []), ([], []), ([0, 1], [0, 1]), ([2], [2]), ([3], [3]), ([], []), ([], []), ([5, 6], [5, 6]), ([4, 7], [4, 7]), ([8, 8, 0, 1, 2, 3, 4, 5, 6, 7, 8], [8])])
def y_c.B8 : List Nat := [0, 0, 3, 7, 15, 0, 0, 96, 255, 511]
theorem y_c.tab8 : rtab .any (opsOf Try.f60 8) = y_c.T8 := by kernel_rfl
theorem y_c.bits8 : waitsOk y_c.T8.2 y_c.B8 = true := by kernel_rfl
set_option maxHeartbeats 8000000 in
set_option maxRecDepth 100000 in
theorem y_c.calls (k : Nat) (A0 : Option Addr) (c0 : Nat) (l0 : List (S71)) (r : List (S71)) (w : World) (hr0 : Kd.C k71 w A0 l0.length l0) (hc0 : l0.length ≤ c0) (h : y_c.f k l0 = some r) :
  Calls Try.prog 60 #[.slice A0 l0.length c0] w fun e w' => ∃ v0_ : Value, e = .returned (v0_) ∧ Kd.R k71 71 w' w.heap.size (fun _ => True) v0_ r ∧ Below w.heap.size w w' := by
 have hu71 := Try.underlying71
 have HR0 := z3a hr0
 have HC0 := z3a hc0
 clear hr0 hc0
 have HB := z3a (Below.refl w.heap.size w)
 have H : (y_c.l0 k l0 (([] : List (S71))) 0) = some r := h
 clear h
 obtain ⟨y428, hy428⟩ : ∃ y_ : List (S71), y_ = (([] : List (S71))) := ⟨_, rfl⟩
 replace H : (y_c.l0 k l0 y428 0) = some r := by first | (rw [hy428]; with_reducible exact H) | (have H2_ := (Option.bind_some _ _).symm.trans H; rw [hy428]; with_reducible exact H2_) | (have H2_ := (Option.bind_some _ _).symm.trans H; with_reducible exact H2_) | with_reducible exact H | (rw [hy428]; exact H) | exact H
 have Ny428 := z3a hy428
 clear hy428
 have H' := z3a H
 clear H
 go_enter Try.func60, Try.ntmps60
 go_wp2_with (first | ((with_reducible refine gate_dst (N := 7) rfl ?_); refine Kd.R_lit k71 _ 71 ?hg (N := 7) ?hd (xs := ([] : List (S71))) (inner := []) (ok := fun _ => True) (okp := fun _ => True) ?hr ?hp (fun _ hk => hk) trivial (Below.refl _ _) (Nat.le_refl _) (by simp) ?_; (case hd => rfl); (case hg => rfl); (case hr => first | (go_simp; done) | (go_simp; rfl)); (case hp => exact (Reps.none _ _)); intro v429 w2 ho3 hb hg_ hnew_; clear hg_ hnew_; (first | rw [← Ny428.out] at ho3 | (simp only [Int.reduceToNat] at ho3; rw [← Ny428.out] at ho3)); have n0_ := z3a (Kd.R_lower ho3 (below_size (by repeat (first | (with_reducible first | exact HB.out | apply z3d | apply z3b | apply z3c) | exact HB.out)))); have n1_ := z3a (below_step (by repeat (first | (with_reducible first | exact HB.out | apply z3d | apply z3b | apply z3c) | exact HB.out)) hb); clear HB; have HO430 := n0_; have HB := n1_; clear n0_ n1_; clear hb ho3))
 go_loopg [3, 4] k (fun kq v3 v4 w' => ∃ (x3_1 : List (S71)) (x4_1 : Int), v4 = .int .i64 x4_1 ∧ Aside0 (y_c.l0 kq l0 x3_1 x4_1 = some r) ∧ Aside0 (kq ≤ k) ∧ Aside0 (Kd.R k71 71 w' w.heap.size (fun _ => True) v3 x3_1) ∧ Aside0 (Below w.heap.size w w'))
 case atStart => exact ⟨(y428), (0), (by first | rfl | (simp; done) | (simp [*]; done)), H', ⟨Nat.le_refl _⟩, ⟨by (with_reducible repeat (first | apply z3g | apply z3h | apply z3i)); exact HO430.out⟩, ⟨by repeat (first | (with_reducible first | exact HB.out | apply z3d | apply z3b | apply z3c) | exact HB.out)⟩⟩
 case round =>
  clear H'
  try clear p2
  obtain ⟨x3_1, x4_1, rfl, HA, HK1, HO_3, HB⟩ := hrel
  cases gk with
  | zero => exact absurd HA.out (by simp [y_c.l0])
  | succ k1 =>
   have H := HA.out
   clear HA
   simp only [y_c.l0] at H
   by_cases c4 : x4_1 < (l0.length : Int)
   ·rw [if_pos c4] at H
    have c4b0 : decide (x4_1 < (l0.length : Int)) = true := decide_eq_true c4
    clear c4
    have H' := z3a H
    clear H
    obtain ⟨Ao5, co5, eo5⟩ := Kd.R_slice HO_3.out
    subst eo5
    go_wp2
    go_loopg [5] k1 (fun kq v5 w' => ∃ (x5_2 : Int), v5 = .int .i64 x5_2 ∧ Aside0 (y_c.l1 kq l0 x3_1 x4_1 x5_2 = some r) ∧ Aside0 (kq ≤ k1) ∧ Aside0 (Kd.R k71 71 w' w.heap.size (fun _ => True) (.slice Ao5 x3_1.length co5) x3_1) ∧ Aside0 (Below w.heap.size w w'))
    case atStart => exact ⟨((x3_1.length : Int)), (by first | rfl | (simp; done) | (simp [*]; done)), H', ⟨Nat.le_refl _⟩, ⟨by (with_reducible repeat (first | apply z3g | apply z3h | apply z3i)); exact HO_3.out⟩, ⟨by repeat (first | (with_reducible first | exact HB.out | apply z3d | apply z3b | apply z3c) | exact HB.out)⟩⟩
    case round =>
     clear H'
     try clear p2
     try clear c4
     try clear c4b0
     try clear p2
     obtain ⟨x5_2, rfl, HA, HK2, HO_3, HB⟩ := hrel
     cases gk with
     | zero => exact absurd HA.out (by simp [y_c.l1])
     | succ k2 =>
      have H := HA.out
      clear HA
      simp only [y_c.l1] at H
      by_cases c6 : x5_2 > 0
      ·rw [if_pos c6] at H
       have c6b0 : decide (0 < x5_2) = true := decide_eq_true c6
       clear c6
       obtain ⟨ji7, hji7⟩ : ∃ j_ : Int, (wrap64 (x5_2 - 1)) = j_ := ⟨_, rfl⟩
       replace H : (if 0 ≤ (ji7) then (if (ji7) < (x3_1.length : Int) then (if 0 ≤ x4_1 then (if x4_1 < (l0.length : Int) then ((y_f.f k2 ((rd_T71 x3_1 (ji7)).f0) ((rd_T71 x3_1 (ji7)).f1) ((rd_T71 x3_1 (ji7)).f2) ((rd_T71 l0 x4_1).f0) ((rd_T71 l0 x4_1).f1) ((rd_T71 l0 x4_1).f2)).bind fun t433 => (if t433 > 0 then (y_c.l1 k2 l0 x3_1 x4_1 ji7) else ((some (([(⟨(rd_T71 l0 x4_1).f0, (rd_T71 l0 x4_1).f1, (rd_T71 l0 x4_1).f2⟩ : S71)] : List (S71)) : List (S71))).bind fun y435 => (if 0 ≤ x5_2 then (if x5_2 ≤ (x3_1.length : Int) then ((some (x3_1.drop (x5_2 : Int).toNat : List (S71))).bind fun y438 => (if y435.length + y438.length < 5864062014805 then ((some (y435 ++ y438 : List (S71))).bind fun y442 => ((some (([] : List (S71)) : List (S71))).bind fun y445 => ((some (x3_1.take (x5_2 : Int).toNat : List (S71))).bind fun y448 => (if y445.length + y448.length < 5864062014805 then ((some (y445 ++ y448 : List (S71))).bind fun y452 => (if y452.length + y442.length < 5864062014805 then (y_c.l0 k2 l0 (y452 ++ y442) (wrap64 (x4_1 + 1))) else (none))) else (none))))) else (none))) else (none)) else (none))))) else (none)) else (none)) else (none)) else (none)) = some r := by first | (rw [hji7] at H; exact H) | (simp only [hji7] at H ⊢; exact H)
       have hji7w : (IntKind.i64.wrap (x5_2 - 1)) = ji7 := (i64_w _).trans hji7
       by_cases c8 : 0 ≤ (ji7)
       ·rw [if_pos c8] at H
        have c8b0 : decide (0 ≤ (ji7)) = true := decide_eq_true c8
        clear c8
        by_cases c9 : (ji7) < (x3_1.length : Int)
        ·rw [if_pos c9] at H
         have c9b0 : decide ((ji7) < (x3_1.length : Int)) = true := decide_eq_true c9
         clear c9
         by_cases c10 : 0 ≤ x4_1
         ·rw [if_pos c10] at H
          have c10b0 : decide (0 ≤ x4_1) = true := decide_eq_true c10
          clear c10
          by_cases c11 : x4_1 < (l0.length : Int)
          ·rw [if_pos c11] at H
           have c11b0 : decide (x4_1 < (l0.length : Int)) = true := decide_eq_true c11
           clear c11
           replace H := Option.bind_eq_some_iff.mp H
           obtain ⟨t433, A120, H⟩ := H
           have A12 := z3a A120
           clear A120
           by_cases c13 : t433 > 0
           ·rw [if_pos c13] at H
            have c13b0 : decide (0 < t433) = true := decide_eq_true c13
            clear c13
            have H' := z3a H
            clear H
            try go_wp2
            have n0_ := z3a (z3i HO_3.out)
            have n1_ := z3a (z3c HB.out)
            clear HO_3
            clear HB
            have HO_3 := n0_
            have HB := n1_
            clear n0_ n1_
            have p431 : 0 ≤ ((ji7) : Int) := z3f (by first | (with_reducible assumption) | assumption)
            have q431 : (ji7) < (x3_1.length : Int) := z3f (by first | (with_reducible assumption) | assumption)
            obtain ⟨ad431, e431, hx431_0, hx431_1, hx431_2⟩ := at_T71 (Kd.R_reads' HO_3.out).2.2 (ji7) p431 q431
            cases e431
            replace p431 := eq_true p431
            replace q431 := eq_true q431
            have p432 : 0 ≤ (x4_1 : Int) := z3f (by first | (with_reducible assumption) | assumption)
            have q432 : x4_1 < (l0.length : Int) := z3f (by first | (with_reducible assumption) | assumption)
            obtain ⟨ad432, e432, hx432_0, hx432_1, hx432_2⟩ := at_T71 HR0.out x4_1 p432 q432
            have hw432_2 := hx432_2
            have hw432_1 := hx432_1
            have hw432_0 := hx432_0
            cases e432
            replace hx432_0 := (HB.out.cell (z3e w _ hx432_0)).trans hx432_0
            replace hx432_1 := (HB.out.cell (z3e w _ hx432_1)).trans hx432_1
            replace hx432_2 := (HB.out.cell (z3e w _ hx432_2)).trans hx432_2
            replace p432 := eq_true p432
            replace q432 := eq_true q432
            refine start_ (n := 15) (S := fun w' => w'.cell? (ad431.add (((ji7)).toNat * 3)) = some (.int .i64 ((rd_T71 x3_1 (ji7)).f0)) ∧ w'.cell? ⟨(ad431.add (((ji7)).toNat * 3)).block, (ad431.add (((ji7)).toNat * 3)).off + 1, none⟩ = some (.int .i64 ((rd_T71 x3_1 (ji7)).f1)) ∧ w'.cell? ⟨(ad431.add (((ji7)).toNat * 3)).block, (ad431.add (((ji7)).toNat * 3)).off + 2, none⟩ = some (.int .i64 ((rd_T71 x3_1 (ji7)).f2)) ∧ w'.cell? (ad432.add ((x4_1).toNat * 3)) = some (.int .i64 ((rd_T71 l0 x4_1).f0)) ∧ w'.cell? ⟨(ad432.add ((x4_1).toNat * 3)).block, (ad432.add ((x4_1).toNat * 3)).off + 1, none⟩ = some (.int .i64 ((rd_T71 l0 x4_1).f1)) ∧ w'.cell? ⟨(ad432.add ((x4_1).toNat * 3)).block, (ad432.add ((x4_1).toNat * 3)).off + 2, none⟩ = some (.int .i64 ((rd_T71 l0 x4_1).f2))) (ds := []) zq3_0 (by kernel_rfl) rfl rfl ⟨hx431_0, hx431_1, hx431_2, ((HB.out.cell (z3e w _ hw432_0)).trans hw432_0), ((HB.out.cell (z3e w _ hw432_1)).trans hw432_1), ((HB.out.cell (z3e w _ hw432_2)).trans hw432_2)⟩ (fun hHeld => ?_); refine with_tabW y_c.tab6 y_c.bits6 (fun HT_ HW_ => ?_)
            generalize wr.drew = w14 at HO_3 HB hx431_0 hx431_1 hx431_2 hx432_0 hx432_1 hx432_2 hHeld ⊢
            refine pure_ (i := 0) (N := some 16) (v := ?_) (a' := ?_) zq3_1 rfl rfl (any_of HT_.out (by kernel_rfl)) (fun _ _ _ h => h) (Or.inl ⟨by rfl, ?_⟩) ?_ ?_
            rotate_left
            ·intro w'
             go_simp
             with_reducible rfl
            rotate_left
            ·simp only [Act.put, zp3a, zp3b, zp3c, i64_w, i32_w]
             rfl
            refine pure_ (i := 1) (N := some 17) (v := ?_) (a' := ?_) zq3_2 rfl rfl (any_of HT_.out (by kernel_rfl)) (fun _ _ _ h => h) (Or.inl ⟨by rfl, ?_⟩) ?_ ?_
            rotate_left
            ·intro w'
             go_simp
             with_reducible rfl
            rotate_left
            ·simp only [Act.put, zp3a, zp3b, zp3c, i64_w, i32_w]
             rfl
            refine pure_ (i := 2) (N := some 18) (v := ?_) (a' := ?_) zq3_3 rfl rfl (any_of HT_.out (by kernel_rfl)) (fun _ _ _ h => h) (Or.inl ⟨by rfl, ?_⟩) ?_ ?_
            rotate_left
            ·intro w'
             go_simp
             with_reducible rfl
            rotate_left
            ·simp only [Act.put, zp3a, zp3b, zp3c, i64_w, i32_w]
             rfl
            refine pure_ (i := 3) (N := some 19) (v := ?_) (a' := ?_) zq3_4 rfl rfl (any_of HT_.out (by kernel_rfl)) (fun _ _ _ h => h) (Or.inl ⟨by rfl, ?_⟩) ?_ ?_
            rotate_left
            ·intro w'
             go_simp
             with_reducible rfl
            rotate_left
            ·simp only [Act.put, zp3a, zp3b, zp3c, i64_w, i32_w]
             rfl
            refine pure_ (i := 4) (N := some 20) (v := ?_) (a' := ?_) zq3_5 rfl rfl (any_of HT_.out (by kernel_rfl)) (fun _ _ _ h => h) (Or.inl ⟨by rfl, ?_⟩) ?_ ?_
            rotate_left
            ·intro w'
             go_simp
             with_reducible rfl
            rotate_left
            ·simp only [Act.put, zp3a, zp3b, zp3c, i64_w, i32_w]
             rfl
            refine pure_ (i := 5) (N := some 21) (v := ?_) (a' := ?_) zq3_6 rfl rfl (any_of HT_.out (by kernel_rfl)) (fun _ _ _ h => h) (Or.inl ⟨by rfl, ?_⟩) ?_ ?_
            rotate_left
            ·intro w'
             go_simp
             with_reducible rfl
            rotate_left
            ·simp only [Act.put, zp3a, zp3b, zp3c, i64_w, i32_w]
             rfl
            refine pure_ (i := 6) (N := some 22) (v := ?_) (a' := ?_) zq3_7 rfl rfl (any_of HT_.out (by kernel_rfl)) (fun _ _ _ h => h) (Or.inl ⟨by rfl, ?_⟩) ?_ ?_
            rotate_left
            ·intro w'
             go_simp
             with_reducible rfl
            rotate_left
            ·simp only [Act.put, zp3a, zp3b, zp3c, i64_w, i32_w]
             rfl
            refine pure_ (i := 8) (N := some 24) (v := ?_) (a' := ?_) #[zt3,zt3,zt3,zt3,zt3,zt3,zt3,zf3,zt3,zf3,zf3,zf3,zf3,zf3,zf3] rfl rfl (any_of HT_.out (by kernel_rfl)) (fun _ _ _ h => h) (Or.inl ⟨by rfl, ?_⟩) ?_ ?_
            rotate_left
            ·intro w'
             go_simp
             with_reducible rfl
            rotate_left
            ·simp only [Act.put, zp3a, zp3b, zp3c, i64_w, i32_w]
             rfl
            refine pure_ (i := 9) (N := some 25) (v := ?_) (a' := ?_) #[zt3,zt3,zt3,zt3,zt3,zt3,zt3,zf3,zt3,zt3,zf3,zf3,zf3,zf3,zf3] rfl rfl (any_of HT_.out (by kernel_rfl)) (fun _ _ _ h => h) (Or.inl ⟨by rfl, ?_⟩) ?_ ?_
            rotate_left
            ·intro w'
             go_simp
             with_reducible rfl
            rotate_left
            ·simp only [Act.put, zp3a, zp3b, zp3c, i64_w, i32_w]
             rfl
            refine pure_ (i := 10) (N := some 26) (v := ?_) (a' := ?_) #[zt3,zt3,zt3,zt3,zt3,zt3,zt3,zf3,zt3,zt3,zt3,zf3,zf3,zf3,zf3] rfl rfl (any_of HT_.out (by kernel_rfl)) (fun _ _ _ h => h) (Or.inl ⟨by rfl, ?_⟩) ?_ ?_
            rotate_left
            ·intro w'
             go_simp
             with_reducible rfl
            rotate_left
            ·simp only [Act.put, zp3a, zp3b, zp3c, i64_w, i32_w]
             rfl
            refine take_ (i := 7) (N := some 23) (v := ?_) (a' := ?_) zq3_8 rfl rfl (take_ofW HT_.out HW_.out (by kernel_rfl)) (fun _ _ _ h => h) (Or.inl ⟨by rfl, ?_⟩) hHeld ?_ ?_
            rotate_left
            ·rintro w' ⟨s0, s1, s2, s3, s4, s5⟩
             go_simp
             with_reducible rfl
            rotate_left
            ·simp only [Act.put, zp3a, zp3b, zp3c, i64_w, i32_w]
             rfl
            refine take_ (i := 11) (N := some 27) (v := ?_) (a' := ?_) zq3_9 rfl rfl (take_ofW HT_.out HW_.out (by kernel_rfl)) (fun _ _ _ h => h) (Or.inl ⟨by rfl, ?_⟩) hHeld ?_ ?_
            rotate_left
            ·rintro w' ⟨s0, s1, s2, s3, s4, s5⟩
             go_simp
             with_reducible rfl
            rotate_left
            ·simp only [Act.put, zp3a, zp3b, zp3c, i64_w, i32_w]
             rfl
            refine one_ (i := 12) (N := some 28) zq3_10 rfl rfl (one_of HT_.out (by kernel_rfl)) (by decide) (fun K hK => ?_)
            refine goes_ Try.func116 (by kernel_rfl) rfl #[.agg #[.int .i64 ((rd_T71 x3_1 (ji7)).f0), .int .i64 ((rd_T71 x3_1 (ji7)).f1), .int .i64 ((rd_T71 x3_1 (ji7)).f2)], .agg #[.int .i64 ((rd_T71 l0 x4_1).f0), .int .i64 ((rd_T71 l0 x4_1).f1), .int .i64 ((rd_T71 l0 x4_1).f2)]] (by rfl) rfl rfl (by (try simp only [List.map_toArray, List.map_cons, List.map_nil]); first | done | (simp only [hji7]; rfl) | rfl | (simp only [List.length_drop, List.length_take]; rfl)) ?_
            with_reducible refine (y_f.calls k2 ((rd_T71 x3_1 (ji7)).f0) ((rd_T71 x3_1 (ji7)).f1) ((rd_T71 x3_1 (ji7)).f2) ((rd_T71 l0 x4_1).f0) ((rd_T71 l0 x4_1).f1) ((rd_T71 l0 x4_1).f2) t433 _ A12.out).mono ?_
            rintro e w15 ⟨rfl, hb⟩
            have HS0_ := (hb.cell (z3e _ _ (hHeld.1))).trans (hHeld.1)
            have HS1_ := (hb.cell (z3e _ _ (hHeld.2.1))).trans (hHeld.2.1)
            have HS2_ := (hb.cell (z3e _ _ (hHeld.2.2.1))).trans (hHeld.2.2.1)
            refine ⟨_, rfl, ?_⟩
            have n0_ := z3a (Kd.R_below (by (with_reducible repeat (first | apply z3g | apply z3h | apply z3i)); exact HO_3.out) hb)
            have n1_ := z3a (below_step (by repeat (first | (with_reducible first | exact HB.out | apply z3d | apply z3b | apply z3c) | exact HB.out)) hb)
            clear HO_3
            clear HB
            have HO_3 := n0_
            have HB := n1_
            clear n0_ n1_
            (try clear hb)
            (try clear hb2)
            (try clear hk)
            (try clear hi)
            refine hK.out _ _ ⟨HS0_, HS1_, HS2_, ((HB.out.cell (z3e w _ hw432_0)).trans hw432_0), ((HB.out.cell (z3e w _ hw432_1)).trans hw432_1), ((HB.out.cell (z3e w _ hw432_2)).trans hw432_2)⟩ (fun hHeld => ?_)
            clear hK K
            refine norm_ (a' := ?_) ?_ ?_
            rotate_left
            ·show Act.put _ (some 28) _ = _
             simp only [Act.put, zp3a, zp3b, zp3c, i64_w, i32_w]
             rfl
            refine pure_ (i := 13) (N := some 29) (v := ?_) (a' := ?_) zq3_11 rfl rfl (any_of HT_.out (by kernel_rfl)) (fun _ _ _ h => h) (Or.inl ⟨by rfl, ?_⟩) ?_ ?_
            rotate_left
            ·intro w'
             go_simp
             with_reducible rfl
            rotate_left
            ·simp only [Act.put, zp3a, zp3b, zp3c, i64_w, i32_w]
             rfl
            refine pure_ (i := 14) (N := some 30) (v := ?_) (a' := ?_) zq3_12 rfl rfl (any_of HT_.out (by kernel_rfl)) (fun _ _ _ h => h) (Or.inl ⟨by rfl, ?_⟩) ?_ ?_
            rotate_left
            ·intro w'
             go_simp
             with_reducible rfl
            rotate_left
            ·simp only [Act.put, zp3a, zp3b, zp3c, i64_w, i32_w]
             rfl
            refine done_ (done_of HT_.out (by kernel_rfl)) ?_
            try go_wp2
            go_roundg k2
            case measure => have := HK1.out; have := HK2.out; omega
            case rel => exact ⟨(ji7), (by first | rfl | (simp; done) | (simp only [← hji7] <;> (first | rfl | simp)) | (simp [*]; done)), H', ⟨by have := HK1.out; have := HK2.out; omega⟩, ⟨by (with_reducible repeat (first | apply z3g | apply z3h | apply z3i)); exact HO_3.out⟩, ⟨by repeat (first | (with_reducible first | exact HB.out | apply z3d | apply z3b | apply z3c) | exact HB.out)⟩⟩
           ·rw [if_neg c13] at H
            have c13b0 : decide (0 < t433) = false := decide_eq_false c13
            clear c13
            obtain ⟨y435, hy435⟩ : ∃ y_ : List (S71), y_ = (([(⟨(rd_T71 l0 x4_1).f0, (rd_T71 l0 x4_1).f1, (rd_T71 l0 x4_1).f2⟩ : S71)] : List (S71))) := ⟨_, rfl⟩
            replace H : (if 0 ≤ x5_2 then (if x5_2 ≤ (x3_1.length : Int) then ((some (x3_1.drop (x5_2 : Int).toNat : List (S71))).bind fun y438 => (if y435.length + y438.length < 5864062014805 then ((some (y435 ++ y438 : List (S71))).bind fun y442 => ((some (([] : List (S71)) : List (S71))).bind fun y445 => ((some (x3_1.take (x5_2 : Int).toNat : List (S71))).bind fun y448 => (if y445.length + y448.length < 5864062014805 then ((some (y445 ++ y448 : List (S71))).bind fun y452 => (if y452.length + y442.length < 5864062014805 then (y_c.l0 k2 l0 (y452 ++ y442) (wrap64 (x4_1 + 1))) else (none))) else (none))))) else (none))) else (none)) else (none)) = some r := by first | (rw [hy435]; with_reducible exact H) | (have H2_ := (Option.bind_some _ _).symm.trans H; rw [hy435]; with_reducible exact H2_) | (have H2_ := (Option.bind_some _ _).symm.trans H; with_reducible exact H2_) | with_reducible exact H | (rw [hy435]; exact H) | exact H
            have Ny435 := z3a hy435
            clear hy435
            by_cases c16 : 0 ≤ x5_2
            ·rw [if_pos c16] at H
             have c16b0 := eq_true c16
             have c16b1 : decide (0 ≤ x5_2) = true := decide_eq_true c16
             clear c16
             by_cases c17 : x5_2 ≤ (x3_1.length : Int)
             ·rw [if_pos c17] at H
              have c17b0 := eq_true c17
              have c17b1 : decide (x5_2 ≤ (x3_1.length : Int)) = true := decide_eq_true c17
              clear c17
              obtain ⟨y438, hy438⟩ : ∃ y_ : List (S71), y_ = (x3_1.drop (x5_2 : Int).toNat) := ⟨_, rfl⟩
              replace H : (if y435.length + y438.length < 5864062014805 then ((some (y435 ++ y438 : List (S71))).bind fun y442 => ((some (([] : List (S71)) : List (S71))).bind fun y445 => ((some (x3_1.take (x5_2 : Int).toNat : List (S71))).bind fun y448 => (if y445.length + y448.length < 5864062014805 then ((some (y445 ++ y448 : List (S71))).bind fun y452 => (if y452.length + y442.length < 5864062014805 then (y_c.l0 k2 l0 (y452 ++ y442) (wrap64 (x4_1 + 1))) else (none))) else (none))))) else (none)) = some r := by first | (rw [hy438]; with_reducible exact H) | (have H2_ := (Option.bind_some _ _).symm.trans H; rw [hy438]; with_reducible exact H2_) | (have H2_ := (Option.bind_some _ _).symm.trans H; with_reducible exact H2_) | with_reducible exact H | (rw [hy438]; exact H) | exact H
              have Ny438 := z3a hy438
              clear hy438
              by_cases c18 : y435.length + y438.length < 5864062014805
              ·rw [if_pos c18] at H
               have LMc18 := z3a c18
               clear c18
               obtain ⟨y442, hy442⟩ : ∃ y_ : List (S71), y_ = (y435 ++ y438) := ⟨_, rfl⟩
               replace H : ((some (([] : List (S71)) : List (S71))).bind fun y445 => ((some (x3_1.take (x5_2 : Int).toNat : List (S71))).bind fun y448 => (if y445.length + y448.length < 5864062014805 then ((some (y445 ++ y448 : List (S71))).bind fun y452 => (if y452.length + y442.length < 5864062014805 then (y_c.l0 k2 l0 (y452 ++ y442) (wrap64 (x4_1 + 1))) else (none))) else (none)))) = some r := by first | (rw [hy442]; with_reducible exact H) | (have H2_ := (Option.bind_some _ _).symm.trans H; rw [hy442]; with_reducible exact H2_) | (have H2_ := (Option.bind_some _ _).symm.trans H; with_reducible exact H2_) | with_reducible exact H | (rw [hy442]; exact H) | exact H
               have Ny442 := z3a hy442
               clear hy442
               obtain ⟨y445, hy445⟩ : ∃ y_ : List (S71), y_ = (([] : List (S71))) := ⟨_, rfl⟩
               replace H : ((some (x3_1.take (x5_2 : Int).toNat : List (S71))).bind fun y448 => (if y445.length + y448.length < 5864062014805 then ((some (y445 ++ y448 : List (S71))).bind fun y452 => (if y452.length + y442.length < 5864062014805 then (y_c.l0 k2 l0 (y452 ++ y442) (wrap64 (x4_1 + 1))) else (none))) else (none))) = some r := by first | (rw [hy445]; with_reducible exact H) | (have H2_ := (Option.bind_some _ _).symm.trans H; rw [hy445]; with_reducible exact H2_) | (have H2_ := (Option.bind_some _ _).symm.trans H; with_reducible exact H2_) | with_reducible exact H | (rw [hy445]; exact H) | exact H
               have Ny445 := z3a hy445
               clear hy445
               have c19b0 := eq_true (z3f (by first | (with_reducible assumption) | assumption) : 0 ≤ x5_2)
               have c20b0 := eq_true (z3f (by first | (with_reducible assumption) | assumption) : x5_2 ≤ (x3_1.length : Int))
               obtain ⟨y448, hy448⟩ : ∃ y_ : List (S71), y_ = (x3_1.take (x5_2 : Int).toNat) := ⟨_, rfl⟩
               replace H : (if y445.length + y448.length < 5864062014805 then ((some (y445 ++ y448 : List (S71))).bind fun y452 => (if y452.length + y442.length < 5864062014805 then (y_c.l0 k2 l0 (y452 ++ y442) (wrap64 (x4_1 + 1))) else (none))) else (none)) = some r := by first | (rw [hy448]; with_reducible exact H) | (have H2_ := (Option.bind_some _ _).symm.trans H; rw [hy448]; with_reducible exact H2_) | (have H2_ := (Option.bind_some _ _).symm.trans H; with_reducible exact H2_) | with_reducible exact H | (rw [hy448]; exact H) | exact H
               have Ny448 := z3a hy448
               clear hy448
               by_cases c21 : y445.length + y448.length < 5864062014805
               ·rw [if_pos c21] at H
                have LMc21 := z3a c21
                clear c21
                obtain ⟨y452, hy452⟩ : ∃ y_ : List (S71), y_ = (y445 ++ y448) := ⟨_, rfl⟩
                replace H : (if y452.length + y442.length < 5864062014805 then (y_c.l0 k2 l0 (y452 ++ y442) (wrap64 (x4_1 + 1))) else (none)) = some r := by first | (rw [hy452]; with_reducible exact H) | (have H2_ := (Option.bind_some _ _).symm.trans H; rw [hy452]; with_reducible exact H2_) | (have H2_ := (Option.bind_some _ _).symm.trans H; with_reducible exact H2_) | with_reducible exact H | (rw [hy452]; exact H) | exact H
                have Ny452 := z3a hy452
                clear hy452
                by_cases c22 : y452.length + y442.length < 5864062014805
                ·rw [if_pos c22] at H
                 have LMc22 := z3a c22
                 clear c22
                 obtain ⟨y455, hy455⟩ : ∃ y_ : List (S71), y_ = (y452 ++ y442) := ⟨_, rfl⟩
                 replace H : (y_c.l0 k2 l0 y455 (wrap64 (x4_1 + 1))) = some r := by first | (rw [hy455]; with_reducible exact H) | (have H2_ := (Option.bind_some _ _).symm.trans H; rw [hy455]; with_reducible exact H2_) | (have H2_ := (Option.bind_some _ _).symm.trans H; with_reducible exact H2_) | with_reducible exact H | (rw [hy455]; exact H) | exact H
                 have Ny455 := z3a hy455
                 clear hy455
                 have H' := z3a H
                 clear H
                 try go_wp2
                 have n0_ := z3a (z3i HO_3.out)
                 have n1_ := z3a (z3c HB.out)
                 clear HO_3
                 clear HB
                 have HO_3 := n0_
                 have HB := n1_
                 clear n0_ n1_
                 have p431 : 0 ≤ ((ji7) : Int) := z3f (by first | (with_reducible assumption) | assumption)
                 have q431 : (ji7) < (x3_1.length : Int) := z3f (by first | (with_reducible assumption) | assumption)
                 obtain ⟨ad431, e431, hx431_0, hx431_1, hx431_2⟩ := at_T71 (Kd.R_reads' HO_3.out).2.2 (ji7) p431 q431
                 cases e431
                 replace p431 := eq_true p431
                 replace q431 := eq_true q431
                 have p432 : 0 ≤ (x4_1 : Int) := z3f (by first | (with_reducible assumption) | assumption)
                 have q432 : x4_1 < (l0.length : Int) := z3f (by first | (with_reducible assumption) | assumption)
                 obtain ⟨ad432, e432, hx432_0, hx432_1, hx432_2⟩ := at_T71 HR0.out x4_1 p432 q432
                 have hw432_2 := hx432_2
                 have hw432_1 := hx432_1
                 have hw432_0 := hx432_0
                 cases e432
                 replace hx432_0 := (HB.out.cell (z3e w _ hx432_0)).trans hx432_0
                 replace hx432_1 := (HB.out.cell (z3e w _ hx432_1)).trans hx432_1
                 replace hx432_2 := (HB.out.cell (z3e w _ hx432_2)).trans hx432_2
                 replace p432 := eq_true p432
                 replace q432 := eq_true q432
                 refine start_ (n := 15) (S := fun w' => w'.cell? (ad431.add (((ji7)).toNat * 3)) = some (.int .i64 ((rd_T71 x3_1 (ji7)).f0)) ∧ w'.cell? ⟨(ad431.add (((ji7)).toNat * 3)).block, (ad431.add (((ji7)).toNat * 3)).off + 1, none⟩ = some (.int .i64 ((rd_T71 x3_1 (ji7)).f1)) ∧ w'.cell? ⟨(ad431.add (((ji7)).toNat * 3)).block, (ad431.add (((ji7)).toNat * 3)).off + 2, none⟩ = some (.int .i64 ((rd_T71 x3_1 (ji7)).f2)) ∧ w'.cell? (ad432.add ((x4_1).toNat * 3)) = some (.int .i64 ((rd_T71 l0 x4_1).f0)) ∧ w'.cell? ⟨(ad432.add ((x4_1).toNat * 3)).block, (ad432.add ((x4_1).toNat * 3)).off + 1, none⟩ = some (.int .i64 ((rd_T71 l0 x4_1).f1)) ∧ w'.cell? ⟨(ad432.add ((x4_1).toNat * 3)).block, (ad432.add ((x4_1).toNat * 3)).off + 2, none⟩ = some (.int .i64 ((rd_T71 l0 x4_1).f2))) (ds := []) zq3_0 (by kernel_rfl) rfl rfl ⟨hx431_0, hx431_1, hx431_2, ((HB.out.cell (z3e w _ hw432_0)).trans hw432_0), ((HB.out.cell (z3e w _ hw432_1)).trans hw432_1), ((HB.out.cell (z3e w _ hw432_2)).trans hw432_2)⟩ (fun hHeld => ?_); refine with_tabW y_c.tab6 y_c.bits6 (fun HT_ HW_ => ?_)
                 generalize wr.drew = w23 at HO_3 HB hx431_0 hx431_1 hx431_2 hx432_0 hx432_1 hx432_2 hHeld ⊢
                 refine pure_ (i := 0) (N := some 16) (v := ?_) (a' := ?_) zq3_1 rfl rfl (any_of HT_.out (by kernel_rfl)) (fun _ _ _ h => h) (Or.inl ⟨by rfl, ?_⟩) ?_ ?_
                 rotate_left
                 ·intro w'
                  go_simp
                  with_reducible rfl
                 rotate_left
                 ·simp only [Act.put, zp3a, zp3b, zp3c, i64_w, i32_w]
                  rfl
                 refine pure_ (i := 1) (N := some 17) (v := ?_) (a' := ?_) zq3_2 rfl rfl (any_of HT_.out (by kernel_rfl)) (fun _ _ _ h => h) (Or.inl ⟨by rfl, ?_⟩) ?_ ?_
                 rotate_left
                 ·intro w'
                  go_simp
                  with_reducible rfl
                 rotate_left
                 ·simp only [Act.put, zp3a, zp3b, zp3c, i64_w, i32_w]
                  rfl
                 refine pure_ (i := 2) (N := some 18) (v := ?_) (a' := ?_) zq3_3 rfl rfl (any_of HT_.out (by kernel_rfl)) (fun _ _ _ h => h) (Or.inl ⟨by rfl, ?_⟩) ?_ ?_
                 rotate_left
                 ·intro w'
                  go_simp
                  with_reducible rfl
                 rotate_left
                 ·simp only [Act.put, zp3a, zp3b, zp3c, i64_w, i32_w]
                  rfl
                 refine pure_ (i := 3) (N := some 19) (v := ?_) (a' := ?_) zq3_4 rfl rfl (any_of HT_.out (by kernel_rfl)) (fun _ _ _ h => h) (Or.inl ⟨by rfl, ?_⟩) ?_ ?_
                 rotate_left
                 ·intro w'
                  go_simp
                  with_reducible rfl
                 rotate_left
                 ·simp only [Act.put, zp3a, zp3b, zp3c, i64_w, i32_w]
                  rfl
                 refine pure_ (i := 4) (N := some 20) (v := ?_) (a' := ?_) zq3_5 rfl rfl (any_of HT_.out (by kernel_rfl)) (fun _ _ _ h => h) (Or.inl ⟨by rfl, ?_⟩) ?_ ?_
                 rotate_left
                 ·intro w'
                  go_simp
                  with_reducible rfl
                 rotate_left
                 ·simp only [Act.put, zp3a, zp3b, zp3c, i64_w, i32_w]
                  rfl
                 refine pure_ (i := 5) (N := some 21) (v := ?_) (a' := ?_) zq3_6 rfl rfl (any_of HT_.out (by kernel_rfl)) (fun _ _ _ h => h) (Or.inl ⟨by rfl, ?_⟩) ?_ ?_
                 rotate_left
                 ·intro w'
                  go_simp
                  with_reducible rfl
                 rotate_left
                 ·simp only [Act.put, zp3a, zp3b, zp3c, i64_w, i32_w]
                  rfl
                 refine pure_ (i := 6) (N := some 22) (v := ?_) (a' := ?_) zq3_7 rfl rfl (any_of HT_.out (by kernel_rfl)) (fun _ _ _ h => h) (Or.inl ⟨by rfl, ?_⟩) ?_ ?_
                 rotate_left
                 ·intro w'
                  go_simp
                  with_reducible rfl
                 rotate_left
                 ·simp only [Act.put, zp3a, zp3b, zp3c, i64_w, i32_w]
                  rfl
                 refine pure_ (i := 8) (N := some 24) (v := ?_) (a' := ?_) #[zt3,zt3,zt3,zt3,zt3,zt3,zt3,zf3,zt3,zf3,zf3,zf3,zf3,zf3,zf3] rfl rfl (any_of HT_.out (by kernel_rfl)) (fun _ _ _ h => h) (Or.inl ⟨by rfl, ?_⟩) ?_ ?_
                 rotate_left
                 ·intro w'
                  go_simp
                  with_reducible rfl
                 rotate_left
                 ·simp only [Act.put, zp3a, zp3b, zp3c, i64_w, i32_w]
                  rfl
                 refine pure_ (i := 9) (N := some 25) (v := ?_) (a' := ?_) #[zt3,zt3,zt3,zt3,zt3,zt3,zt3,zf3,zt3,zt3,zf3,zf3,zf3,zf3,zf3] rfl rfl (any_of HT_.out (by kernel_rfl)) (fun _ _ _ h => h) (Or.inl ⟨by rfl, ?_⟩) ?_ ?_
                 rotate_left
                 ·intro w'
                  go_simp
                  with_reducible rfl
                 rotate_left
                 ·simp only [Act.put, zp3a, zp3b, zp3c, i64_w, i32_w]
                  rfl
                 refine pure_ (i := 10) (N := some 26) (v := ?_) (a' := ?_) #[zt3,zt3,zt3,zt3,zt3,zt3,zt3,zf3,zt3,zt3,zt3,zf3,zf3,zf3,zf3] rfl rfl (any_of HT_.out (by kernel_rfl)) (fun _ _ _ h => h) (Or.inl ⟨by rfl, ?_⟩) ?_ ?_
                 rotate_left
                 ·intro w'
                  go_simp
                  with_reducible rfl
                 rotate_left
                 ·simp only [Act.put, zp3a, zp3b, zp3c, i64_w, i32_w]
                  rfl
                 refine take_ (i := 7) (N := some 23) (v := ?_) (a' := ?_) zq3_8 rfl rfl (take_ofW HT_.out HW_.out (by kernel_rfl)) (fun _ _ _ h => h) (Or.inl ⟨by rfl, ?_⟩) hHeld ?_ ?_
                 rotate_left
                 ·rintro w' ⟨s0, s1, s2, s3, s4, s5⟩
                  go_simp
                  with_reducible rfl
                 rotate_left
                 ·simp only [Act.put, zp3a, zp3b, zp3c, i64_w, i32_w]
                  rfl
                 refine take_ (i := 11) (N := some 27) (v := ?_) (a' := ?_) zq3_9 rfl rfl (take_ofW HT_.out HW_.out (by kernel_rfl)) (fun _ _ _ h => h) (Or.inl ⟨by rfl, ?_⟩) hHeld ?_ ?_
                 rotate_left
                 ·rintro w' ⟨s0, s1, s2, s3, s4, s5⟩
                  go_simp
                  with_reducible rfl
                 rotate_left
                 ·simp only [Act.put, zp3a, zp3b, zp3c, i64_w, i32_w]
                  rfl
                 refine one_ (i := 12) (N := some 28) zq3_10 rfl rfl (one_of HT_.out (by kernel_rfl)) (by decide) (fun K hK => ?_)
                 refine goes_ Try.func116 (by kernel_rfl) rfl #[.agg #[.int .i64 ((rd_T71 x3_1 (ji7)).f0), .int .i64 ((rd_T71 x3_1 (ji7)).f1), .int .i64 ((rd_T71 x3_1 (ji7)).f2)], .agg #[.int .i64 ((rd_T71 l0 x4_1).f0), .int .i64 ((rd_T71 l0 x4_1).f1), .int .i64 ((rd_T71 l0 x4_1).f2)]] (by rfl) rfl rfl (by (try simp only [List.map_toArray, List.map_cons, List.map_nil]); first | done | (simp only [hji7]; rfl) | rfl | (simp only [List.length_drop, List.length_take]; rfl)) ?_
                 with_reducible refine (y_f.calls k2 ((rd_T71 x3_1 (ji7)).f0) ((rd_T71 x3_1 (ji7)).f1) ((rd_T71 x3_1 (ji7)).f2) ((rd_T71 l0 x4_1).f0) ((rd_T71 l0 x4_1).f1) ((rd_T71 l0 x4_1).f2) t433 _ A12.out).mono ?_
                 rintro e w24 ⟨rfl, hb⟩
                 have HS0_ := (hb.cell (z3e _ _ (hHeld.1))).trans (hHeld.1)
                 have HS1_ := (hb.cell (z3e _ _ (hHeld.2.1))).trans (hHeld.2.1)
                 have HS2_ := (hb.cell (z3e _ _ (hHeld.2.2.1))).trans (hHeld.2.2.1)
                 refine ⟨_, rfl, ?_⟩
                 have n0_ := z3a (Kd.R_below (by (with_reducible repeat (first | apply z3g | apply z3h | apply z3i)); exact HO_3.out) hb)
                 have n1_ := z3a (below_step (by repeat (first | (with_reducible first | exact HB.out | apply z3d | apply z3b | apply z3c) | exact HB.out)) hb)
                 clear HO_3
                 clear HB
                 have HO_3 := n0_
                 have HB := n1_
                 clear n0_ n1_
                 (try clear hb)
                 (try clear hb2)
                 (try clear hk)
                 (try clear hi)
                 refine hK.out _ _ ⟨HS0_, HS1_, HS2_, ((HB.out.cell (z3e w _ hw432_0)).trans hw432_0), ((HB.out.cell (z3e w _ hw432_1)).trans hw432_1), ((HB.out.cell (z3e w _ hw432_2)).trans hw432_2)⟩ (fun hHeld => ?_)
                 clear hK K
                 refine norm_ (a' := ?_) ?_ ?_
                 rotate_left
                 ·show Act.put _ (some 28) _ = _
                  simp only [Act.put, zp3a, zp3b, zp3c, i64_w, i32_w]
                  rfl
                 refine pure_ (i := 13) (N := some 29) (v := ?_) (a' := ?_) zq3_11 rfl rfl (any_of HT_.out (by kernel_rfl)) (fun _ _ _ h => h) (Or.inl ⟨by rfl, ?_⟩) ?_ ?_
                 rotate_left
                 ·intro w'
                  go_simp
                  with_reducible rfl
                 rotate_left
                 ·simp only [Act.put, zp3a, zp3b, zp3c, i64_w, i32_w]
                  rfl
                 refine pure_ (i := 14) (N := some 30) (v := ?_) (a' := ?_) zq3_12 rfl rfl (any_of HT_.out (by kernel_rfl)) (fun _ _ _ h => h) (Or.inl ⟨by rfl, ?_⟩) ?_ ?_
                 rotate_left
                 ·intro w'
                  go_simp
                  with_reducible rfl
                 rotate_left
                 ·simp only [Act.put, zp3a, zp3b, zp3c, i64_w, i32_w]
                  rfl
                 refine done_ (done_of HT_.out (by kernel_rfl)) ?_
                 try go_wp2
                 have n0_ := z3a (z3i HO_3.out)
                 have n1_ := z3a (z3c HB.out)
                 clear HO_3
                 clear HB
                 have HO_3 := n0_
                 have HB := n1_
                 clear n0_ n1_
                 have p434 : 0 ≤ (x4_1 : Int) := z3f (by first | (with_reducible assumption) | assumption)
                 have q434 : x4_1 < (l0.length : Int) := z3f (by first | (with_reducible assumption) | assumption)
                 obtain ⟨ad434, e434, hx434_0, hx434_1, hx434_2⟩ := at_T71 HR0.out x4_1 p434 q434
                 have hw434_2 := hx434_2
                 have hw434_1 := hx434_1
                 have hw434_0 := hx434_0
                 obtain rfl : ad432 = ad434 := (by injection e434)
                 replace hx434_0 := (HB.out.cell (z3e w _ hx434_0)).trans hx434_0
                 replace hx434_1 := (HB.out.cell (z3e w _ hx434_1)).trans hx434_1
                 replace hx434_2 := (HB.out.cell (z3e w _ hx434_2)).trans hx434_2
                 replace p434 := eq_true p434
                 replace q434 := eq_true q434
                 have q26 : (x5_2 : Int) ≤ ((x3_1.length : Int) : Int) := z3f (by first | (with_reducible assumption) | assumption)
                 obtain ⟨i026, hi026, _, hsz26, _⟩ := info_parts info71
                 have hroom26 : x3_1.length ≤ co5 := (Kd.R_reads' HO_3.out).2.1
                 have hC26 : Kd.C k71 _ (some ad431) x3_1.length x3_1 := (Kd.R_reads' HO_3.out).2.2
                 have q026 : (0 : Int) ≤ (x5_2 : Int) := z3f (by first | (with_reducible assumption) | assumption)
                 have hcut26 := cut_from (P := Try.prog) 24 71 .i64 Try.underlying24 hi026 3 hsz26 (some ad431) x3_1.length co5 x5_2 q026 q26
                 have hr26 := Kd.C_drop (m := (x5_2 : Int).toNat) (c := co5) hC26 (by omega) hroom26
                 obtain ⟨A26, hA26⟩ : ∃ A1, A1 = (if co5 = (x5_2 : Int).toNat then (some ad431) else ((some ad431) : Option Addr).map (·.add ((x5_2 : Int).toNat * 3))) := ⟨_, rfl⟩
                 obtain ⟨c26, hc26⟩ : ∃ c1, c1 = co5 - (x5_2 : Int).toNat := ⟨_, rfl⟩
                 have hy26 : y438.length = x3_1.length - (x5_2 : Int).toNat := (by rw [Ny438.out, List.length_drop] <;> omega)
                 rw [show (x3_1).drop (x5_2 : Int).toNat = y438 from Ny438.out.symm] at hr26
                 replace hr26 : Kd.C k71 _ A26 y438.length y438 := (by rw [hA26]; exact hr26)
                 rw [← hy26, ← hA26, ← hc26] at hcut26
                 have HR441 := z3a hr26
                 have HC441 := z3a (show y438.length ≤ c26 from by rw [hy26, hc26]; exact Nat.sub_le_sub_right hroom26 _)
                 clear hr26 hC26 hroom26 hi026 hsz26 hc26
                 have KY26 := z3a hy26
                 have KA26 := z3a hA26
                 clear hy26 hA26
                 have KL26 := z3a (show (x5_2 : Int).toNat ≤ x3_1.length from by omega)
                 replace q26 := eq_true q26
                 refine start_ (n := 10) (S := fun w' => w'.cell? (ad432.add ((x4_1).toNat * 3)) = some (.int .i64 ((rd_T71 l0 x4_1).f0)) ∧ w'.cell? ⟨(ad432.add ((x4_1).toNat * 3)).block, (ad432.add ((x4_1).toNat * 3)).off + 1, none⟩ = some (.int .i64 ((rd_T71 l0 x4_1).f1)) ∧ w'.cell? ⟨(ad432.add ((x4_1).toNat * 3)).block, (ad432.add ((x4_1).toNat * 3)).off + 2, none⟩ = some (.int .i64 ((rd_T71 l0 x4_1).f2))) (ds := []) #[zf3,zf3,zf3,zf3,zf3,zf3,zf3,zf3,zf3,zf3] (by kernel_rfl) rfl rfl ⟨((HB.out.cell (z3e w _ hw434_0)).trans hw434_0), ((HB.out.cell (z3e w _ hw434_1)).trans hw434_1), ((HB.out.cell (z3e w _ hw434_2)).trans hw434_2)⟩ (fun hHeld => ?_); refine with_tabW y_c.tab8 y_c.bits8 (fun HT_ HW_ => ?_)
                 generalize w24.drew = w25 at HO_3 HB HR441 hx434_0 hx434_1 hx434_2 hHeld ⊢
                 refine pure_ (i := 0) (N := some 33) (v := ?_) (a' := ?_) #[zt3,zf3,zf3,zf3,zf3,zf3,zf3,zf3,zf3,zf3] rfl rfl (any_of HT_.out (by kernel_rfl)) (fun _ _ _ h => h) (Or.inl ⟨by rfl, ?_⟩) ?_ ?_
                 rotate_left
                 ·intro w'
                  go_simp
                  with_reducible rfl
                 rotate_left
                 ·simp only [Act.put, zp3a, zp3b, zp3c, i64_w, i32_w]
                  rfl
                 refine pure_ (i := 1) (N := some 34) (v := ?_) (a' := ?_) #[zt3,zt3,zf3,zf3,zf3,zf3,zf3,zf3,zf3,zf3] rfl rfl (any_of HT_.out (by kernel_rfl)) (fun _ _ _ h => h) (Or.inl ⟨by rfl, ?_⟩) ?_ ?_
                 rotate_left
                 ·intro w'
                  go_simp
                  with_reducible rfl
                 rotate_left
                 ·simp only [Act.put, zp3a, zp3b, zp3c, i64_w, i32_w]
                  rfl
                 refine pure_ (i := 2) (N := some 35) (v := ?_) (a' := ?_) #[zt3,zt3,zt3,zf3,zf3,zf3,zf3,zf3,zf3,zf3] rfl rfl (any_of HT_.out (by kernel_rfl)) (fun _ _ _ h => h) (Or.inl ⟨by rfl, ?_⟩) ?_ ?_
                 rotate_left
                 ·intro w'
                  go_simp
                  with_reducible rfl
                 rotate_left
                 ·simp only [Act.put, zp3a, zp3b, zp3c, i64_w, i32_w]
                  rfl
                 refine pure_ (i := 5) (N := some 38) (v := ?_) (a' := ?_) #[zt3,zt3,zt3,zf3,zf3,zt3,zf3,zf3,zf3,zf3] rfl rfl (any_of HT_.out (by kernel_rfl)) (fun _ _ _ h => h) (Or.inl ⟨by rfl, ?_⟩) ?_ ?_
                 rotate_left
                 ·intro w'
                  go_simp
                  with_reducible rfl
                 rotate_left
                 ·simp only [Act.put, zp3a, zp3b, zp3c, i64_w, i32_w]
                  rfl
                 refine pure_ (i := 6) (N := some 39) (v := ?_) (a' := ?_) #[zt3,zt3,zt3,zf3,zf3,zt3,zt3,zf3,zf3,zf3] rfl rfl (any_of HT_.out (by kernel_rfl)) (fun _ _ _ h => h) (Or.inl ⟨by rfl, ?_⟩) ?_ ?_
                 rotate_left
                 ·intro w'
                  go_simp
                  with_reducible rfl
                 rotate_left
                 ·simp only [Act.put, zp3a, zp3b, zp3c, i64_w, i32_w]
                  rfl
                 refine pure_ (i := 7) (N := some 40) (v := ?_) (a' := ?_) #[zt3,zt3,zt3,zf3,zf3,zt3,zt3,zt3,zf3,zf3] rfl rfl (any_of HT_.out (by kernel_rfl)) (fun _ _ _ h => h) (Or.inl ⟨by rfl, ?_⟩) ?_ ?_
                 rotate_left
                 ·intro w'
                  go_simp
                  with_reducible rfl
                 rotate_left
                 ·simp only [Act.put, zp3a, zp3b, zp3c, i64_w, i32_w]
                  rfl
                 refine take_ (i := 3) (N := some 36) (v := ?_) (a' := ?_) #[zt3,zt3,zt3,zt3,zf3,zt3,zt3,zt3,zf3,zf3] rfl rfl (take_ofW HT_.out HW_.out (by kernel_rfl)) (fun _ _ _ h => h) (Or.inl ⟨by rfl, ?_⟩) hHeld ?_ ?_
                 rotate_left
                 ·rintro w' ⟨s0, s1, s2⟩
                  go_simp
                  with_reducible rfl
                 rotate_left
                 ·simp only [Act.put, zp3a, zp3b, zp3c, i64_w, i32_w]
                  rfl
                 refine one_ (i := 4) (N := some 37) #[zt3,zt3,zt3,zt3,zt3,zt3,zt3,zt3,zf3,zf3] rfl rfl (one_of HT_.out (by kernel_rfl)) (by decide) (fun K hK => ?_)
                 refine Kd.R_lit_step k71 _ 71 ?hg (N := 37) ?hd (xs := ([(⟨(rd_T71 l0 x4_1).f0, (rd_T71 l0 x4_1).f1, (rd_T71 l0 x4_1).f2⟩ : S71)] : List (S71))) (inner := [.int .i64 ((rd_T71 l0 x4_1).f0), .int .i64 ((rd_T71 l0 x4_1).f1), .int .i64 ((rd_T71 l0 x4_1).f2)]) (ok := fun _ => True) (okp := fun _ => True) ?hr ?hp (fun _ hk => hk) trivial (Below.refl _ _) (Nat.le_refl _) (by simp) ?_; (case hd => rfl); (case hg => rfl); (case hr => first | (go_simp; done) | (go_simp; rfl)); (case hp => exact (Reps.c3 (show Kd.M k71 _ _ _ (⟨(rd_T71 l0 x4_1).f0, (rd_T71 l0 x4_1).f1, (rd_T71 l0 x4_1).f2⟩ : S71) [.int .i64 ((rd_T71 l0 x4_1).f0), .int .i64 ((rd_T71 l0 x4_1).f1), .int .i64 ((rd_T71 l0 x4_1).f2)] from (k71_mkM _ _ _ (⟨(rd_T71 l0 x4_1).f0, (rd_T71 l0 x4_1).f1, (rd_T71 l0 x4_1).f2⟩ : S71) )) (Reps.none _ _)))
                 intro v436 w27 ho28 hb hg_ hnew_
                 clear hg_ hnew_
                 (first | rw [← Ny435.out] at ho28 | (simp only [Int.reduceToNat] at ho28; rw [← Ny435.out] at ho28))
                 have n0_ := z3a (Kd.R_elder' (by (with_reducible repeat (first | apply z3g | apply z3h | apply z3i)); exact HO_3.out) (Kd.R_base ho28) hb)
                 have n1_ := z3a (Kd.R_lower (Kd.R_new' ho28 (Kd.R_lt (by (with_reducible repeat (first | apply z3g | apply z3h | apply z3i)); exact HO_3.out))) (below_size (by repeat (first | (with_reducible first | exact HB.out | apply z3d | apply z3b | apply z3c) | exact HB.out))))
                 have n2_ := z3a (Kd.C_below (by repeat (first | (with_reducible exact HR441.out) | (with_reducible refine Kd.C_alloc ?_ _) | (with_reducible refine Kd.C_drewN ?_ _) | (with_reducible refine Kd.C_drew ?_) | exact HR441.out)) hb)
                 have n3_ := z3a (below_step (by repeat (first | (with_reducible first | exact HB.out | apply z3d | apply z3b | apply z3c) | exact HB.out)) hb)
                 clear HO_3
                 clear HR441
                 clear HB
                 have HO_3 := n0_
                 have HO437 := n1_
                 have HR441 := n2_
                 have HB := n3_
                 clear n0_ n1_ n2_ n3_
                 clear hb ho28
                 refine hK.out _ _ ⟨((HB.out.cell (z3e w _ hw434_0)).trans hw434_0), ((HB.out.cell (z3e w _ hw434_1)).trans hw434_1), ((HB.out.cell (z3e w _ hw434_2)).trans hw434_2)⟩ (fun hHeld => ?_)
                 clear hK K
                 refine norm_ (a' := ?_) ?_ ?_
                 rotate_left
                 ·show Act.put _ (some 37) _ = _
                  simp only [Act.put, zp3a, zp3b, zp3c, i64_w, i32_w]
                  rfl
                 refine one_ (i := 8) (N := some 41) #[zt3,zt3,zt3,zt3,zt3,zt3,zt3,zt3,zt3,zf3] rfl rfl (one_of HT_.out (by kernel_rfl)) (by decide) (fun K hK => ?_)
                 refine Kd.R_append_rows_step k71 (w0 := w) w.heap.size (by rfl) (.tmp 37) (.tmp 40) 24 71 (.agg #[(.int .i64 0), (.int .i64 0), (.int .i64 0)]) 24 rfl Try.underlying24 info71 rfl (by decide) (by omega) v436 y435 y438 _ _ _ (fun k_ => some k_ ≠ (.slice (some ad431) x3_1.length co5 : Value).ownBlock) (fun _ => False) rfl rfl ?aO ?aR (fun _ _ h => h) (fun _ h => h.elim) ?aF ?aB ?aS ?aL ?_
                 (case aR => repeat (first | exact (by repeat (first | (with_reducible exact HR441.out) | (with_reducible refine Kd.C_alloc ?_ _) | (with_reducible refine Kd.C_drewN ?_ _) | (with_reducible refine Kd.C_drew ?_) | exact HR441.out)) | (with_reducible refine Kd.C_alloc ?_ _) | (with_reducible refine Kd.C_drewN ?_ _) | (with_reducible refine Kd.C_drew ?_)))
                 (case aB => exact (by repeat (first | (with_reducible first | exact HB.out | apply z3d | apply z3b | apply z3c) | exact HB.out)))
                 (case aF => exact (fun k_ hk => Kd.fresh' (Kd.R_lt (by (with_reducible repeat (first | apply z3g | apply z3h | apply z3i)); exact HO_3.out)) k_ hk))
                 (case aO => exact (by (with_reducible repeat (first | apply z3g | apply z3h | apply z3i)); exact Kd.R_mono HO437.out (fun _ hk => hk.2)))
                 (case aS => exact (below_size (by repeat (first | (with_reducible first | exact HB.out | apply z3d | apply z3b | apply z3c) | exact HB.out))))
                 (case aL => have := LMc18.out; omega)
                 intro v443 w29 ho hb hg hat
                 rw [← Ny442.out] at ho
                 have n0_ := z3a (Kd.R_after (ok := (fun _ => True)) (by (with_reducible repeat (first | apply z3g | apply z3h | apply z3i)); exact HO_3.out) hg hat)
                 have n1_ := z3a (hb)
                 have n2_ := z3a ((show Kd.C k71 w29 A26 y438.length y438 from by rw [Ny438.out, KA26.out]; exact Kd.C_drop (m := (x5_2 : Int).toNat) (c := co5) ((Kd.R_reads' (Kd.R_after (ok := (fun _ => True)) (by (with_reducible repeat (first | apply z3g | apply z3h | apply z3i)); exact HO_3.out) hg hat)).2.2) KL26.out ((Kd.R_reads' (Kd.R_after (ok := (fun _ => True)) (by (with_reducible repeat (first | apply z3g | apply z3h | apply z3i)); exact HO_3.out) hg hat)).2.1)))
                 have n3_ := z3a (ho)
                 clear HO_3
                 clear HB
                 clear HR441
                 clear HO437
                 have HO_3 := n0_
                 have HB := n1_
                 have HR441 := n2_
                 have HO444 := n3_
                 clear n0_ n1_ n2_ n3_
                 clear ho hb hg hat
                 refine hK.out _ _ ⟨((HB.out.cell (z3e w _ hw434_0)).trans hw434_0), ((HB.out.cell (z3e w _ hw434_1)).trans hw434_1), ((HB.out.cell (z3e w _ hw434_2)).trans hw434_2)⟩ (fun hHeld => ?_)
                 clear hK K
                 refine norm_ (a' := ?_) ?_ ?_
                 rotate_left
                 ·show Act.put _ (some 41) _ = _
                  simp only [Act.put, zp3a, zp3b, zp3c, i64_w, i32_w]
                  rfl
                 refine pure_ (i := 9) (N := some 6) (v := ?_) (a' := ?_) #[zt3,zt3,zt3,zt3,zt3,zt3,zt3,zt3,zt3,zt3] rfl rfl (any_of HT_.out (by kernel_rfl)) (fun _ _ _ h => h) (Or.inl ⟨by rfl, ?_⟩) ?_ ?_
                 rotate_left
                 ·intro w'
                  go_simp
                  with_reducible rfl
                 rotate_left
                 ·simp only [Act.put, zp3a, zp3b, zp3c, i64_w, i32_w]
                  rfl
                 refine done_ (done_of HT_.out (by kernel_rfl)) ?_
                 try go_wp2_with (first | ((with_reducible refine gate_dst (N := 42) rfl ?_); refine Kd.R_lit k71 _ 71 ?hg (N := 42) ?hd (xs := ([] : List (S71))) (inner := []) (ok := fun _ => True) (okp := fun _ => True) ?hr ?hp (fun _ hk => hk) trivial (Below.refl _ _) (Nat.le_refl _) (by simp) ?_; (case hd => rfl); (case hg => rfl); (case hr => first | (go_simp; done) | (go_simp; rfl)); (case hp => exact (Reps.none _ _)); intro v446 w30 ho31 hb hg_ hnew_; clear hg_ hnew_; (first | rw [← Ny445.out] at ho31 | (simp only [Int.reduceToNat] at ho31; rw [← Ny445.out] at ho31)); have n0_ := z3a (Kd.R_elder' (by (with_reducible repeat (first | apply z3g | apply z3h | apply z3i)); exact HO_3.out) (Kd.R_base ho31) hb); have n1_ := z3a (Kd.R_elder' (by (with_reducible repeat (first | apply z3g | apply z3h | apply z3i)); exact HO444.out) (Kd.R_base ho31) hb); have n2_ := z3a (Kd.R_lower (Kd.R_new' (Kd.R_new' ho31 (Kd.R_lt (by (with_reducible repeat (first | apply z3g | apply z3h | apply z3i)); exact HO_3.out))) (Kd.R_lt (by (with_reducible repeat (first | apply z3g | apply z3h | apply z3i)); exact HO444.out))) (below_size (by repeat (first | (with_reducible first | exact HB.out | apply z3d | apply z3b | apply z3c) | exact HB.out)))); have n3_ := z3a (Kd.C_below (by repeat (first | (with_reducible exact HR441.out) | (with_reducible refine Kd.C_alloc ?_ _) | (with_reducible refine Kd.C_drewN ?_ _) | (with_reducible refine Kd.C_drew ?_) | exact HR441.out)) hb); have n4_ := z3a (below_step (by repeat (first | (with_reducible first | exact HB.out | apply z3d | apply z3b | apply z3c) | exact HB.out)) hb); clear HO_3; clear HO444; clear HR441; clear HB; have HO_3 := n0_; have HO444 := n1_; have HO447 := n2_; have HR441 := n3_; have HB := n4_; clear n0_ n1_ n2_ n3_ n4_; clear hb ho31; have q32 : (x5_2 : Int) ≤ ((x3_1.length : Int) : Int) := z3f (by first | (with_reducible assumption) | assumption); obtain ⟨i032, hi032, _, hsz32, _⟩ := info_parts info71; have hroom32 : x3_1.length ≤ co5 := (Kd.R_reads' HO_3.out).2.1; have hC32 : Kd.C k71 _ (some ad431) x3_1.length x3_1 := (Kd.R_reads' HO_3.out).2.2; have hcut32 := cut_to (P := Try.prog) 24 71 .i64 Try.underlying24 hi032 (some ad431) x3_1.length co5 x5_2 (z3f (by first | (with_reducible assumption) | assumption)) q32 hroom32; have hr32 := Kd.C_take (m := (x5_2 : Int).toNat) hC32 (by omega); have hy32 : y448.length = (x5_2 : Int).toNat := (by rw [Ny448.out, List.length_take]; omega); rw [← Ny448.out] at hr32; rw [← hy32] at hcut32; have HR451 := z3a hr32; have HC451 := z3a (show y448.length ≤ co5 from by omega); clear hr32 hC32 hroom32 hi032 hsz32; have KY32 := z3a hy32; clear hy32; have KL32 := z3a (show (x5_2 : Int).toNat ≤ x3_1.length from by omega); replace q32 := eq_true q32) | ((with_reducible refine gate_builtin (b := .append) (xs := #[.tmp 42, .tmp 45]) rfl ?_); at_builtin; refine Kd.R_append_rows k71 (w0 := w) w.heap.size rfl (.tmp 42) (.tmp 45) 24 71 (.agg #[(.int .i64 0), (.int .i64 0), (.int .i64 0)]) 24 rfl Try.underlying24 info71 rfl (by decide) (by omega) v446 y445 y448 _ _ _ (fun k_ => some k_ ≠ (.slice (some ad431) x3_1.length co5 : Value).ownBlock ∧ some k_ ≠ (v443 : Value).ownBlock) (fun _ => False) rfl rfl ?aO ?aR (fun _ _ h => h) (fun _ h => h.elim) ?aF ?aB ?aS ?aL ?_; (case aR => repeat (first | exact (by repeat (first | (with_reducible exact HR451.out) | (with_reducible refine Kd.C_alloc ?_ _) | (with_reducible refine Kd.C_drewN ?_ _) | (with_reducible refine Kd.C_drew ?_) | exact HR451.out)) | (with_reducible refine Kd.C_alloc ?_ _) | (with_reducible refine Kd.C_drewN ?_ _) | (with_reducible refine Kd.C_drew ?_))); (case aB => exact (by repeat (first | (with_reducible first | exact HB.out | apply z3d | apply z3b | apply z3c) | exact HB.out))); (case aF => exact (fun k_ hk => ⟨Kd.fresh' (Kd.R_lt (by (with_reducible repeat (first | apply z3g | apply z3h | apply z3i)); exact HO_3.out)) k_ hk, Kd.fresh' (Kd.R_lt (by (with_reducible repeat (first | apply z3g | apply z3h | apply z3i)); exact HO444.out)) k_ hk⟩)); (case aO => exact (by (with_reducible repeat (first | apply z3g | apply z3h | apply z3i)); exact Kd.R_mono HO447.out (fun _ hk => ⟨hk.1.2, hk.2⟩))); (case aS => exact (below_size (by repeat (first | (with_reducible first | exact HB.out | apply z3d | apply z3b | apply z3c) | exact HB.out)))); (case aL => have := LMc21.out; omega); intro v453 w33 ho hb hg hat; rw [← Ny452.out] at ho; have n0_ := z3a (Kd.R_after (ok := (fun k_ => some k_ ≠ (v443 : Value).ownBlock)) (by (with_reducible repeat (first | apply z3g | apply z3h | apply z3i)); exact Kd.R_mono HO_3.out (fun _ hk => ⟨hk.1.2, hk.2⟩)) hg hat); have n1_ := z3a (Kd.R_after (ok := (fun k_ => some k_ ≠ (.slice (some ad431) x3_1.length co5 : Value).ownBlock)) (by (with_reducible repeat (first | apply z3g | apply z3h | apply z3i)); exact HO444.out) hg hat); have n2_ := z3a (hb); have n3_ := z3a ((show Kd.C k71 w33 A26 y438.length y438 from by rw [Ny438.out, KA26.out]; exact Kd.C_drop (m := (x5_2 : Int).toNat) (c := co5) ((Kd.R_reads' (Kd.R_after (ok := (fun k_ => some k_ ≠ (v443 : Value).ownBlock)) (by (with_reducible repeat (first | apply z3g | apply z3h | apply z3i)); exact Kd.R_mono HO_3.out (fun _ hk => ⟨hk.1.2, hk.2⟩)) hg hat)).2.2) KL26.out ((Kd.R_reads' (Kd.R_after (ok := (fun k_ => some k_ ≠ (v443 : Value).ownBlock)) (by (with_reducible repeat (first | apply z3g | apply z3h | apply z3i)); exact Kd.R_mono HO_3.out (fun _ hk => ⟨hk.1.2, hk.2⟩)) hg hat)).2.1))); have n4_ := z3a ((show Kd.C k71 w33 (some ad431) y448.length y448 from by rw [Ny448.out]; exact Kd.C_take (m := (x5_2 : Int).toNat) ((Kd.R_reads' (Kd.R_after (ok := (fun k_ => some k_ ≠ (v443 : Value).ownBlock)) (by (with_reducible repeat (first | apply z3g | apply z3h | apply z3i)); exact Kd.R_mono HO_3.out (fun _ hk => ⟨hk.1.2, hk.2⟩)) hg hat)).2.2) KL32.out)); have n5_ := z3a (ho); clear HO_3; clear HO444; clear HB; clear HR441; clear HR451; clear HO447; have HO_3 := n0_; have HO444 := n1_; have HB := n2_; have HR441 := n3_; have HR451 := n4_; have HO454 := n5_; clear n0_ n1_ n2_ n3_ n4_ n5_; clear ho hb hg hat; obtain ⟨Ao35, co35, eo35⟩ := Kd.R_slice HO444.out; subst eo35) | ((with_reducible refine gate_builtin (b := .append) (xs := #[.tmp 46, .tmp 47]) rfl ?_); at_builtin; refine Kd.R_append_rows k71 (w0 := w) w.heap.size rfl (.tmp 46) (.tmp 47) 24 71 (.agg #[(.int .i64 0), (.int .i64 0), (.int .i64 0)]) 24 rfl Try.underlying24 info71 rfl (by decide) (by omega) v453 y452 y442 _ _ _ (fun k_ => some k_ ≠ (.slice (some ad431) x3_1.length co5 : Value).ownBlock ∧ some k_ ≠ (.slice Ao35 y442.length co35 : Value).ownBlock) (fun _ => False) rfl rfl ?aO ?aR (fun _ _ h => h) (fun _ h => h.elim) ?aF ?aB ?aS ?aL ?_; (case aR => repeat (first | exact (Kd.R_reads' HO444.out).2.2 | (with_reducible refine Kd.C_alloc ?_ _) | (with_reducible refine Kd.C_drewN ?_ _) | (with_reducible refine Kd.C_drew ?_))); (case aB => exact (by repeat (first | (with_reducible first | exact HB.out | apply z3d | apply z3b | apply z3c) | exact HB.out))); (case aF => exact (fun k_ hk => ⟨Kd.fresh' (Kd.R_lt (by (with_reducible repeat (first | apply z3g | apply z3h | apply z3i)); exact HO_3.out)) k_ hk, Kd.fresh' (Kd.R_lt (by (with_reducible repeat (first | apply z3g | apply z3h | apply z3i)); exact HO444.out)) k_ hk⟩)); (case aO => exact (by (with_reducible repeat (first | apply z3g | apply z3h | apply z3i)); exact HO454.out)); (case aS => exact (below_size (by repeat (first | (with_reducible first | exact HB.out | apply z3d | apply z3b | apply z3c) | exact HB.out)))); (case aL => have := LMc22.out; omega); intro v456 w34 ho hb hg hat; rw [← Ny455.out] at ho; have n0_ := z3a (Kd.R_after (ok := (fun k_ => some k_ ≠ (.slice Ao35 y442.length co35 : Value).ownBlock)) (by (with_reducible repeat (first | apply z3g | apply z3h | apply z3i)); exact HO_3.out) hg hat); have n1_ := z3a (Kd.R_after (ok := (fun k_ => some k_ ≠ (.slice (some ad431) x3_1.length co5 : Value).ownBlock)) (by (with_reducible repeat (first | apply z3g | apply z3h | apply z3i)); exact HO444.out) hg hat); have n2_ := z3a (hb); have n3_ := z3a ((show Kd.C k71 w34 A26 y438.length y438 from by rw [Ny438.out, KA26.out]; exact Kd.C_drop (m := (x5_2 : Int).toNat) (c := co5) ((Kd.R_reads' (Kd.R_after (ok := (fun k_ => some k_ ≠ (.slice Ao35 y442.length co35 : Value).ownBlock)) (by (with_reducible repeat (first | apply z3g | apply z3h | apply z3i)); exact HO_3.out) hg hat)).2.2) KL26.out ((Kd.R_reads' (Kd.R_after (ok := (fun k_ => some k_ ≠ (.slice Ao35 y442.length co35 : Value).ownBlock)) (by (with_reducible repeat (first | apply z3g | apply z3h | apply z3i)); exact HO_3.out) hg hat)).2.1))); have n4_ := z3a ((show Kd.C k71 w34 (some ad431) y448.length y448 from by rw [Ny448.out]; exact Kd.C_take (m := (x5_2 : Int).toNat) ((Kd.R_reads' (Kd.R_after (ok := (fun k_ => some k_ ≠ (.slice Ao35 y442.length co35 : Value).ownBlock)) (by (with_reducible repeat (first | apply z3g | apply z3h | apply z3i)); exact HO_3.out) hg hat)).2.2) KL32.out)); have n5_ := z3a (ho); clear HO_3; clear HO444; clear HB; clear HR441; clear HR451; clear HO454; have HO_3 := n0_; have HO444 := n1_; have HB := n2_; have HR441 := n3_; have HR451 := n4_; have HO457 := n5_; clear n0_ n1_ n2_ n3_ n4_ n5_; clear ho hb hg hat))
                 go_roundg k2
                 case measure => have := HK1.out; have := HK2.out; omega
                 case rel => exact ⟨(y455), (wrap64 (x4_1 + 1)), (by first | rfl | (simp; done) | (simp [*]; done)), H', ⟨by have := HK1.out; have := HK2.out; omega⟩, ⟨by (with_reducible repeat (first | apply z3g | apply z3h | apply z3i)); exact Kd.R_mono HO457.out (fun _ hk => trivial)⟩, ⟨by repeat (first | (with_reducible first | exact HB.out | apply z3d | apply z3b | apply z3c) | exact HB.out)⟩⟩
                ·rw [if_neg c22] at H
                 exact absurd H (by simp)
               ·rw [if_neg c21] at H
                exact absurd H (by simp)
              ·rw [if_neg c18] at H
               exact absurd H (by simp)
             ·rw [if_neg c17] at H
              exact absurd H (by simp)
            ·rw [if_neg c16] at H
             exact absurd H (by simp)
          ·rw [if_neg c11] at H
           exact absurd H (by simp)
         ·rw [if_neg c10] at H
          exact absurd H (by simp)
        ·rw [if_neg c9] at H
         exact absurd H (by simp)
       ·rw [if_neg c8] at H
        exact absurd H (by simp)
      ·rw [if_neg c6] at H
       have c6b0 : decide (0 < x5_2) = false := decide_eq_false c6
       clear c6
       by_cases c36 : 0 ≤ x4_1
       ·rw [if_pos c36] at H
        have c36b0 : decide (0 ≤ x4_1) = true := decide_eq_true c36
        clear c36
        by_cases c37 : x4_1 < (l0.length : Int)
        ·rw [if_pos c37] at H
         have c37b0 : decide (x4_1 < (l0.length : Int)) = true := decide_eq_true c37
         clear c37
         obtain ⟨y459, hy459⟩ : ∃ y_ : List (S71), y_ = (([(⟨(rd_T71 l0 x4_1).f0, (rd_T71 l0 x4_1).f1, (rd_T71 l0 x4_1).f2⟩ : S71)] : List (S71))) := ⟨_, rfl⟩
         replace H : (if 0 ≤ x5_2 then (if x5_2 ≤ (x3_1.length : Int) then ((some (x3_1.drop (x5_2 : Int).toNat : List (S71))).bind fun y462 => (if y459.length + y462.length < 5864062014805 then ((some (y459 ++ y462 : List (S71))).bind fun y466 => ((some (([] : List (S71)) : List (S71))).bind fun y469 => ((some (x3_1.take (x5_2 : Int).toNat : List (S71))).bind fun y472 => (if y469.length + y472.length < 5864062014805 then ((some (y469 ++ y472 : List (S71))).bind fun y476 => (if y476.length + y466.length < 5864062014805 then (y_c.l0 k2 l0 (y476 ++ y466) (wrap64 (x4_1 + 1))) else (none))) else (none))))) else (none))) else (none)) else (none)) = some r := by first | (rw [hy459]; with_reducible exact H) | (have H2_ := (Option.bind_some _ _).symm.trans H; rw [hy459]; with_reducible exact H2_) | (have H2_ := (Option.bind_some _ _).symm.trans H; with_reducible exact H2_) | with_reducible exact H | (rw [hy459]; exact H) | exact H
         have Ny459 := z3a hy459
         clear hy459
         by_cases c38 : 0 ≤ x5_2
         ·rw [if_pos c38] at H
          have c38b0 := eq_true c38
          have c38b1 : decide (0 ≤ x5_2) = true := decide_eq_true c38
          clear c38
          by_cases c39 : x5_2 ≤ (x3_1.length : Int)
          ·rw [if_pos c39] at H
           have c39b0 := eq_true c39
           have c39b1 : decide (x5_2 ≤ (x3_1.length : Int)) = true := decide_eq_true c39
           clear c39
           obtain ⟨y462, hy462⟩ : ∃ y_ : List (S71), y_ = (x3_1.drop (x5_2 : Int).toNat) := ⟨_, rfl⟩
           replace H : (if y459.length + y462.length < 5864062014805 then ((some (y459 ++ y462 : List (S71))).bind fun y466 => ((some (([] : List (S71)) : List (S71))).bind fun y469 => ((some (x3_1.take (x5_2 : Int).toNat : List (S71))).bind fun y472 => (if y469.length + y472.length < 5864062014805 then ((some (y469 ++ y472 : List (S71))).bind fun y476 => (if y476.length + y466.length < 5864062014805 then (y_c.l0 k2 l0 (y476 ++ y466) (wrap64 (x4_1 + 1))) else (none))) else (none))))) else (none)) = some r := by first | (rw [hy462]; with_reducible exact H) | (have H2_ := (Option.bind_some _ _).symm.trans H; rw [hy462]; with_reducible exact H2_) | (have H2_ := (Option.bind_some _ _).symm.trans H; with_reducible exact H2_) | with_reducible exact H | (rw [hy462]; exact H) | exact H
           have Ny462 := z3a hy462
           clear hy462
           by_cases c40 : y459.length + y462.length < 5864062014805
           ·rw [if_pos c40] at H
            have LMc40 := z3a c40
            clear c40
            obtain ⟨y466, hy466⟩ : ∃ y_ : List (S71), y_ = (y459 ++ y462) := ⟨_, rfl⟩
            replace H : ((some (([] : List (S71)) : List (S71))).bind fun y469 => ((some (x3_1.take (x5_2 : Int).toNat : List (S71))).bind fun y472 => (if y469.length + y472.length < 5864062014805 then ((some (y469 ++ y472 : List (S71))).bind fun y476 => (if y476.length + y466.length < 5864062014805 then (y_c.l0 k2 l0 (y476 ++ y466) (wrap64 (x4_1 + 1))) else (none))) else (none)))) = some r := by first | (rw [hy466]; with_reducible exact H) | (have H2_ := (Option.bind_some _ _).symm.trans H; rw [hy466]; with_reducible exact H2_) | (have H2_ := (Option.bind_some _ _).symm.trans H; with_reducible exact H2_) | with_reducible exact H | (rw [hy466]; exact H) | exact H
            have Ny466 := z3a hy466
            clear hy466
            obtain ⟨y469, hy469⟩ : ∃ y_ : List (S71), y_ = (([] : List (S71))) := ⟨_, rfl⟩
            replace H : ((some (x3_1.take (x5_2 : Int).toNat : List (S71))).bind fun y472 => (if y469.length + y472.length < 5864062014805 then ((some (y469 ++ y472 : List (S71))).bind fun y476 => (if y476.length + y466.length < 5864062014805 then (y_c.l0 k2 l0 (y476 ++ y466) (wrap64 (x4_1 + 1))) else (none))) else (none))) = some r := by first | (rw [hy469]; with_reducible exact H) | (have H2_ := (Option.bind_some _ _).symm.trans H; rw [hy469]; with_reducible exact H2_) | (have H2_ := (Option.bind_some _ _).symm.trans H; with_reducible exact H2_) | with_reducible exact H | (rw [hy469]; exact H) | exact H
            have Ny469 := z3a hy469
            clear hy469
            have c41b0 := eq_true (z3f (by first | (with_reducible assumption) | assumption) : 0 ≤ x5_2)
            have c42b0 := eq_true (z3f (by first | (with_reducible assumption) | assumption) : x5_2 ≤ (x3_1.length : Int))
            obtain ⟨y472, hy472⟩ : ∃ y_ : List (S71), y_ = (x3_1.take (x5_2 : Int).toNat) := ⟨_, rfl⟩
            replace H : (if y469.length + y472.length < 5864062014805 then ((some (y469 ++ y472 : List (S71))).bind fun y476 => (if y476.length + y466.length < 5864062014805 then (y_c.l0 k2 l0 (y476 ++ y466) (wrap64 (x4_1 + 1))) else (none))) else (none)) = some r := by first | (rw [hy472]; with_reducible exact H) | (have H2_ := (Option.bind_some _ _).symm.trans H; rw [hy472]; with_reducible exact H2_) | (have H2_ := (Option.bind_some _ _).symm.trans H; with_reducible exact H2_) | with_reducible exact H | (rw [hy472]; exact H) | exact H
            have Ny472 := z3a hy472
            clear hy472
            by_cases c43 : y469.length + y472.length < 5864062014805
            ·rw [if_pos c43] at H
             have LMc43 := z3a c43
             clear c43
             obtain ⟨y476, hy476⟩ : ∃ y_ : List (S71), y_ = (y469 ++ y472) := ⟨_, rfl⟩
             replace H : (if y476.length + y466.length < 5864062014805 then (y_c.l0 k2 l0 (y476 ++ y466) (wrap64 (x4_1 + 1))) else (none)) = some r := by first | (rw [hy476]; with_reducible exact H) | (have H2_ := (Option.bind_some _ _).symm.trans H; rw [hy476]; with_reducible exact H2_) | (have H2_ := (Option.bind_some _ _).symm.trans H; with_reducible exact H2_) | with_reducible exact H | (rw [hy476]; exact H) | exact H
             have Ny476 := z3a hy476
             clear hy476
             by_cases c44 : y476.length + y466.length < 5864062014805
             ·rw [if_pos c44] at H
              have LMc44 := z3a c44
              clear c44
              obtain ⟨y479, hy479⟩ : ∃ y_ : List (S71), y_ = (y476 ++ y466) := ⟨_, rfl⟩
              replace H : (y_c.l0 k2 l0 y479 (wrap64 (x4_1 + 1))) = some r := by first | (rw [hy479]; with_reducible exact H) | (have H2_ := (Option.bind_some _ _).symm.trans H; rw [hy479]; with_reducible exact H2_) | (have H2_ := (Option.bind_some _ _).symm.trans H; with_reducible exact H2_) | with_reducible exact H | (rw [hy479]; exact H) | exact H
              have Ny479 := z3a hy479
              clear hy479
              have H' := z3a H
              clear H
              try go_wp2
              have n0_ := z3a (z3i HO_3.out)
              have n1_ := z3a (z3c HB.out)
              clear HO_3
              clear HB
              have HO_3 := n0_
              have HB := n1_
              clear n0_ n1_
              refine start_ (n := 15) (S := fun w' => True) (ds := []) zq3_0 (by kernel_rfl) rfl rfl trivial (fun hHeld => ?_); refine with_tabW y_c.tab6 y_c.bits6 (fun HT_ HW_ => ?_)
              generalize wr.drew = w45 at HO_3 HB hHeld ⊢
              refine pure_ (i := 0) (N := some 16) (v := ?_) (a' := ?_) zq3_1 rfl rfl (any_of HT_.out (by kernel_rfl)) (fun _ _ _ h => h) (Or.inl ⟨by rfl, ?_⟩) ?_ ?_
              rotate_left
              ·intro w'
               go_simp
               with_reducible rfl
              rotate_left
              ·simp only [Act.put, zp3a, zp3b, zp3c, i64_w, i32_w]
               rfl
              refine pure_ (i := 1) (N := some 17) (v := ?_) (a' := ?_) zq3_2 rfl rfl (any_of HT_.out (by kernel_rfl)) (fun _ _ _ h => h) (Or.inl ⟨by rfl, ?_⟩) ?_ ?_
              rotate_left
              ·intro w'
               go_simp
               with_reducible rfl
              rotate_left
              ·simp only [Act.put, zp3a, zp3b, zp3c, i64_w, i32_w]
               rfl
              refine pure_ (i := 2) (N := some 18) (v := ?_) (a' := ?_) zq3_3 rfl rfl (any_of HT_.out (by kernel_rfl)) (fun _ _ _ h => h) (Or.inl ⟨by rfl, ?_⟩) ?_ ?_
              rotate_left
              ·intro w'
               go_simp
               with_reducible rfl
              rotate_left
              ·simp only [Act.put, zp3a, zp3b, zp3c, i64_w, i32_w]
               rfl
              refine pure_ (i := 3) (N := some 19) (v := undef) (a' := ?_) zq3_4 rfl rfl (any_of HT_.out (by kernel_rfl)) (fun _ _ _ h => h) (Or.inr ⟨by rfl, rfl⟩) ?_ ?_
              rotate_left
              ·simp only [Act.put, zp3a, zp3b, zp3c, i64_w, i32_w]
               rfl
              refine pure_ (i := 4) (N := some 20) (v := undef) (a' := ?_) zq3_5 rfl rfl (any_of HT_.out (by kernel_rfl)) (fun _ _ _ h => h) (Or.inr ⟨by rfl, rfl⟩) ?_ ?_
              rotate_left
              ·simp only [Act.put, zp3a, zp3b, zp3c, i64_w, i32_w]
               rfl
              refine pure_ (i := 5) (N := some 21) (v := undef) (a' := ?_) zq3_6 rfl rfl (any_of HT_.out (by kernel_rfl)) (fun _ _ _ h => h) (Or.inr ⟨by rfl, rfl⟩) ?_ ?_
              rotate_left
              ·simp only [Act.put, zp3a, zp3b, zp3c, i64_w, i32_w]
               rfl
              refine pure_ (i := 6) (N := some 22) (v := undef) (a' := ?_) zq3_7 rfl rfl (any_of HT_.out (by kernel_rfl)) (fun _ _ _ h => h) (Or.inr ⟨by rfl, rfl⟩) ?_ ?_
              rotate_left
              ·simp only [Act.put, zp3a, zp3b, zp3c, i64_w, i32_w]
               rfl
              refine pure_ (i := 7) (N := some 23) (v := undef) (a' := ?_) #[zt3,zt3,zt3,zt3,zt3,zt3,zt3,zt3,zf3,zf3,zf3,zf3,zf3,zf3,zf3] rfl rfl (any_of HT_.out (by kernel_rfl)) (fun _ _ _ h => h) (Or.inr ⟨by rfl, rfl⟩) ?_ ?_
              rotate_left
              ·simp only [Act.put, zp3a, zp3b, zp3c, i64_w, i32_w]
               rfl
              refine pure_ (i := 8) (N := some 24) (v := undef) (a' := ?_) #[zt3,zt3,zt3,zt3,zt3,zt3,zt3,zt3,zt3,zf3,zf3,zf3,zf3,zf3,zf3] rfl rfl (any_of HT_.out (by kernel_rfl)) (fun _ _ _ h => h) (Or.inr ⟨by rfl, rfl⟩) ?_ ?_
              rotate_left
              ·simp only [Act.put, zp3a, zp3b, zp3c, i64_w, i32_w]
               rfl
              refine pure_ (i := 9) (N := some 25) (v := undef) (a' := ?_) #[zt3,zt3,zt3,zt3,zt3,zt3,zt3,zt3,zt3,zt3,zf3,zf3,zf3,zf3,zf3] rfl rfl (any_of HT_.out (by kernel_rfl)) (fun _ _ _ h => h) (Or.inr ⟨by rfl, rfl⟩) ?_ ?_
              rotate_left
              ·simp only [Act.put, zp3a, zp3b, zp3c, i64_w, i32_w]
               rfl
              refine pure_ (i := 10) (N := some 26) (v := undef) (a' := ?_) zq3_8 rfl rfl (any_of HT_.out (by kernel_rfl)) (fun _ _ _ h => h) (Or.inr ⟨by rfl, rfl⟩) ?_ ?_
              rotate_left
              ·simp only [Act.put, zp3a, zp3b, zp3c, i64_w, i32_w]
               rfl
              refine pure_ (i := 11) (N := some 27) (v := undef) (a' := ?_) zq3_9 rfl rfl (any_of HT_.out (by kernel_rfl)) (fun _ _ _ h => h) (Or.inr ⟨by rfl, rfl⟩) ?_ ?_
              rotate_left
              ·simp only [Act.put, zp3a, zp3b, zp3c, i64_w, i32_w]
               rfl
              refine pure_ (i := 12) (N := some 28) (v := undef) (a' := ?_) zq3_10 rfl rfl (any_of HT_.out (by kernel_rfl)) (fun _ _ _ h => h) (Or.inr ⟨by rfl, rfl⟩) ?_ ?_
              rotate_left
              ·simp only [Act.put, zp3a, zp3b, zp3c, i64_w, i32_w]
               rfl
              refine pure_ (i := 13) (N := some 29) (v := undef) (a' := ?_) zq3_11 rfl rfl (any_of HT_.out (by kernel_rfl)) (fun _ _ _ h => h) (Or.inr ⟨by rfl, rfl⟩) ?_ ?_
              rotate_left
              ·simp only [Act.put, zp3a, zp3b, zp3c, i64_w, i32_w]
               rfl
              refine pure_ (i := 14) (N := some 30) (v := ?_) (a' := ?_) zq3_12 rfl rfl (any_of HT_.out (by kernel_rfl)) (fun _ _ _ h => h) (Or.inl ⟨by rfl, ?_⟩) ?_ ?_
              rotate_left
              ·intro w'
               go_simp
               with_reducible rfl
              rotate_left
              ·simp only [Act.put, zp3a, zp3b, zp3c, i64_w, i32_w]
               rfl
              refine done_ (done_of HT_.out (by kernel_rfl)) ?_
              try go_wp2
              have n0_ := z3a (z3i HO_3.out)
              have n1_ := z3a (z3c HB.out)
              clear HO_3
              clear HB
              have HO_3 := n0_
              have HB := n1_
              clear n0_ n1_
              have p458 : 0 ≤ (x4_1 : Int) := z3f (by first | (with_reducible assumption) | assumption)
              have q458 : x4_1 < (l0.length : Int) := z3f (by first | (with_reducible assumption) | assumption)
              obtain ⟨ad458, e458, hx458_0, hx458_1, hx458_2⟩ := at_T71 HR0.out x4_1 p458 q458
              have hw458_2 := hx458_2
              have hw458_1 := hx458_1
              have hw458_0 := hx458_0
              cases e458
              replace hx458_0 := (HB.out.cell (z3e w _ hx458_0)).trans hx458_0
              replace hx458_1 := (HB.out.cell (z3e w _ hx458_1)).trans hx458_1
              replace hx458_2 := (HB.out.cell (z3e w _ hx458_2)).trans hx458_2
              replace p458 := eq_true p458
              replace q458 := eq_true q458
              have q47 : (x5_2 : Int) ≤ ((x3_1.length : Int) : Int) := z3f (by first | (with_reducible assumption) | assumption)
              obtain ⟨i047, hi047, _, hsz47, _⟩ := info_parts info71
              have hroom47 : x3_1.length ≤ co5 := (Kd.R_reads' HO_3.out).2.1
              have hC47 : Kd.C k71 _ Ao5 x3_1.length x3_1 := (Kd.R_reads' HO_3.out).2.2
              have q047 : (0 : Int) ≤ (x5_2 : Int) := z3f (by first | (with_reducible assumption) | assumption)
              have hcut47 := cut_from (P := Try.prog) 24 71 .i64 Try.underlying24 hi047 3 hsz47 Ao5 x3_1.length co5 x5_2 q047 q47
              have hr47 := Kd.C_drop (m := (x5_2 : Int).toNat) (c := co5) hC47 (by omega) hroom47
              obtain ⟨A47, hA47⟩ : ∃ A1, A1 = (if co5 = (x5_2 : Int).toNat then Ao5 else (Ao5 : Option Addr).map (·.add ((x5_2 : Int).toNat * 3))) := ⟨_, rfl⟩
              obtain ⟨c47, hc47⟩ : ∃ c1, c1 = co5 - (x5_2 : Int).toNat := ⟨_, rfl⟩
              have hy47 : y462.length = x3_1.length - (x5_2 : Int).toNat := (by rw [Ny462.out, List.length_drop] <;> omega)
              rw [show (x3_1).drop (x5_2 : Int).toNat = y462 from Ny462.out.symm] at hr47
              replace hr47 : Kd.C k71 _ A47 y462.length y462 := (by rw [hA47]; exact hr47)
              rw [← hy47, ← hA47, ← hc47] at hcut47
              have HR465 := z3a hr47
              have HC465 := z3a (show y462.length ≤ c47 from by rw [hy47, hc47]; exact Nat.sub_le_sub_right hroom47 _)
              clear hr47 hC47 hroom47 hi047 hsz47 hc47
              have KY47 := z3a hy47
              have KA47 := z3a hA47
              clear hy47 hA47
              have KL47 := z3a (show (x5_2 : Int).toNat ≤ x3_1.length from by omega)
              replace q47 := eq_true q47
              refine start_ (n := 10) (S := fun w' => w'.cell? (ad458.add ((x4_1).toNat * 3)) = some (.int .i64 ((rd_T71 l0 x4_1).f0)) ∧ w'.cell? ⟨(ad458.add ((x4_1).toNat * 3)).block, (ad458.add ((x4_1).toNat * 3)).off + 1, none⟩ = some (.int .i64 ((rd_T71 l0 x4_1).f1)) ∧ w'.cell? ⟨(ad458.add ((x4_1).toNat * 3)).block, (ad458.add ((x4_1).toNat * 3)).off + 2, none⟩ = some (.int .i64 ((rd_T71 l0 x4_1).f2))) (ds := []) #[zf3,zf3,zf3,zf3,zf3,zf3,zf3,zf3,zf3,zf3] (by kernel_rfl) rfl rfl ⟨((HB.out.cell (z3e w _ hw458_0)).trans hw458_0), ((HB.out.cell (z3e w _ hw458_1)).trans hw458_1), ((HB.out.cell (z3e w _ hw458_2)).trans hw458_2)⟩ (fun hHeld => ?_); refine with_tabW y_c.tab8 y_c.bits8 (fun HT_ HW_ => ?_)
              generalize w45.drew = w46 at HO_3 HB HR465 hx458_0 hx458_1 hx458_2 hHeld ⊢
              refine pure_ (i := 0) (N := some 33) (v := ?_) (a' := ?_) #[zt3,zf3,zf3,zf3,zf3,zf3,zf3,zf3,zf3,zf3] rfl rfl (any_of HT_.out (by kernel_rfl)) (fun _ _ _ h => h) (Or.inl ⟨by rfl, ?_⟩) ?_ ?_
              rotate_left
              ·intro w'
               go_simp
               with_reducible rfl
              rotate_left
              ·simp only [Act.put, zp3a, zp3b, zp3c, i64_w, i32_w]
               rfl
              refine pure_ (i := 1) (N := some 34) (v := ?_) (a' := ?_) #[zt3,zt3,zf3,zf3,zf3,zf3,zf3,zf3,zf3,zf3] rfl rfl (any_of HT_.out (by kernel_rfl)) (fun _ _ _ h => h) (Or.inl ⟨by rfl, ?_⟩) ?_ ?_
              rotate_left
              ·intro w'
               go_simp
               with_reducible rfl
              rotate_left
              ·simp only [Act.put, zp3a, zp3b, zp3c, i64_w, i32_w]
               rfl
              refine pure_ (i := 2) (N := some 35) (v := ?_) (a' := ?_) #[zt3,zt3,zt3,zf3,zf3,zf3,zf3,zf3,zf3,zf3] rfl rfl (any_of HT_.out (by kernel_rfl)) (fun _ _ _ h => h) (Or.inl ⟨by rfl, ?_⟩) ?_ ?_
              rotate_left
              ·intro w'
               go_simp
               with_reducible rfl
              rotate_left
              ·simp only [Act.put, zp3a, zp3b, zp3c, i64_w, i32_w]
               rfl
              refine pure_ (i := 5) (N := some 38) (v := ?_) (a' := ?_) #[zt3,zt3,zt3,zf3,zf3,zt3,zf3,zf3,zf3,zf3] rfl rfl (any_of HT_.out (by kernel_rfl)) (fun _ _ _ h => h) (Or.inl ⟨by rfl, ?_⟩) ?_ ?_
              rotate_left
              ·intro w'
               go_simp
               with_reducible rfl
              rotate_left
              ·simp only [Act.put, zp3a, zp3b, zp3c, i64_w, i32_w]
               rfl
              refine pure_ (i := 6) (N := some 39) (v := ?_) (a' := ?_) #[zt3,zt3,zt3,zf3,zf3,zt3,zt3,zf3,zf3,zf3] rfl rfl (any_of HT_.out (by kernel_rfl)) (fun _ _ _ h => h) (Or.inl ⟨by rfl, ?_⟩) ?_ ?_
              rotate_left
              ·intro w'
               go_simp
               with_reducible rfl
              rotate_left
              ·simp only [Act.put, zp3a, zp3b, zp3c, i64_w, i32_w]
               rfl
              refine pure_ (i := 7) (N := some 40) (v := ?_) (a' := ?_) #[zt3,zt3,zt3,zf3,zf3,zt3,zt3,zt3,zf3,zf3] rfl rfl (any_of HT_.out (by kernel_rfl)) (fun _ _ _ h => h) (Or.inl ⟨by rfl, ?_⟩) ?_ ?_
              rotate_left
              ·intro w'
               go_simp
               with_reducible rfl
              rotate_left
              ·simp only [Act.put, zp3a, zp3b, zp3c, i64_w, i32_w]
               rfl
              refine take_ (i := 3) (N := some 36) (v := ?_) (a' := ?_) #[zt3,zt3,zt3,zt3,zf3,zt3,zt3,zt3,zf3,zf3] rfl rfl (take_ofW HT_.out HW_.out (by kernel_rfl)) (fun _ _ _ h => h) (Or.inl ⟨by rfl, ?_⟩) hHeld ?_ ?_
              rotate_left
              ·rintro w' ⟨s0, s1, s2⟩
               go_simp
               with_reducible rfl
              rotate_left
              ·simp only [Act.put, zp3a, zp3b, zp3c, i64_w, i32_w]
               rfl
              refine one_ (i := 4) (N := some 37) #[zt3,zt3,zt3,zt3,zt3,zt3,zt3,zt3,zf3,zf3] rfl rfl (one_of HT_.out (by kernel_rfl)) (by decide) (fun K hK => ?_)
              refine Kd.R_lit_step k71 _ 71 ?hg (N := 37) ?hd (xs := ([(⟨(rd_T71 l0 x4_1).f0, (rd_T71 l0 x4_1).f1, (rd_T71 l0 x4_1).f2⟩ : S71)] : List (S71))) (inner := [.int .i64 ((rd_T71 l0 x4_1).f0), .int .i64 ((rd_T71 l0 x4_1).f1), .int .i64 ((rd_T71 l0 x4_1).f2)]) (ok := fun _ => True) (okp := fun _ => True) ?hr ?hp (fun _ hk => hk) trivial (Below.refl _ _) (Nat.le_refl _) (by simp) ?_; (case hd => rfl); (case hg => rfl); (case hr => first | (go_simp; done) | (go_simp; rfl)); (case hp => exact (Reps.c3 (show Kd.M k71 _ _ _ (⟨(rd_T71 l0 x4_1).f0, (rd_T71 l0 x4_1).f1, (rd_T71 l0 x4_1).f2⟩ : S71) [.int .i64 ((rd_T71 l0 x4_1).f0), .int .i64 ((rd_T71 l0 x4_1).f1), .int .i64 ((rd_T71 l0 x4_1).f2)] from (k71_mkM _ _ _ (⟨(rd_T71 l0 x4_1).f0, (rd_T71 l0 x4_1).f1, (rd_T71 l0 x4_1).f2⟩ : S71) )) (Reps.none _ _)))
              intro v460 w48 ho49 hb hg_ hnew_
              clear hg_ hnew_
              (first | rw [← Ny459.out] at ho49 | (simp only [Int.reduceToNat] at ho49; rw [← Ny459.out] at ho49))
              have n0_ := z3a (Kd.R_elder' (by (with_reducible repeat (first | apply z3g | apply z3h | apply z3i)); exact HO_3.out) (Kd.R_base ho49) hb)
              have n1_ := z3a (Kd.R_lower (Kd.R_new' ho49 (Kd.R_lt (by (with_reducible repeat (first | apply z3g | apply z3h | apply z3i)); exact HO_3.out))) (below_size (by repeat (first | (with_reducible first | exact HB.out | apply z3d | apply z3b | apply z3c) | exact HB.out))))
              have n2_ := z3a (Kd.C_below (by repeat (first | (with_reducible exact HR465.out) | (with_reducible refine Kd.C_alloc ?_ _) | (with_reducible refine Kd.C_drewN ?_ _) | (with_reducible refine Kd.C_drew ?_) | exact HR465.out)) hb)
              have n3_ := z3a (below_step (by repeat (first | (with_reducible first | exact HB.out | apply z3d | apply z3b | apply z3c) | exact HB.out)) hb)
              clear HO_3
              clear HR465
              clear HB
              have HO_3 := n0_
              have HO461 := n1_
              have HR465 := n2_
              have HB := n3_
              clear n0_ n1_ n2_ n3_
              clear hb ho49
              refine hK.out _ _ ⟨((HB.out.cell (z3e w _ hw458_0)).trans hw458_0), ((HB.out.cell (z3e w _ hw458_1)).trans hw458_1), ((HB.out.cell (z3e w _ hw458_2)).trans hw458_2)⟩ (fun hHeld => ?_)
              clear hK K
              refine norm_ (a' := ?_) ?_ ?_
              rotate_left
              ·show Act.put _ (some 37) _ = _
               simp only [Act.put, zp3a, zp3b, zp3c, i64_w, i32_w]
               rfl
              refine one_ (i := 8) (N := some 41) #[zt3,zt3,zt3,zt3,zt3,zt3,zt3,zt3,zt3,zf3] rfl rfl (one_of HT_.out (by kernel_rfl)) (by decide) (fun K hK => ?_)
              refine Kd.R_append_rows_step k71 (w0 := w) w.heap.size (by rfl) (.tmp 37) (.tmp 40) 24 71 (.agg #[(.int .i64 0), (.int .i64 0), (.int .i64 0)]) 24 rfl Try.underlying24 info71 rfl (by decide) (by omega) v460 y459 y462 _ _ _ (fun k_ => some k_ ≠ (.slice Ao5 x3_1.length co5 : Value).ownBlock) (fun _ => False) rfl rfl ?aO ?aR (fun _ _ h => h) (fun _ h => h.elim) ?aF ?aB ?aS ?aL ?_
              (case aR => repeat (first | exact (by repeat (first | (with_reducible exact HR465.out) | (with_reducible refine Kd.C_alloc ?_ _) | (with_reducible refine Kd.C_drewN ?_ _) | (with_reducible refine Kd.C_drew ?_) | exact HR465.out)) | (with_reducible refine Kd.C_alloc ?_ _) | (with_reducible refine Kd.C_drewN ?_ _) | (with_reducible refine Kd.C_drew ?_)))
              (case aB => exact (by repeat (first | (with_reducible first | exact HB.out | apply z3d | apply z3b | apply z3c) | exact HB.out)))
              (case aF => exact (fun k_ hk => Kd.fresh' (Kd.R_lt (by (with_reducible repeat (first | apply z3g | apply z3h | apply z3i)); exact HO_3.out)) k_ hk))
              (case aO => exact (by (with_reducible repeat (first | apply z3g | apply z3h | apply z3i)); exact Kd.R_mono HO461.out (fun _ hk => hk.2)))
              (case aS => exact (below_size (by repeat (first | (with_reducible first | exact HB.out | apply z3d | apply z3b | apply z3c) | exact HB.out))))
              (case aL => have := LMc40.out; omega)
              intro v467 w50 ho hb hg hat
              rw [← Ny466.out] at ho
              have n0_ := z3a (Kd.R_after (ok := (fun _ => True)) (by (with_reducible repeat (first | apply z3g | apply z3h | apply z3i)); exact HO_3.out) hg hat)
              have n1_ := z3a (hb)
              have n2_ := z3a ((show Kd.C k71 w50 A47 y462.length y462 from by rw [Ny462.out, KA47.out]; exact Kd.C_drop (m := (x5_2 : Int).toNat) (c := co5) ((Kd.R_reads' (Kd.R_after (ok := (fun _ => True)) (by (with_reducible repeat (first | apply z3g | apply z3h | apply z3i)); exact HO_3.out) hg hat)).2.2) KL47.out ((Kd.R_reads' (Kd.R_after (ok := (fun _ => True)) (by (with_reducible repeat (first | apply z3g | apply z3h | apply z3i)); exact HO_3.out) hg hat)).2.1)))
              have n3_ := z3a (ho)
              clear HO_3
              clear HB
              clear HR465
              clear HO461
              have HO_3 := n0_
              have HB := n1_
              have HR465 := n2_
              have HO468 := n3_
              clear n0_ n1_ n2_ n3_
              clear ho hb hg hat
              refine hK.out _ _ ⟨((HB.out.cell (z3e w _ hw458_0)).trans hw458_0), ((HB.out.cell (z3e w _ hw458_1)).trans hw458_1), ((HB.out.cell (z3e w _ hw458_2)).trans hw458_2)⟩ (fun hHeld => ?_)
              clear hK K
              refine norm_ (a' := ?_) ?_ ?_
              rotate_left
              ·show Act.put _ (some 41) _ = _
               simp only [Act.put, zp3a, zp3b, zp3c, i64_w, i32_w]
               rfl
              refine pure_ (i := 9) (N := some 6) (v := ?_) (a' := ?_) #[zt3,zt3,zt3,zt3,zt3,zt3,zt3,zt3,zt3,zt3] rfl rfl (any_of HT_.out (by kernel_rfl)) (fun _ _ _ h => h) (Or.inl ⟨by rfl, ?_⟩) ?_ ?_
              rotate_left
              ·intro w'
               go_simp
               with_reducible rfl
              rotate_left
              ·simp only [Act.put, zp3a, zp3b, zp3c, i64_w, i32_w]
               rfl
              refine done_ (done_of HT_.out (by kernel_rfl)) ?_
              try go_wp2_with (first | ((with_reducible refine gate_dst (N := 42) rfl ?_); refine Kd.R_lit k71 _ 71 ?hg (N := 42) ?hd (xs := ([] : List (S71))) (inner := []) (ok := fun _ => True) (okp := fun _ => True) ?hr ?hp (fun _ hk => hk) trivial (Below.refl _ _) (Nat.le_refl _) (by simp) ?_; (case hd => rfl); (case hg => rfl); (case hr => first | (go_simp; done) | (go_simp; rfl)); (case hp => exact (Reps.none _ _)); intro v470 w51 ho52 hb hg_ hnew_; clear hg_ hnew_; (first | rw [← Ny469.out] at ho52 | (simp only [Int.reduceToNat] at ho52; rw [← Ny469.out] at ho52)); have n0_ := z3a (Kd.R_elder' (by (with_reducible repeat (first | apply z3g | apply z3h | apply z3i)); exact HO_3.out) (Kd.R_base ho52) hb); have n1_ := z3a (Kd.R_elder' (by (with_reducible repeat (first | apply z3g | apply z3h | apply z3i)); exact HO468.out) (Kd.R_base ho52) hb); have n2_ := z3a (Kd.R_lower (Kd.R_new' (Kd.R_new' ho52 (Kd.R_lt (by (with_reducible repeat (first | apply z3g | apply z3h | apply z3i)); exact HO_3.out))) (Kd.R_lt (by (with_reducible repeat (first | apply z3g | apply z3h | apply z3i)); exact HO468.out))) (below_size (by repeat (first | (with_reducible first | exact HB.out | apply z3d | apply z3b | apply z3c) | exact HB.out)))); have n3_ := z3a (Kd.C_below (by repeat (first | (with_reducible exact HR465.out) | (with_reducible refine Kd.C_alloc ?_ _) | (with_reducible refine Kd.C_drewN ?_ _) | (with_reducible refine Kd.C_drew ?_) | exact HR465.out)) hb); have n4_ := z3a (below_step (by repeat (first | (with_reducible first | exact HB.out | apply z3d | apply z3b | apply z3c) | exact HB.out)) hb); clear HO_3; clear HO468; clear HR465; clear HB; have HO_3 := n0_; have HO468 := n1_; have HO471 := n2_; have HR465 := n3_; have HB := n4_; clear n0_ n1_ n2_ n3_ n4_; clear hb ho52; have q53 : (x5_2 : Int) ≤ ((x3_1.length : Int) : Int) := z3f (by first | (with_reducible assumption) | assumption); obtain ⟨i053, hi053, _, hsz53, _⟩ := info_parts info71; have hroom53 : x3_1.length ≤ co5 := (Kd.R_reads' HO_3.out).2.1; have hC53 : Kd.C k71 _ Ao5 x3_1.length x3_1 := (Kd.R_reads' HO_3.out).2.2; have hcut53 := cut_to (P := Try.prog) 24 71 .i64 Try.underlying24 hi053 Ao5 x3_1.length co5 x5_2 (z3f (by first | (with_reducible assumption) | assumption)) q53 hroom53; have hr53 := Kd.C_take (m := (x5_2 : Int).toNat) hC53 (by omega); have hy53 : y472.length = (x5_2 : Int).toNat := (by rw [Ny472.out, List.length_take]; omega); rw [← Ny472.out] at hr53; rw [← hy53] at hcut53; have HR475 := z3a hr53; have HC475 := z3a (show y472.length ≤ co5 from by omega); clear hr53 hC53 hroom53 hi053 hsz53; have KY53 := z3a hy53; clear hy53; have KL53 := z3a (show (x5_2 : Int).toNat ≤ x3_1.length from by omega); replace q53 := eq_true q53) | ((with_reducible refine gate_builtin (b := .append) (xs := #[.tmp 42, .tmp 45]) rfl ?_); at_builtin; refine Kd.R_append_rows k71 (w0 := w) w.heap.size rfl (.tmp 42) (.tmp 45) 24 71 (.agg #[(.int .i64 0), (.int .i64 0), (.int .i64 0)]) 24 rfl Try.underlying24 info71 rfl (by decide) (by omega) v470 y469 y472 _ _ _ (fun k_ => some k_ ≠ (.slice Ao5 x3_1.length co5 : Value).ownBlock ∧ some k_ ≠ (v467 : Value).ownBlock) (fun _ => False) rfl rfl ?aO ?aR (fun _ _ h => h) (fun _ h => h.elim) ?aF ?aB ?aS ?aL ?_; (case aR => repeat (first | exact (by repeat (first | (with_reducible exact HR475.out) | (with_reducible refine Kd.C_alloc ?_ _) | (with_reducible refine Kd.C_drewN ?_ _) | (with_reducible refine Kd.C_drew ?_) | exact HR475.out)) | (with_reducible refine Kd.C_alloc ?_ _) | (with_reducible refine Kd.C_drewN ?_ _) | (with_reducible refine Kd.C_drew ?_))); (case aB => exact (by repeat (first | (with_reducible first | exact HB.out | apply z3d | apply z3b | apply z3c) | exact HB.out))); (case aF => exact (fun k_ hk => ⟨Kd.fresh' (Kd.R_lt (by (with_reducible repeat (first | apply z3g | apply z3h | apply z3i)); exact HO_3.out)) k_ hk, Kd.fresh' (Kd.R_lt (by (with_reducible repeat (first | apply z3g | apply z3h | apply z3i)); exact HO468.out)) k_ hk⟩)); (case aO => exact (by (with_reducible repeat (first | apply z3g | apply z3h | apply z3i)); exact Kd.R_mono HO471.out (fun _ hk => ⟨hk.1.2, hk.2⟩))); (case aS => exact (below_size (by repeat (first | (with_reducible first | exact HB.out | apply z3d | apply z3b | apply z3c) | exact HB.out)))); (case aL => have := LMc43.out; omega); intro v477 w54 ho hb hg hat; rw [← Ny476.out] at ho; have n0_ := z3a (Kd.R_after (ok := (fun k_ => some k_ ≠ (v467 : Value).ownBlock)) (by (with_reducible repeat (first | apply z3g | apply z3h | apply z3i)); exact Kd.R_mono HO_3.out (fun _ hk => ⟨hk.1.2, hk.2⟩)) hg hat); have n1_ := z3a (Kd.R_after (ok := (fun k_ => some k_ ≠ (.slice Ao5 x3_1.length co5 : Value).ownBlock)) (by (with_reducible repeat (first | apply z3g | apply z3h | apply z3i)); exact HO468.out) hg hat); have n2_ := z3a (hb); have n3_ := z3a ((show Kd.C k71 w54 A47 y462.length y462 from by rw [Ny462.out, KA47.out]; exact Kd.C_drop (m := (x5_2 : Int).toNat) (c := co5) ((Kd.R_reads' (Kd.R_after (ok := (fun k_ => some k_ ≠ (v467 : Value).ownBlock)) (by (with_reducible repeat (first | apply z3g | apply z3h | apply z3i)); exact Kd.R_mono HO_3.out (fun _ hk => ⟨hk.1.2, hk.2⟩)) hg hat)).2.2) KL47.out ((Kd.R_reads' (Kd.R_after (ok := (fun k_ => some k_ ≠ (v467 : Value).ownBlock)) (by (with_reducible repeat (first | apply z3g | apply z3h | apply z3i)); exact Kd.R_mono HO_3.out (fun _ hk => ⟨hk.1.2, hk.2⟩)) hg hat)).2.1))); have n4_ := z3a ((show Kd.C k71 w54 Ao5 y472.length y472 from by rw [Ny472.out]; exact Kd.C_take (m := (x5_2 : Int).toNat) ((Kd.R_reads' (Kd.R_after (ok := (fun k_ => some k_ ≠ (v467 : Value).ownBlock)) (by (with_reducible repeat (first | apply z3g | apply z3h | apply z3i)); exact Kd.R_mono HO_3.out (fun _ hk => ⟨hk.1.2, hk.2⟩)) hg hat)).2.2) KL53.out)); have n5_ := z3a (ho); clear HO_3; clear HO468; clear HB; clear HR465; clear HR475; clear HO471; have HO_3 := n0_; have HO468 := n1_; have HB := n2_; have HR465 := n3_; have HR475 := n4_; have HO478 := n5_; clear n0_ n1_ n2_ n3_ n4_ n5_; clear ho hb hg hat; obtain ⟨Ao56, co56, eo56⟩ := Kd.R_slice HO468.out; subst eo56) | ((with_reducible refine gate_builtin (b := .append) (xs := #[.tmp 46, .tmp 47]) rfl ?_); at_builtin; refine Kd.R_append_rows k71 (w0 := w) w.heap.size rfl (.tmp 46) (.tmp 47) 24 71 (.agg #[(.int .i64 0), (.int .i64 0), (.int .i64 0)]) 24 rfl Try.underlying24 info71 rfl (by decide) (by omega) v477 y476 y466 _ _ _ (fun k_ => some k_ ≠ (.slice Ao5 x3_1.length co5 : Value).ownBlock ∧ some k_ ≠ (.slice Ao56 y466.length co56 : Value).ownBlock) (fun _ => False) rfl rfl ?aO ?aR (fun _ _ h => h) (fun _ h => h.elim) ?aF ?aB ?aS ?aL ?_; (case aR => repeat (first | exact (Kd.R_reads' HO468.out).2.2 | (with_reducible refine Kd.C_alloc ?_ _) | (with_reducible refine Kd.C_drewN ?_ _) | (with_reducible refine Kd.C_drew ?_))); (case aB => exact (by repeat (first | (with_reducible first | exact HB.out | apply z3d | apply z3b | apply z3c) | exact HB.out))); (case aF => exact (fun k_ hk => ⟨Kd.fresh' (Kd.R_lt (by (with_reducible repeat (first | apply z3g | apply z3h | apply z3i)); exact HO_3.out)) k_ hk, Kd.fresh' (Kd.R_lt (by (with_reducible repeat (first | apply z3g | apply z3h | apply z3i)); exact HO468.out)) k_ hk⟩)); (case aO => exact (by (with_reducible repeat (first | apply z3g | apply z3h | apply z3i)); exact HO478.out)); (case aS => exact (below_size (by repeat (first | (with_reducible first | exact HB.out | apply z3d | apply z3b | apply z3c) | exact HB.out)))); (case aL => have := LMc44.out; omega); intro v480 w55 ho hb hg hat; rw [← Ny479.out] at ho; have n0_ := z3a (Kd.R_after (ok := (fun k_ => some k_ ≠ (.slice Ao56 y466.length co56 : Value).ownBlock)) (by (with_reducible repeat (first | apply z3g | apply z3h | apply z3i)); exact HO_3.out) hg hat); have n1_ := z3a (Kd.R_after (ok := (fun k_ => some k_ ≠ (.slice Ao5 x3_1.length co5 : Value).ownBlock)) (by (with_reducible repeat (first | apply z3g | apply z3h | apply z3i)); exact HO468.out) hg hat); have n2_ := z3a (hb); have n3_ := z3a ((show Kd.C k71 w55 A47 y462.length y462 from by rw [Ny462.out, KA47.out]; exact Kd.C_drop (m := (x5_2 : Int).toNat) (c := co5) ((Kd.R_reads' (Kd.R_after (ok := (fun k_ => some k_ ≠ (.slice Ao56 y466.length co56 : Value).ownBlock)) (by (with_reducible repeat (first | apply z3g | apply z3h | apply z3i)); exact HO_3.out) hg hat)).2.2) KL47.out ((Kd.R_reads' (Kd.R_after (ok := (fun k_ => some k_ ≠ (.slice Ao56 y466.length co56 : Value).ownBlock)) (by (with_reducible repeat (first | apply z3g | apply z3h | apply z3i)); exact HO_3.out) hg hat)).2.1))); have n4_ := z3a ((show Kd.C k71 w55 Ao5 y472.length y472 from by rw [Ny472.out]; exact Kd.C_take (m := (x5_2 : Int).toNat) ((Kd.R_reads' (Kd.R_after (ok := (fun k_ => some k_ ≠ (.slice Ao56 y466.length co56 : Value).ownBlock)) (by (with_reducible repeat (first | apply z3g | apply z3h | apply z3i)); exact HO_3.out) hg hat)).2.2) KL53.out)); have n5_ := z3a (ho); clear HO_3; clear HO468; clear HB; clear HR465; clear HR475; clear HO478; have HO_3 := n0_; have HO468 := n1_; have HB := n2_; have HR465 := n3_; have HR475 := n4_; have HO481 := n5_; clear n0_ n1_ n2_ n3_ n4_ n5_; clear ho hb hg hat))
              go_roundg k2
              case measure => have := HK1.out; have := HK2.out; omega
              case rel => exact ⟨(y479), (wrap64 (x4_1 + 1)), (by first | rfl | (simp; done) | (simp [*]; done)), H', ⟨by have := HK1.out; have := HK2.out; omega⟩, ⟨by (with_reducible repeat (first | apply z3g | apply z3h | apply z3i)); exact Kd.R_mono HO481.out (fun _ hk => trivial)⟩, ⟨by repeat (first | (with_reducible first | exact HB.out | apply z3d | apply z3b | apply z3c) | exact HB.out)⟩⟩
             ·rw [if_neg c44] at H
              exact absurd H (by simp)
            ·rw [if_neg c43] at H
             exact absurd H (by simp)
           ·rw [if_neg c40] at H
            exact absurd H (by simp)
          ·rw [if_neg c39] at H
           exact absurd H (by simp)
         ·rw [if_neg c38] at H
          exact absurd H (by simp)
        ·rw [if_neg c37] at H
         exact absurd H (by simp)
       ·rw [if_neg c36] at H
        exact absurd H (by simp)
   ·rw [if_neg c4] at H
    have c4b0 : decide (x4_1 < (l0.length : Int)) = false := decide_eq_false c4
    clear c4
    obtain rfl := Option.some.inj H
    go_wp2
    go_ret
    exact ⟨_, by first | rfl | (simp [errW_none, errW_some] <;> rfl) | (simp [*, errW_none, errW_some] <;> rfl), by (with_reducible repeat (first | apply z3g | apply z3h | apply z3i)); exact HO_3.out, by repeat (first | (with_reducible first | exact HB.out | apply z3d | apply z3b | apply z3c) | exact HB.out)⟩
theorem eqA71 (d : Nat) (w : World) (x0 y0 : Int) (x1 y1 : Int) (x2 y2 : Int) :
  (Op.equalIn (d + 2) 71 (.agg #[.int .i64 x0, .int .i64 x1, .int .i64 x2]) (.agg #[.int .i64 y0, .int .i64 y1, .int .i64 y2])).run Try.prog w = .ok (x0 == y0 && (x1 == y1 && (x2 == y2))) w := by
 refine eqA_of Try.underlying71 (by kernel_rfl) ?_
 refine eqf_cons (by rfl) (by go_simp; rfl) (by go_simp; rfl) (by go_simp) ?_
 refine eqf_cons (by rfl) (by go_simp; rfl) (by go_simp; rfl) (by go_simp) ?_
 exact eqf_last (by rfl) (by go_simp; rfl) (by go_simp; rfl) (by go_simp)
end Go.Proofs.Ytkcicbigpbdjpaa.P
end
