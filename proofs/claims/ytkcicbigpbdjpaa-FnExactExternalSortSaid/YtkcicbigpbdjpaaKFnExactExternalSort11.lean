-- merged by pack.py out of Px31 (words: printed by the kit's print.sh; what this claim does not use is left out)

import Derived.Test.YtkcicbigpbdjpaaKFnExactExternalSort1
import Derived.Test.YtkcicbigpbdjpaaKFnExactExternalSort6
namespace Go.Proofs.Ytkcicbigpbdjpaa
abbrev zq11_0 : Array Bool := #[false, false, false, false, false, false, false, false, false, false, false, false, false, false, false, false, false, false]
abbrev zq11_1 : Array Bool := #[true, false, false, false, false, false, false, false, false, false, false, false, false, false, false, false, false, false]
abbrev zq11_2 : Array Bool := #[true, true, false, false, false, false, false, false, false, false, false, false, false, false, false, false, false, false]
abbrev zq11_3 : Array Bool := #[true, true, true, false, false, false, false, false, false, false, false, false, false, false, false, false, false, false]
abbrev zq11_4 : Array Bool := #[true, true, true, true, false, false, false, false, false, false, false, false, false, false, false, false, false, false]
abbrev zq11_5 : Array Bool := #[true, true, true, true, true, false, false, false, false, false, false, false, false, false, false, false, false, false]
abbrev zq11_6 : Array Bool := #[true, true, true, true, true, true, false, false, false, false, false, false, false, false, false, false, false, false]
abbrev zq11_7 : Array Bool := #[true, true, true, true, true, true, true, false, false, false, false, false, false, false, false, false, false, false]
abbrev zq11_8 : Array Bool := #[true, true, true, true, true, true, true, true, false, false, false, false, false, false, false, false, false, false]
abbrev zq11_9 : Array Bool := #[true, true, true, true, true, true, true, true, true, false, false, false, false, false, false, false, false, false]
abbrev zq11_10 : Array Bool := #[true, true, true, true, true, true, true, true, true, true, false, false, false, false, false, false, false, false]
abbrev zq11_11 : Array Bool := #[true, true, true, true, true, true, true, true, true, true, true, true, true, false, false, false, false, false]
abbrev zq11_12 : Array Bool := #[true, true, true, true, true, true, true, true, true, true, true, true, true, true, false, false, false, false]
abbrev zq11_13 : Array Bool := #[true, true, true, true, true, true, true, true, true, true, true, true, true, true, true, false, false, false]
abbrev zq11_14 : Array Bool := #[true, true, true, true, true, true, true, true, true, true, true, true, true, true, true, true, false, false]
abbrev zq11_15 : Array Bool := #[true, true, true, true, true, true, true, true, true, true, true, true, true, true, true, true, true, false]
abbrev zq11_16 : Array Bool := #[true, true, true, true, true, true, true, true, true, true, true, true, true, true, true, true, true, true]
section
open Go.RowKit Go.Proofs.YtkcicbigpbdjpaaW.PrintWords Go.Proofs.YtkcicbigpbdjpaaW.PrintLast Go.Proofs.YtkcicbigpbdjpaaW.PrintMore
abbrev z11a := @Aside0.mk
abbrev z11b := @pw_below_drewN
abbrev z11c := @below_drew1
abbrev z11d := @below_alloc
abbrev z11e := @World.block_lt_of_cell?
abbrev z11f := @of_decide_eq_true
abbrev z11g := @decide_eq_true
abbrev z11h := @Kd.V_alloc
abbrev z11i := @Kd.V_drewN
abbrev z11j := @Kd.V_drew
end
theorem zp11a {α : Type} (l : List α) (i : Nat) (a : α) : l.toArray.setIfInBounds i a = (l.set i a).toArray := List.setIfInBounds_toArray l i a
theorem zp11b {α : Type} (x : α) (l : List α) (a : α) : (x :: l).set 0 a = a :: l := List.set_cons_zero
theorem zp11c {α : Type} (x : α) (l : List α) (n : Nat) (a : α) : (x :: l).set (n + 1) a = x :: l.set n a := List.set_cons_succ
end Go.Proofs.Ytkcicbigpbdjpaa
section
namespace Go.Proofs.Ytkcicbigpbdjpaa.P
open Go.RowKit Go.Proofs.YtkcicbigpbdjpaaW.PrintWords Go.Proofs.YtkcicbigpbdjpaaW.PrintLast Go.Proofs.YtkcicbigpbdjpaaW.PrintMore
attribute [local go_sem] max2_int min2_int max_two min_two max_three min_three max_four min_four
set_option linter.unusedVariables false
set_option linter.unusedSimpArgs false
mutual
def y_d.l0 : Nat → List (S71) → List (S71) → List (S71) → Option ((List (S71)))
 | 0, _, _, _ => none
 | k + 1, x0, x1, x5 => if (x0.length : Int) > 0 then (y_d.j1 k x0 x1 x5 true) else (y_d.j1 k x0 x1 x5 (decide ((x1.length : Int) > 0)))
def y_d.j1 : Nat → List (S71) → List (S71) → List (S71) → Bool → Option ((List (S71)))
 | 0, _, _, _, _ => none
 | k + 1, x0, x1, x5, x14 => if x14 = true then (if (x1.length : Int) = 0 then (if 0 < (x0.length : Int) then (if x5.length < 5864062014805 then (if 1 ≤ (x0.length : Int) then (y_d.l0 k (x0.drop 1) x1 (x5 ++ [(⟨(rd_T71 x0 0).f0, (rd_T71 x0 0).f1, (rd_T71 x0 0).f2⟩ : S71)])) else (none)) else (none)) else (none)) else (if (x0.length : Int) > 0 then (if 0 < (x0.length : Int) then (if 0 < (x1.length : Int) then ((y_eb.f ((rd_T71 x0 0).f0) ((rd_T71 x0 0).f1) ((rd_T71 x0 0).f2) ((rd_T71 x1 0).f0) ((rd_T71 x1 0).f1) ((rd_T71 x1 0).f2)).bind fun t760 => (if t760 ≤ 0 then (if x5.length < 5864062014805 then (if 1 ≤ (x0.length : Int) then (y_d.l0 k (x0.drop 1) x1 (x5 ++ [(⟨(rd_T71 x0 0).f0, (rd_T71 x0 0).f1, (rd_T71 x0 0).f2⟩ : S71)])) else (none)) else (none)) else (if x5.length < 5864062014805 then (if 1 ≤ (x1.length : Int) then (y_d.l0 k x0 (x1.drop 1) (x5 ++ [(⟨(rd_T71 x1 0).f0, (rd_T71 x1 0).f1, (rd_T71 x1 0).f2⟩ : S71)])) else (none)) else (none)))) else (none)) else (none)) else (if 0 < (x1.length : Int) then (if x5.length < 5864062014805 then (if 1 ≤ (x1.length : Int) then (y_d.l0 k x0 (x1.drop 1) (x5 ++ [(⟨(rd_T71 x1 0).f0, (rd_T71 x1 0).f1, (rd_T71 x1 0).f2⟩ : S71)])) else (none)) else (none)) else (none)))) else (some x5)
end
def y_d.f (k : Nat) (l0 : List (S71)) (l1 : List (S71)) : Option ((List (S71))) := y_d.l0 k l0 l1 (([] : List (S71)))
theorem y_d.mono_l : ∀ k, (∀ y0 y1 y2, LeO (y_d.l0 k y0 y1 y2) (y_d.l0 (k + 1) y0 y1 y2)) ∧ (∀ y0 y1 y2 y3, LeO (y_d.j1 k y0 y1 y2 y3) (y_d.j1 (k + 1) y0 y1 y2 y3))
 | 0 => ⟨fun _ _ _ r h => by simp [y_d.l0] at h, fun _ _ _ _ r h => by simp [y_d.j1] at h⟩
 | k + 1 => by
  obtain ⟨ih0, ih1⟩ := y_d.mono_l k
  refine ⟨?_, ?_⟩
  ·intro y0 y1 y2
   unfold y_d.l0
   repeat' first
   | (with_reducible exact ih0 _ _ _)
   | (with_reducible exact ih1 _ _ _ _)
   | (with_reducible exact LeO.refl _)
   | (with_reducible exact LeO.none _)
   | (with_reducible refine LeO.ite ?_ ?_)
   | (with_reducible refine LeO.bind ?_ (fun _ => ?_))
   | exact ih0 _ _ _
   | exact ih1 _ _ _ _
   | exact LeO.none _
   | refine LeO.ite ?_ ?_
   | refine LeO.bind ?_ (fun _ => ?_)
  ·intro y0 y1 y2 y3
   unfold y_d.j1
   repeat' first
   | (with_reducible exact ih0 _ _ _)
   | (with_reducible exact ih1 _ _ _ _)
   | (with_reducible exact LeO.refl _)
   | (with_reducible exact LeO.none _)
   | (with_reducible refine LeO.ite ?_ ?_)
   | (with_reducible refine LeO.bind ?_ (fun _ => ?_))
   | exact ih0 _ _ _
   | exact ih1 _ _ _ _
   | exact LeO.none _
   | refine LeO.ite ?_ ?_
   | refine LeO.bind ?_ (fun _ => ?_)
theorem y_d.mono : ∀ a0 a1 k, LeO (y_d.f k a0 a1) (y_d.f (k + 1) a0 a1) := by
 intro a0 a1 k
 obtain ⟨ih0, ih1⟩ := y_d.mono_l k
 unfold y_d.f
 repeat' first
   | (with_reducible exact ih0 _ _ _)
   | (with_reducible exact ih1 _ _ _ _)
   | (with_reducible exact LeO.refl _)
   | (with_reducible exact LeO.none _)
   | (with_reducible refine LeO.ite ?_ ?_)
   | (with_reducible refine LeO.bind ?_ (fun _ => ?_))
   | exact ih0 _ _ _
   | exact ih1 _ _ _ _
   | exact LeO.none _
   | refine LeO.ite ?_ ?_
   | refine LeO.bind ?_ (fun _ => ?_)
def y_d.T3 : Bool × List (List Nat × List Nat) := (true, [([], []), ([0], [0]), ([1], [1]), ([2], [2]), ([3], [3]), ([4, 3], [3, 4]), ([5, 3], [3, 5]), ([6, 3, 3], [3, 6]), ([7], [7]), ([8, 7], [7, 8]), ([9, 7], [7, 9]), ([7], [7]), ([11, 7], [7, 11]), ([12, 7], [7, 12]), ([10, 13, 7, 7], [7, 10, 13]), ([14, 7], [7, 14]), ([7, 15, 3], [3, 7, 15]), ([3, 16], [3, 16])])
def y_d.B3 : List Nat := [0, 1, 3, 7, 15, 31, 63, 127, 255, 511, 1023, 255, 2303, 6399, 16383, 32767, 65535, 131071]
theorem y_d.tab3 : rtab .any (opsOf Try.f46 3) = y_d.T3 := by kernel_rfl
theorem y_d.bits3 : waitsOk y_d.T3.2 y_d.B3 = true := by kernel_rfl
set_option maxHeartbeats 8000000 in
set_option maxRecDepth 100000 in
theorem y_d.calls (k : Nat) (P0_ : Nat → Prop) (A0 : Option Addr) (c0 : Nat) (l0 : List (S71)) (P1_ : Nat → Prop) (A1 : Option Addr) (c1 : Nat) (l1 : List (S71)) (r : List (S71)) (w : World) (hs0 : Kd.V k71 71 w w.heap.size (fun k_ => P0_ k_) (.slice A0 l0.length c0) l0) (hs1 : Kd.V k71 71 w w.heap.size (fun k_ => P1_ k_) (.slice A1 l1.length c1) l1) (h : y_d.f k l0 l1 = some r) :
  Calls Try.prog 46 #[.slice A0 l0.length c0, .slice A1 l1.length c1] w fun e w' => ∃ v0_ : Value, e = .returned (v0_) ∧ Kd.R k71 71 w' w.heap.size (fun k_ => (w.heap.size ≤ k_)) v0_ r ∧ Below w.heap.size w w' := by
 have hu71 := Try.underlying71
 have HO0 := z11a (show Kd.V k71 71 w w.heap.size (fun k_ => ((P0_ k_ ∨ P1_ k_) ∨ w.heap.size ≤ k_)) (.slice A0 l0.length c0) l0 from Kd.V_mono hs0 (fun k_ hk => .inl (.inl hk)))
 have HO1 := z11a (show Kd.V k71 71 w w.heap.size (fun k_ => ((P0_ k_ ∨ P1_ k_) ∨ w.heap.size ≤ k_)) (.slice A1 l1.length c1) l1 from Kd.V_mono hs1 (fun k_ hk => .inl (.inr hk)))
 have HB := z11a (Below.refl w.heap.size w)
 have H : (y_d.l0 k l0 l1 (([] : List (S71)))) = some r := h
 clear h
 obtain ⟨y746, hy746⟩ : ∃ y_ : List (S71), y_ = (([] : List (S71))) := ⟨_, rfl⟩
 replace H : (y_d.l0 k l0 l1 y746) = some r := by first | (rw [hy746]; with_reducible exact H) | (have H2_ := (Option.bind_some _ _).symm.trans H; rw [hy746]; with_reducible exact H2_) | (have H2_ := (Option.bind_some _ _).symm.trans H; with_reducible exact H2_) | with_reducible exact H | (rw [hy746]; exact H) | exact H
 have Ny746 := z11a hy746
 clear hy746
 have H' := z11a H
 clear H
 go_enter Try.func46, Try.ntmps46
 go_wp2_with (first | ((with_reducible refine gate_dst (N := 6) rfl ?_); (try (refine gate_guard (by rfl) ?_; dsimp only)); refine Kd.R_lit k71 _ 71 ?hg (N := 6) ?hd (xs := ([] : List (S71))) (inner := []) (ok := fun _ => True) (okp := fun _ => True) ?hr ?hp (fun _ hk => hk) trivial (Below.refl _ _) (Nat.le_refl _) (by simp) ?_; (case hd => rfl); (case hg => rfl); (case hr => first | (go_simp; done) | (go_simp; rfl)); (case hp => exact (Reps.none _ _)); intro v747 w3 ho4 hb hg_ hnew_; clear hg_ hnew_; (first | rw [← Ny746.out] at ho4 | (simp only [Int.reduceToNat] at ho4; rw [← Ny746.out] at ho4)); have n0_ := z11a (Kd.V_elder' (by (with_reducible repeat (first | apply z11h | apply z11i | apply z11j)); exact HO0.out) (Kd.R_base ho4) hb); have n1_ := z11a (Kd.V_elder' (by (with_reducible repeat (first | apply z11h | apply z11i | apply z11j)); exact HO1.out) (Kd.R_base ho4) hb); have n2_ := z11a (Kd.R_lower (Kd.R_newM (M := fun k_ => (w.heap.size ≤ k_)) ho4 (below_size (by repeat (first | (with_reducible first | exact HB.out | apply z11d | apply z11b | apply z11c) | exact HB.out))) (fun k_ h_ => h_)) (below_size (by repeat (first | (with_reducible first | exact HB.out | apply z11d | apply z11b | apply z11c) | exact HB.out)))); have n3_ := z11a (below_step (by repeat (first | (with_reducible first | exact HB.out | apply z11d | apply z11b | apply z11c) | exact HB.out)) hb); clear HO0; clear HO1; clear HB; have HO0 := n0_; have HO1 := n1_; have HO748 := n2_; have HB := n3_; clear n0_ n1_ n2_ n3_; clear hb ho4))
 go_loopg [0, 1, 5] k (fun kq v0 v1 v5 w' => ∃ (x0_1 : List (S71)) (x1_1 : List (S71)) (x5_1 : List (S71)), Aside0 (y_d.l0 kq x0_1 x1_1 x5_1 = some r) ∧ Aside0 (kq ≤ k) ∧ Aside0 (Kd.V k71 71 w' w.heap.size (fun k_ => ((P0_ k_ ∨ P1_ k_) ∨ w.heap.size ≤ k_) ∧ some k_ ≠ (v5 : Value).ownBlock) v0 x0_1) ∧ Aside0 (Kd.V k71 71 w' w.heap.size (fun k_ => ((P0_ k_ ∨ P1_ k_) ∨ w.heap.size ≤ k_) ∧ some k_ ≠ (v5 : Value).ownBlock) v1 x1_1) ∧ Aside0 (Kd.R k71 71 w' w.heap.size (fun k_ => (w.heap.size ≤ k_)) v5 x5_1) ∧ Aside0 (Below w.heap.size w w'))
 case atStart => exact ⟨(l0), (l1), (y746), H', ⟨Nat.le_refl _⟩, ⟨by (with_reducible repeat (first | apply z11h | apply z11i | apply z11j)); exact HO0.out⟩, ⟨by (with_reducible repeat (first | apply z11h | apply z11i | apply z11j)); exact HO1.out⟩, ⟨by (with_reducible repeat (first | apply Kd.R_alloc | apply Kd.R_drewN | apply Kd.R_drew)); exact Kd.R_mono HO748.out (fun _ hk => hk.1)⟩, ⟨by repeat (first | (with_reducible first | exact HB.out | apply z11d | apply z11b | apply z11c) | exact HB.out)⟩⟩
 case round =>
  clear H'
  try clear c1
  try clear p2
  try clear c4
  obtain ⟨x0_1, x1_1, x5_1, HA, HK1, HO_0, HO_1, HO_5, HB⟩ := hrel
  cases gk with
  | zero => exact absurd HA.out (by simp [y_d.l0])
  | succ k1 =>
   have H := HA.out
   clear HA
   simp only [y_d.l0] at H
   have HC5 := z11a H
   clear H
   go_upto_region 2 with (fail)
   go_cut [14] (fun v14 wc => ∃ (kq : Nat) (x14_4 : Bool), v14 = .bool x14_4 ∧ Aside0 (y_d.j1 kq x0_1 x1_1 x5_1 x14_4 = some r) ∧ Aside0 (kq ≤ k1) ∧ Aside0 (Kd.V k71 71 wc w.heap.size (fun k_ => ((P0_ k_ ∨ P1_ k_) ∨ w.heap.size ≤ k_) ∧ some k_ ≠ (u5 : Value).ownBlock) u0 x0_1) ∧ Aside0 (Kd.V k71 71 wc w.heap.size (fun k_ => ((P0_ k_ ∨ P1_ k_) ∨ w.heap.size ≤ k_) ∧ some k_ ≠ (u5 : Value).ownBlock) u1 x1_1) ∧ Aside0 (Kd.R k71 71 wc w.heap.size (fun k_ => (w.heap.size ≤ k_)) u5 x5_1) ∧ Aside0 (Below w.heap.size w wc))
   case first =>
    have H := HC5.out
    clear HC5
    by_cases c6 : (x0_1.length : Int) > 0
    ·rw [if_pos c6] at H
     have c6b0 : decide (0 < (x0_1.length : Int)) = true := z11g c6
     have c6b1 : decide (0 < x0_1.length) = true := z11g (by omega)
     clear c6
     (first | rw [c6b0] | (simp only [i64_w, i32_w]; rw [c6b0]) | skip)
     have H' := z11a H
     clear H
     obtain ⟨Ao7, co7, eo7⟩ := Kd.V_slice HO_0.out
     subst eo7
     go_wp2
     go_meet
     case rel => exact ⟨_, (true), (by first | rfl | (simp; done) | (simp [*]; done)), H', ⟨by have := HK1.out; first | omega | exact Nat.le_refl _⟩, ⟨by (with_reducible repeat (first | apply z11h | apply z11i | apply z11j)); exact HO_0.out⟩, ⟨by (with_reducible repeat (first | apply z11h | apply z11i | apply z11j)); exact HO_1.out⟩, ⟨by (with_reducible repeat (first | apply Kd.R_alloc | apply Kd.R_drewN | apply Kd.R_drew)); exact HO_5.out⟩, ⟨by repeat (first | (with_reducible first | exact HB.out | apply z11d | apply z11b | apply z11c) | exact HB.out)⟩⟩
    ·rw [if_neg c6] at H
     have c6b0 : decide (0 < (x0_1.length : Int)) = false := decide_eq_false c6
     have c6b1 : decide (0 < x0_1.length) = false := decide_eq_false (by omega)
     clear c6
     (first | rw [c6b0] | (simp only [i64_w, i32_w]; rw [c6b0]) | skip)
     have H' := z11a H
     clear H
     obtain ⟨Ao8, co8, eo8⟩ := Kd.V_slice HO_0.out
     subst eo8
     obtain ⟨Ao9, co9, eo9⟩ := Kd.V_slice HO_1.out
     subst eo9
     go_wp2
     go_meet
     case rel => exact ⟨_, (decide ((x1_1.length : Int) > 0)), (by first | rfl | (simp; done) | (simp [*]; done)), H', ⟨by have := HK1.out; first | omega | exact Nat.le_refl _⟩, ⟨by (with_reducible repeat (first | apply z11h | apply z11i | apply z11j)); exact HO_0.out⟩, ⟨by (with_reducible repeat (first | apply z11h | apply z11i | apply z11j)); exact HO_1.out⟩, ⟨by (with_reducible repeat (first | apply Kd.R_alloc | apply Kd.R_drewN | apply Kd.R_drew)); exact HO_5.out⟩, ⟨by repeat (first | (with_reducible first | exact HB.out | apply z11d | apply z11b | apply z11c) | exact HB.out)⟩⟩
   case rest =>
    clear HC5
    try clear c1
    try clear p2
    try clear c4
    try clear c6
    try clear c6b0
    try clear c6b1
    try clear p2
    obtain ⟨kq, x14_4, rfl, HA, HJ4, HO_0, HO_1, HO_5, HB⟩ := hcut
    cases kq with
    | zero => exact absurd HA.out (by simp [y_d.j1])
    | succ kj4 =>
     have H := HA.out
     clear HA
     simp only [y_d.j1] at H
     by_cases c10 : x14_4 = true
     ·subst c10
      rw [if_pos rfl] at H
      by_cases c11 : (x1_1.length : Int) = 0
      ·rw [if_pos c11] at H
       have c11b0 : ((x1_1.length : Int) == 0) = true := beq_iff_eq.mpr c11
       have c11b1 : ((x1_1.length : Int) != 0) = false := bne_eq_false_iff_eq.mpr c11
       clear c11
       by_cases c12 : 0 < (x0_1.length : Int)
       ·rw [if_pos c12] at H
        have c12b0 : decide (0 < (x0_1.length : Int)) = true := z11g c12
        have c12b1 : decide (0 < x0_1.length) = true := z11g (by omega)
        clear c12
        by_cases c13 : x5_1.length < 5864062014805
        ·rw [if_pos c13] at H
         have LMc13 := z11a c13
         clear c13
         obtain ⟨y750, hy750⟩ : ∃ y_ : List (S71), y_ = (x5_1 ++ [(⟨(rd_T71 x0_1 0).f0, (rd_T71 x0_1 0).f1, (rd_T71 x0_1 0).f2⟩ : S71)]) := ⟨_, rfl⟩
         replace H : (if 1 ≤ (x0_1.length : Int) then (y_d.l0 kj4 (x0_1.drop 1) x1_1 y750) else (none)) = some r := by first | (rw [hy750]; with_reducible exact H) | (have H2_ := (Option.bind_some _ _).symm.trans H; rw [hy750]; with_reducible exact H2_) | (have H2_ := (Option.bind_some _ _).symm.trans H; with_reducible exact H2_) | with_reducible exact H | (rw [hy750]; exact H) | exact H
         have Ny750 := z11a hy750
         clear hy750
         by_cases c14 : 1 ≤ (x0_1.length : Int)
         ·rw [if_pos c14] at H
          have c14b0 := eq_true c14
          have c14b1 : decide (1 ≤ (x0_1.length : Int)) = true := z11g c14
          clear c14
          obtain ⟨y753, hy753⟩ : ∃ y_ : List (S71), y_ = (x0_1.drop 1) := ⟨_, rfl⟩
          replace H : (y_d.l0 kj4 y753 x1_1 y750) = some r := by first | (rw [hy753]; with_reducible exact H) | (have H2_ := (Option.bind_some _ _).symm.trans H; rw [hy753]; with_reducible exact H2_) | (have H2_ := (Option.bind_some _ _).symm.trans H; with_reducible exact H2_) | with_reducible exact H | (rw [hy753]; exact H) | exact H
          have Ny753 := z11a hy753
          clear hy753
          have H' := z11a H
          clear H
          try go_wp2
          have n0_ := z11a (z11j HO_0.out)
          have n1_ := z11a (z11j HO_1.out)
          have n2_ := z11a (Kd.R_drew HO_5.out)
          have n3_ := z11a (z11c HB.out)
          clear HO_0
          clear HO_1
          clear HO_5
          clear HB
          have HO_0 := n0_
          have HO_1 := n1_
          have HO_5 := n2_
          have HB := n3_
          clear n0_ n1_ n2_ n3_
          obtain ⟨Ao16, co16, eo16⟩ := Kd.V_slice HO_1.out
          (first | subst eo16 | (injection eo16 with f1_ f2_ f3_; have f4_ := f1_.symm; have f5_ := f3_.symm; clear f1_ f2_ f3_; subst f4_; subst f5_))
          refine start_ (n := 18) (S := fun w' => True) (ds := []) zq11_0 (by kernel_rfl) rfl rfl trivial (fun hHeld => ?_); refine with_tabW y_d.tab3 y_d.bits3 (fun HT_ HW_ => ?_)
          generalize wc.drew = w15 at HO_0 HO_1 HO_5 HB hHeld ⊢
          refine pure_ (i := 0) (N := some 15) (v := ?_) (a' := ?_) zq11_1 rfl rfl (any_of HT_.out (by kernel_rfl)) (fun _ _ _ h => h) (Or.inl ⟨by rfl, ?_⟩) ?_ ?_
          rotate_left
          ·intro w'
           go_simp
           with_reducible rfl
          rotate_left
          ·simp only [Act.put, zp11a, zp11b, zp11c, i64_w, i32_w]
           rfl
          refine pure_ (i := 1) (N := some 16) (v := ?_) (a' := ?_) zq11_2 rfl rfl (any_of HT_.out (by kernel_rfl)) (fun _ _ _ h => h) (Or.inl ⟨by rfl, ?_⟩) ?_ ?_
          rotate_left
          ·intro w'
           go_simp
           with_reducible rfl
          rotate_left
          ·simp only [Act.put, zp11a, zp11b, zp11c, i64_w, i32_w]
           rfl
          refine pure_ (i := 2) (N := some 17) (v := ?_) (a' := ?_) zq11_3 rfl rfl (any_of HT_.out (by kernel_rfl)) (fun _ _ _ h => h) (Or.inl ⟨by rfl, ?_⟩) ?_ ?_
          rotate_left
          ·intro w'
           go_simp
           with_reducible rfl
          rotate_left
          ·simp only [Act.put, zp11a, zp11b, zp11c, i64_w, i32_w]
           rfl
          refine pure_ (i := 3) (N := some 18) (v := ?_) (a' := ?_) zq11_4 rfl rfl (any_of HT_.out (by kernel_rfl)) (fun _ _ _ h => h) (Or.inl ⟨by rfl, ?_⟩) ?_ ?_
          rotate_left
          ·intro w'
           go_simp
           with_reducible rfl
          rotate_left
          ·simp only [Act.put, zp11a, zp11b, zp11c, i64_w, i32_w]
           rfl
          refine pure_ (i := 4) (N := some 19) (v := undef) (a' := ?_) zq11_5 rfl rfl (any_of HT_.out (by kernel_rfl)) (fun _ _ _ h => h) (Or.inr ⟨by rfl, rfl⟩) ?_ ?_
          rotate_left
          ·simp only [Act.put, zp11a, zp11b, zp11c, i64_w, i32_w]
           rfl
          refine pure_ (i := 5) (N := some 20) (v := undef) (a' := ?_) zq11_6 rfl rfl (any_of HT_.out (by kernel_rfl)) (fun _ _ _ h => h) (Or.inr ⟨by rfl, rfl⟩) ?_ ?_
          rotate_left
          ·simp only [Act.put, zp11a, zp11b, zp11c, i64_w, i32_w]
           rfl
          refine pure_ (i := 6) (N := some 21) (v := undef) (a' := ?_) zq11_7 rfl rfl (any_of HT_.out (by kernel_rfl)) (fun _ _ _ h => h) (Or.inr ⟨by rfl, rfl⟩) ?_ ?_
          rotate_left
          ·simp only [Act.put, zp11a, zp11b, zp11c, i64_w, i32_w]
           rfl
          refine pure_ (i := 7) (N := some 22) (v := undef) (a' := ?_) zq11_8 rfl rfl (any_of HT_.out (by kernel_rfl)) (fun _ _ _ h => h) (Or.inr ⟨by rfl, rfl⟩) ?_ ?_
          rotate_left
          ·simp only [Act.put, zp11a, zp11b, zp11c, i64_w, i32_w]
           rfl
          refine pure_ (i := 8) (N := some 23) (v := undef) (a' := ?_) zq11_9 rfl rfl (any_of HT_.out (by kernel_rfl)) (fun _ _ _ h => h) (Or.inr ⟨by rfl, rfl⟩) ?_ ?_
          rotate_left
          ·simp only [Act.put, zp11a, zp11b, zp11c, i64_w, i32_w]
           rfl
          refine pure_ (i := 9) (N := some 24) (v := undef) (a' := ?_) zq11_10 rfl rfl (any_of HT_.out (by kernel_rfl)) (fun _ _ _ h => h) (Or.inr ⟨by rfl, rfl⟩) ?_ ?_
          rotate_left
          ·simp only [Act.put, zp11a, zp11b, zp11c, i64_w, i32_w]
           rfl
          refine pure_ (i := 10) (N := some 25) (v := undef) (a' := ?_) #[true, true, true, true, true, true, true, true, true, true, true, false, false, false, false, false, false, false] rfl rfl (any_of HT_.out (by kernel_rfl)) (fun _ _ _ h => h) (Or.inr ⟨by rfl, rfl⟩) ?_ ?_
          rotate_left
          ·simp only [Act.put, zp11a, zp11b, zp11c, i64_w, i32_w]
           rfl
          refine pure_ (i := 11) (N := some 26) (v := undef) (a' := ?_) #[true, true, true, true, true, true, true, true, true, true, true, true, false, false, false, false, false, false] rfl rfl (any_of HT_.out (by kernel_rfl)) (fun _ _ _ h => h) (Or.inr ⟨by rfl, rfl⟩) ?_ ?_
          rotate_left
          ·simp only [Act.put, zp11a, zp11b, zp11c, i64_w, i32_w]
           rfl
          refine pure_ (i := 12) (N := some 27) (v := undef) (a' := ?_) zq11_11 rfl rfl (any_of HT_.out (by kernel_rfl)) (fun _ _ _ h => h) (Or.inr ⟨by rfl, rfl⟩) ?_ ?_
          rotate_left
          ·simp only [Act.put, zp11a, zp11b, zp11c, i64_w, i32_w]
           rfl
          refine pure_ (i := 13) (N := some 28) (v := undef) (a' := ?_) zq11_12 rfl rfl (any_of HT_.out (by kernel_rfl)) (fun _ _ _ h => h) (Or.inr ⟨by rfl, rfl⟩) ?_ ?_
          rotate_left
          ·simp only [Act.put, zp11a, zp11b, zp11c, i64_w, i32_w]
           rfl
          refine pure_ (i := 14) (N := some 29) (v := undef) (a' := ?_) zq11_13 rfl rfl (any_of HT_.out (by kernel_rfl)) (fun _ _ _ h => h) (Or.inr ⟨by rfl, rfl⟩) ?_ ?_
          rotate_left
          ·simp only [Act.put, zp11a, zp11b, zp11c, i64_w, i32_w]
           rfl
          refine pure_ (i := 15) (N := some 30) (v := undef) (a' := ?_) zq11_14 rfl rfl (any_of HT_.out (by kernel_rfl)) (fun _ _ _ h => h) (Or.inr ⟨by rfl, rfl⟩) ?_ ?_
          rotate_left
          ·simp only [Act.put, zp11a, zp11b, zp11c, i64_w, i32_w]
           rfl
          refine pure_ (i := 16) (N := some 31) (v := undef) (a' := ?_) zq11_15 rfl rfl (any_of HT_.out (by kernel_rfl)) (fun _ _ _ h => h) (Or.inr ⟨by rfl, rfl⟩) ?_ ?_
          rotate_left
          ·simp only [Act.put, zp11a, zp11b, zp11c, i64_w, i32_w]
           rfl
          refine pure_ (i := 17) (N := some 32) (v := ?_) (a' := ?_) zq11_16 rfl rfl (any_of HT_.out (by kernel_rfl)) (fun _ _ _ h => h) (Or.inl ⟨by rfl, ?_⟩) ?_ ?_
          rotate_left
          ·intro w'
           go_simp
           with_reducible rfl
          rotate_left
          ·simp only [Act.put, zp11a, zp11b, zp11c, i64_w, i32_w]
           rfl
          refine done_ (done_of HT_.out (by kernel_rfl)) ?_
          obtain ⟨Ao17, co17, eo17⟩ := Kd.V_slice HO_0.out
          subst eo17
          have p749 : 0 ≤ (0 : Int) := (by omega)
          have q749 : 0 < (x0_1.length : Int) := z11f (by first | (with_reducible assumption) | assumption)
          obtain ⟨ad749, e749, hx749_0, hx749_1, hx749_2⟩ := at_T71 (Kd.V_reads' HO_0.out).2.2 0 p749 q749
          cases e749
          have qi749 : (0 < x0_1.length) = True := eq_true (by omega)
          (try rw [show ((0 : Int)).toNat = 0 from rfl] at hx749_0)
          (try rw [show 0 * 3 = 0 from rfl] at hx749_0)
          (try rw [Addr.add_zero'] at hx749_0)
          (try rw [show ((0 : Int)).toNat = 0 from rfl] at hx749_1)
          (try rw [show 0 * 3 = 0 from rfl] at hx749_1)
          (try rw [Addr.add_zero'] at hx749_1)
          (try rw [show ((0 : Int)).toNat = 0 from rfl] at hx749_2)
          (try rw [show 0 * 3 = 0 from rfl] at hx749_2)
          (try rw [Addr.add_zero'] at hx749_2)
          replace p749 := eq_true p749
          replace q749 := eq_true q749
          try go_wp2_with (first | ((with_reducible refine gate_builtin (b := .append) (xs := #[.tmp 33, .tmp 37]) rfl ?_); (try (refine gate_guard (by rfl) ?_; dsimp only)); at_builtin; refine Kd.R_append k71 (w0 := w) w.heap.size rfl (.tmp 33) (.tmp 37) 24 71 (.agg #[(.int .i64 0), (.int .i64 0), (.int .i64 0)]) 24 rfl Try.underlying24 info71 rfl (by decide) (by omega) u5 x5_1 (⟨(rd_T71 x0_1 0).f0, (rd_T71 x0_1 0).f1, (rd_T71 x0_1 0).f2⟩ : S71) [.int .i64 ((rd_T71 x0_1 0).f0), .int .i64 ((rd_T71 x0_1 0).f1), .int .i64 ((rd_T71 x0_1 0).f2)] (fun k_ => (w.heap.size ≤ k_)) (fun _ => False) rfl rfl ?aP (fun _ hk => hk.elim) ?aF ?aO ?aB ?aS ?aL ?_; (case aP => exact k71_mkM _ _ _ (⟨(rd_T71 x0_1 0).f0, (rd_T71 x0_1 0).f1, (rd_T71 x0_1 0).f2⟩ : S71)); (case aB => exact (by repeat (first | (with_reducible first | exact HB.out | apply z11d | apply z11b | apply z11c) | exact HB.out))); (case aF => exact (fun k_ hk => (Nat.le_trans (below_size (by repeat (first | (with_reducible first | exact HB.out | apply z11d | apply z11b | apply z11c) | exact HB.out))) hk))); (case aO => exact (by (with_reducible repeat (first | apply Kd.R_alloc | apply Kd.R_drewN | apply Kd.R_drew)); exact HO_5.out)); (case aS => exact (below_size (by repeat (first | (with_reducible first | exact HB.out | apply z11d | apply z11b | apply z11c) | exact HB.out)))); (case aL => have := LMc13.out; omega); intro v751 w18 ho hb hg hat; rw [← Ny750.out] at ho; have n0_ := z11a (Kd.V_afterv (ok := (fun k_ => ((P0_ k_ ∨ P1_ k_) ∨ w.heap.size ≤ k_))) (by (with_reducible repeat (first | apply z11h | apply z11i | apply z11j)); exact HO_0.out) hg hat); have n1_ := z11a (Kd.V_afterv (ok := (fun k_ => ((P0_ k_ ∨ P1_ k_) ∨ w.heap.size ≤ k_))) (by (with_reducible repeat (first | apply z11h | apply z11i | apply z11j)); exact HO_1.out) hg hat); have n2_ := z11a (hb); have n3_ := z11a (ho); clear HO_0; clear HO_1; clear HB; clear HO_5; have HO_0 := n0_; have HO_1 := n1_; have HB := n2_; have HO752 := n3_; clear n0_ n1_ n2_ n3_; clear ho hb hg hat; have q19 : (1 : Int) ≤ ((x0_1.length : Int) : Int) := z11f (by first | (with_reducible assumption) | assumption); obtain ⟨i019, hi019, _, hsz19, _⟩ := info_parts info71; have hroom19 : x0_1.length ≤ co17 := (Kd.V_reads' HO_0.out).2.1; have hC19 : Kd.F k71 _ _ (some ad749) x0_1.length x0_1 := (Kd.V_at (base := w.heap.size) HO_0.out).2.2; have hcut19 := cut_from (P := Try.prog) 24 71 .i64 Try.underlying24 hi019 3 hsz19 (some ad749) x0_1.length co17 1 (by omega) q19; have hr19 := Kd.F_cut (m := (1 : Int).toNat) (c := co17) hC19 (by omega) hroom19; obtain ⟨A19, hA19⟩ : ∃ A1, A1 = (if co17 = (1 : Int).toNat then (some ad749) else ((some ad749) : Option Addr).map (·.add ((1 : Int).toNat * 3))) := ⟨_, rfl⟩; obtain ⟨c19, hc19⟩ : ∃ c1, c1 = co17 - (1 : Int).toNat := ⟨_, rfl⟩; have hy19 : y753.length = x0_1.length - (1 : Int).toNat := (by rw [Ny753.out, List.length_drop] <;> omega); rw [show (x0_1).drop (1 : Int).toNat = y753 from Ny753.out.symm] at hr19; replace hr19 : Kd.F k71 _ _ A19 y753.length y753 := (by rw [hA19]; exact hr19); rw [← hy19, ← hA19, ← hc19] at hcut19; have HO757 := z11a (show Kd.V k71 71 _ w.heap.size _ (.slice A19 y753.length c19) y753 from Kd.V_mk (by rw [hy19, hc19]; exact Nat.sub_le_sub_right hroom19 _) hr19); have HC757 := z11a (show y753.length ≤ c19 from by rw [hy19, hc19]; exact Nat.sub_le_sub_right hroom19 _); clear hr19 hC19 hroom19 hi019 hsz19 hc19; have KY19 := z11a hy19; have KA19 := z11a hA19; clear hy19 hA19; replace q19 := eq_true q19))
          go_roundg kj4
          case measure => have := HK1.out; have := HJ4.out; omega
          case rel => exact ⟨(y753), (x1_1), (y750), H', ⟨by have := HK1.out; have := HJ4.out; omega⟩, ⟨by (with_reducible repeat (first | apply z11h | apply z11i | apply z11j)); exact HO757.out⟩, ⟨by (with_reducible repeat (first | apply z11h | apply z11i | apply z11j)); exact HO_1.out⟩, ⟨by (with_reducible repeat (first | apply Kd.R_alloc | apply Kd.R_drewN | apply Kd.R_drew)); exact HO752.out⟩, ⟨by repeat (first | (with_reducible first | exact HB.out | apply z11d | apply z11b | apply z11c) | exact HB.out)⟩⟩
         ·rw [if_neg c14] at H
          exact absurd H (by simp)
        ·rw [if_neg c13] at H
         exact absurd H (by simp)
       ·rw [if_neg c12] at H
        exact absurd H (by simp)
      ·rw [if_neg c11] at H
       have c11b0 : ((x1_1.length : Int) == 0) = false := beq_eq_false_iff_ne.mpr c11
       have c11b1 : ((x1_1.length : Int) != 0) = true := bne_iff_ne.mpr c11
       have c11b2 : ¬ (x1_1 = []) := fun h_ => c11 (by rw [h_]; rfl)
       by_cases c20 : (x0_1.length : Int) > 0
       ·rw [if_pos c20] at H
        have c20b0 : decide (0 < (x0_1.length : Int)) = true := z11g c20
        have c20b1 : decide (0 < x0_1.length) = true := z11g (by omega)
        clear c20
        by_cases c21 : 0 < (x0_1.length : Int)
        ·rw [if_pos c21] at H
         have c21b0 : decide (0 < (x0_1.length : Int)) = true := z11g c21
         have c21b1 : decide (0 < x0_1.length) = true := z11g (by omega)
         clear c21
         by_cases c22 : 0 < (x1_1.length : Int)
         ·rw [if_pos c22] at H
          have c22b0 : decide (0 < (x1_1.length : Int)) = true := z11g c22
          have c22b1 : decide (0 < x1_1.length) = true := z11g (by omega)
          clear c22
          replace H := Option.bind_eq_some_iff.mp H
          obtain ⟨t760, A230, H⟩ := H
          have A23 := z11a A230
          clear A230
          by_cases c24 : t760 ≤ 0
          ·rw [if_pos c24] at H
           have c24b0 : decide (t760 ≤ 0) = true := z11g c24
           clear c24
           by_cases c25 : x5_1.length < 5864062014805
           ·rw [if_pos c25] at H
            have LMc25 := z11a c25
            clear c25
            obtain ⟨y762, hy762⟩ : ∃ y_ : List (S71), y_ = (x5_1 ++ [(⟨(rd_T71 x0_1 0).f0, (rd_T71 x0_1 0).f1, (rd_T71 x0_1 0).f2⟩ : S71)]) := ⟨_, rfl⟩
            replace H : (if 1 ≤ (x0_1.length : Int) then (y_d.l0 kj4 (x0_1.drop 1) x1_1 y762) else (none)) = some r := by first | (rw [hy762]; with_reducible exact H) | (have H2_ := (Option.bind_some _ _).symm.trans H; rw [hy762]; with_reducible exact H2_) | (have H2_ := (Option.bind_some _ _).symm.trans H; with_reducible exact H2_) | with_reducible exact H | (rw [hy762]; exact H) | exact H
            have Ny762 := z11a hy762
            clear hy762
            by_cases c26 : 1 ≤ (x0_1.length : Int)
            ·rw [if_pos c26] at H
             have c26b0 := eq_true c26
             have c26b1 : decide (1 ≤ (x0_1.length : Int)) = true := z11g c26
             clear c26
             obtain ⟨y765, hy765⟩ : ∃ y_ : List (S71), y_ = (x0_1.drop 1) := ⟨_, rfl⟩
             replace H : (y_d.l0 kj4 y765 x1_1 y762) = some r := by first | (rw [hy765]; with_reducible exact H) | (have H2_ := (Option.bind_some _ _).symm.trans H; rw [hy765]; with_reducible exact H2_) | (have H2_ := (Option.bind_some _ _).symm.trans H; with_reducible exact H2_) | with_reducible exact H | (rw [hy765]; exact H) | exact H
             have Ny765 := z11a hy765
             clear hy765
             have H' := z11a H
             clear H
             try go_wp2
             have n0_ := z11a (z11j HO_0.out)
             have n1_ := z11a (z11j HO_1.out)
             have n2_ := z11a (Kd.R_drew HO_5.out)
             have n3_ := z11a (z11c HB.out)
             clear HO_0
             clear HO_1
             clear HO_5
             clear HB
             have HO_0 := n0_
             have HO_1 := n1_
             have HO_5 := n2_
             have HB := n3_
             clear n0_ n1_ n2_ n3_
             obtain ⟨Ao28, co28, eo28⟩ := Kd.V_slice HO_1.out
             (first | subst eo28 | (injection eo28 with f1_ f2_ f3_; have f4_ := f1_.symm; have f5_ := f3_.symm; clear f1_ f2_ f3_; subst f4_; subst f5_))
             obtain ⟨Ao29, co29, eo29⟩ := Kd.V_slice HO_0.out
             (first | subst eo29 | (injection eo29 with f1_ f2_ f3_; have f4_ := f1_.symm; have f5_ := f3_.symm; clear f1_ f2_ f3_; subst f4_; subst f5_))
             have p758 : 0 ≤ (0 : Int) := (by omega)
             have q758 : 0 < (x0_1.length : Int) := z11f (by first | (with_reducible assumption) | assumption)
             obtain ⟨ad758, e758, hx758_0, hx758_1, hx758_2⟩ := at_T71 (Kd.V_reads' HO_0.out).2.2 0 p758 q758
             cases e758
             have qi758 : (0 < x0_1.length) = True := eq_true (by omega)
             (try rw [show ((0 : Int)).toNat = 0 from rfl] at hx758_0)
             (try rw [show 0 * 3 = 0 from rfl] at hx758_0)
             (try rw [Addr.add_zero'] at hx758_0)
             (try rw [show ((0 : Int)).toNat = 0 from rfl] at hx758_1)
             (try rw [show 0 * 3 = 0 from rfl] at hx758_1)
             (try rw [Addr.add_zero'] at hx758_1)
             (try rw [show ((0 : Int)).toNat = 0 from rfl] at hx758_2)
             (try rw [show 0 * 3 = 0 from rfl] at hx758_2)
             (try rw [Addr.add_zero'] at hx758_2)
             replace p758 := eq_true p758
             replace q758 := eq_true q758
             have p759 : 0 ≤ (0 : Int) := (by omega)
             have q759 : 0 < (x1_1.length : Int) := z11f (by first | (with_reducible assumption) | assumption)
             obtain ⟨ad759, e759, hx759_0, hx759_1, hx759_2⟩ := at_T71 (Kd.V_reads' HO_1.out).2.2 0 p759 q759
             cases e759
             have qi759 : (0 < x1_1.length) = True := eq_true (by omega)
             (try rw [show ((0 : Int)).toNat = 0 from rfl] at hx759_0)
             (try rw [show 0 * 3 = 0 from rfl] at hx759_0)
             (try rw [Addr.add_zero'] at hx759_0)
             (try rw [show ((0 : Int)).toNat = 0 from rfl] at hx759_1)
             (try rw [show 0 * 3 = 0 from rfl] at hx759_1)
             (try rw [Addr.add_zero'] at hx759_1)
             (try rw [show ((0 : Int)).toNat = 0 from rfl] at hx759_2)
             (try rw [show 0 * 3 = 0 from rfl] at hx759_2)
             (try rw [Addr.add_zero'] at hx759_2)
             replace p759 := eq_true p759
             replace q759 := eq_true q759
             refine start_ (n := 18) (S := fun w' => w'.cell? ad758 = some (.int .i64 ((rd_T71 x0_1 0).f0)) ∧ w'.cell? ⟨ad758.block, ad758.off + 1, none⟩ = some (.int .i64 ((rd_T71 x0_1 0).f1)) ∧ w'.cell? ⟨ad758.block, ad758.off + 2, none⟩ = some (.int .i64 ((rd_T71 x0_1 0).f2)) ∧ w'.cell? ad759 = some (.int .i64 ((rd_T71 x1_1 0).f0)) ∧ w'.cell? ⟨ad759.block, ad759.off + 1, none⟩ = some (.int .i64 ((rd_T71 x1_1 0).f1)) ∧ w'.cell? ⟨ad759.block, ad759.off + 2, none⟩ = some (.int .i64 ((rd_T71 x1_1 0).f2))) (ds := []) zq11_0 (by kernel_rfl) rfl rfl ⟨hx758_0, hx758_1, hx758_2, hx759_0, hx759_1, hx759_2⟩ (fun hHeld => ?_); refine with_tabW y_d.tab3 y_d.bits3 (fun HT_ HW_ => ?_)
             generalize wc.drew = w27 at HO_0 HO_1 HO_5 HB hx758_0 hx758_1 hx758_2 hx759_0 hx759_1 hx759_2 hHeld ⊢
             refine pure_ (i := 0) (N := some 15) (v := ?_) (a' := ?_) zq11_1 rfl rfl (any_of HT_.out (by kernel_rfl)) (fun _ _ _ h => h) (Or.inl ⟨by rfl, ?_⟩) ?_ ?_
             rotate_left
             ·intro w'
              go_simp
              with_reducible rfl
             rotate_left
             ·simp only [Act.put, zp11a, zp11b, zp11c, i64_w, i32_w]
              rfl
             refine pure_ (i := 1) (N := some 16) (v := ?_) (a' := ?_) zq11_2 rfl rfl (any_of HT_.out (by kernel_rfl)) (fun _ _ _ h => h) (Or.inl ⟨by rfl, ?_⟩) ?_ ?_
             rotate_left
             ·intro w'
              go_simp
              with_reducible rfl
             rotate_left
             ·simp only [Act.put, zp11a, zp11b, zp11c, i64_w, i32_w]
              rfl
             refine pure_ (i := 2) (N := some 17) (v := ?_) (a' := ?_) zq11_3 rfl rfl (any_of HT_.out (by kernel_rfl)) (fun _ _ _ h => h) (Or.inl ⟨by rfl, ?_⟩) ?_ ?_
             rotate_left
             ·intro w'
              go_simp
              with_reducible rfl
             rotate_left
             ·simp only [Act.put, zp11a, zp11b, zp11c, i64_w, i32_w]
              rfl
             refine pure_ (i := 3) (N := some 18) (v := ?_) (a' := ?_) zq11_4 rfl rfl (any_of HT_.out (by kernel_rfl)) (fun _ _ _ h => h) (Or.inl ⟨by rfl, ?_⟩) ?_ ?_
             rotate_left
             ·intro w'
              go_simp
              with_reducible rfl
             rotate_left
             ·simp only [Act.put, zp11a, zp11b, zp11c, i64_w, i32_w]
              rfl
             refine pure_ (i := 4) (N := some 19) (v := ?_) (a' := ?_) zq11_5 rfl rfl (any_of HT_.out (by kernel_rfl)) (fun _ _ _ h => h) (Or.inl ⟨by rfl, ?_⟩) ?_ ?_
             rotate_left
             ·intro w'
              go_simp
              with_reducible rfl
             rotate_left
             ·simp only [Act.put, zp11a, zp11b, zp11c, i64_w, i32_w]
              rfl
             refine pure_ (i := 5) (N := some 20) (v := ?_) (a' := ?_) zq11_6 rfl rfl (any_of HT_.out (by kernel_rfl)) (fun _ _ _ h => h) (Or.inl ⟨by rfl, ?_⟩) ?_ ?_
             rotate_left
             ·intro w'
              go_simp
              with_reducible rfl
             rotate_left
             ·simp only [Act.put, zp11a, zp11b, zp11c, i64_w, i32_w]
              rfl
             refine pure_ (i := 6) (N := some 21) (v := ?_) (a' := ?_) zq11_7 rfl rfl (any_of HT_.out (by kernel_rfl)) (fun _ _ _ h => h) (Or.inl ⟨by rfl, ?_⟩) ?_ ?_
             rotate_left
             ·intro w'
              go_simp
              with_reducible rfl
             rotate_left
             ·simp only [Act.put, zp11a, zp11b, zp11c, i64_w, i32_w]
              rfl
             refine pure_ (i := 7) (N := some 22) (v := ?_) (a' := ?_) zq11_8 rfl rfl (any_of HT_.out (by kernel_rfl)) (fun _ _ _ h => h) (Or.inl ⟨by rfl, ?_⟩) ?_ ?_
             rotate_left
             ·intro w'
              go_simp
              with_reducible rfl
             rotate_left
             ·simp only [Act.put, zp11a, zp11b, zp11c, i64_w, i32_w]
              rfl
             refine pure_ (i := 8) (N := some 23) (v := ?_) (a' := ?_) zq11_9 rfl rfl (any_of HT_.out (by kernel_rfl)) (fun _ _ _ h => h) (Or.inl ⟨by rfl, ?_⟩) ?_ ?_
             rotate_left
             ·intro w'
              go_simp
              with_reducible rfl
             rotate_left
             ·simp only [Act.put, zp11a, zp11b, zp11c, i64_w, i32_w]
              rfl
             refine pure_ (i := 9) (N := some 24) (v := ?_) (a' := ?_) zq11_10 rfl rfl (any_of HT_.out (by kernel_rfl)) (fun _ _ _ h => h) (Or.inl ⟨by rfl, ?_⟩) ?_ ?_
             rotate_left
             ·intro w'
              go_simp
              with_reducible rfl
             rotate_left
             ·simp only [Act.put, zp11a, zp11b, zp11c, i64_w, i32_w]
              rfl
             refine pure_ (i := 11) (N := some 26) (v := ?_) (a' := ?_) #[true, true, true, true, true, true, true, true, true, true, false, true, false, false, false, false, false, false] rfl rfl (any_of HT_.out (by kernel_rfl)) (fun _ _ _ h => h) (Or.inl ⟨by rfl, ?_⟩) ?_ ?_
             rotate_left
             ·intro w'
              go_simp
              with_reducible rfl
             rotate_left
             ·simp only [Act.put, zp11a, zp11b, zp11c, i64_w, i32_w]
              rfl
             refine pure_ (i := 12) (N := some 27) (v := ?_) (a' := ?_) #[true, true, true, true, true, true, true, true, true, true, false, true, true, false, false, false, false, false] rfl rfl (any_of HT_.out (by kernel_rfl)) (fun _ _ _ h => h) (Or.inl ⟨by rfl, ?_⟩) ?_ ?_
             rotate_left
             ·intro w'
              go_simp
              with_reducible rfl
             rotate_left
             ·simp only [Act.put, zp11a, zp11b, zp11c, i64_w, i32_w]
              rfl
             refine take_ (i := 10) (N := some 25) (v := ?_) (a' := ?_) zq11_11 rfl rfl (take_ofW HT_.out HW_.out (by kernel_rfl)) (fun _ _ _ h => h) (Or.inl ⟨by rfl, ?_⟩) hHeld ?_ ?_
             rotate_left
             ·rintro w' ⟨s0, s1, s2, s3, s4, s5⟩
              go_simp
              with_reducible rfl
             rotate_left
             ·simp only [Act.put, zp11a, zp11b, zp11c, i64_w, i32_w]
              rfl
             refine take_ (i := 13) (N := some 28) (v := ?_) (a' := ?_) zq11_12 rfl rfl (take_ofW HT_.out HW_.out (by kernel_rfl)) (fun _ _ _ h => h) (Or.inl ⟨by rfl, ?_⟩) hHeld ?_ ?_
             rotate_left
             ·rintro w' ⟨s0, s1, s2, s3, s4, s5⟩
              go_simp
              with_reducible rfl
             rotate_left
             ·simp only [Act.put, zp11a, zp11b, zp11c, i64_w, i32_w]
              rfl
             refine one_ (i := 14) (N := some 29) zq11_13 rfl rfl (one_of HT_.out (by kernel_rfl)) (by decide) (fun K hK => ?_)
             refine goes_ Try.func122 (by kernel_rfl) rfl #[.agg #[.int .i64 ((rd_T71 x0_1 0).f0), .int .i64 ((rd_T71 x0_1 0).f1), .int .i64 ((rd_T71 x0_1 0).f2)], .agg #[.int .i64 ((rd_T71 x1_1 0).f0), .int .i64 ((rd_T71 x1_1 0).f1), .int .i64 ((rd_T71 x1_1 0).f2)]] (by rfl) rfl rfl (by (try simp only [List.map_toArray, List.map_cons, List.map_nil]); first | done | rfl | (simp only [List.length_drop, List.length_take]; rfl)) ?_
             with_reducible refine (y_eb.calls ((rd_T71 x0_1 0).f0) ((rd_T71 x0_1 0).f1) ((rd_T71 x0_1 0).f2) ((rd_T71 x1_1 0).f0) ((rd_T71 x1_1 0).f1) ((rd_T71 x1_1 0).f2) t760 _ A23.out).mono ?_
             rintro e w30 ⟨rfl, hb⟩
             have HS0_ := (hb.cell (z11e _ _ (hHeld.1))).trans (hHeld.1)
             have HS1_ := (hb.cell (z11e _ _ (hHeld.2.1))).trans (hHeld.2.1)
             have HS2_ := (hb.cell (z11e _ _ (hHeld.2.2.1))).trans (hHeld.2.2.1)
             have HS3_ := (hb.cell (z11e _ _ (hHeld.2.2.2.1))).trans (hHeld.2.2.2.1)
             have HS4_ := (hb.cell (z11e _ _ (hHeld.2.2.2.2.1))).trans (hHeld.2.2.2.2.1)
             have HS5_ := (hb.cell (z11e _ _ (hHeld.2.2.2.2.2))).trans (hHeld.2.2.2.2.2)
             refine ⟨_, rfl, ?_⟩
             have n0_ := z11a (Kd.V_below (by (with_reducible repeat (first | apply z11h | apply z11i | apply z11j)); exact HO_0.out) hb)
             have n1_ := z11a (Kd.V_below (by (with_reducible repeat (first | apply z11h | apply z11i | apply z11j)); exact HO_1.out) hb)
             have n2_ := z11a (Kd.R_below (by (with_reducible repeat (first | apply Kd.R_alloc | apply Kd.R_drewN | apply Kd.R_drew)); exact HO_5.out) hb)
             have n3_ := z11a (below_step (by repeat (first | (with_reducible first | exact HB.out | apply z11d | apply z11b | apply z11c) | exact HB.out)) hb)
             clear HO_0
             clear HO_1
             clear HO_5
             clear HB
             have HO_0 := n0_
             have HO_1 := n1_
             have HO_5 := n2_
             have HB := n3_
             clear n0_ n1_ n2_ n3_
             (try clear hb)
             (try clear hb2)
             (try clear hk)
             (try clear hi)
             refine hK.out _ _ ⟨HS0_, HS1_, HS2_, HS3_, HS4_, HS5_⟩ (fun hHeld => ?_)
             clear hK K
             refine norm_ (a' := ?_) ?_ ?_
             rotate_left
             ·show Act.put _ (some 29) _ = _
              simp only [Act.put, zp11a, zp11b, zp11c, i64_w, i32_w]
              rfl
             refine pure_ (i := 15) (N := some 30) (v := ?_) (a' := ?_) zq11_14 rfl rfl (any_of HT_.out (by kernel_rfl)) (fun _ _ _ h => h) (Or.inl ⟨by rfl, ?_⟩) ?_ ?_
             rotate_left
             ·intro w'
              go_simp
              with_reducible rfl
             rotate_left
             ·simp only [Act.put, zp11a, zp11b, zp11c, i64_w, i32_w]
              rfl
             refine pure_ (i := 16) (N := some 31) (v := ?_) (a' := ?_) zq11_15 rfl rfl (any_of HT_.out (by kernel_rfl)) (fun _ _ _ h => h) (Or.inl ⟨by rfl, ?_⟩) ?_ ?_
             rotate_left
             ·intro w'
              go_simp
              with_reducible rfl
             rotate_left
             ·simp only [Act.put, zp11a, zp11b, zp11c, i64_w, i32_w]
              rfl
             refine pure_ (i := 17) (N := some 32) (v := ?_) (a' := ?_) zq11_16 rfl rfl (any_of HT_.out (by kernel_rfl)) (fun _ _ _ h => h) (Or.inl ⟨by rfl, ?_⟩) ?_ ?_
             rotate_left
             ·intro w'
              go_simp
              with_reducible rfl
             rotate_left
             ·simp only [Act.put, zp11a, zp11b, zp11c, i64_w, i32_w]
              rfl
             refine done_ (done_of HT_.out (by kernel_rfl)) ?_
             have p761 : 0 ≤ (0 : Int) := (by omega)
             have q761 : 0 < (x0_1.length : Int) := z11f (by first | (with_reducible assumption) | assumption)
             obtain ⟨ad761, e761, hx761_0, hx761_1, hx761_2⟩ := at_T71 (Kd.V_reads' HO_0.out).2.2 0 p761 q761
             obtain rfl : ad758 = ad761 := (by injection e761)
             have qi761 : (0 < x0_1.length) = True := eq_true (by omega)
             (try rw [show ((0 : Int)).toNat = 0 from rfl] at hx761_0)
             (try rw [show 0 * 3 = 0 from rfl] at hx761_0)
             (try rw [Addr.add_zero'] at hx761_0)
             (try rw [show ((0 : Int)).toNat = 0 from rfl] at hx761_1)
             (try rw [show 0 * 3 = 0 from rfl] at hx761_1)
             (try rw [Addr.add_zero'] at hx761_1)
             (try rw [show ((0 : Int)).toNat = 0 from rfl] at hx761_2)
             (try rw [show 0 * 3 = 0 from rfl] at hx761_2)
             (try rw [Addr.add_zero'] at hx761_2)
             replace p761 := eq_true p761
             replace q761 := eq_true q761
             try go_wp2_with (first | ((with_reducible refine gate_builtin (b := .append) (xs := #[.tmp 33, .tmp 37]) rfl ?_); (try (refine gate_guard (by rfl) ?_; dsimp only)); at_builtin; refine Kd.R_append k71 (w0 := w) w.heap.size rfl (.tmp 33) (.tmp 37) 24 71 (.agg #[(.int .i64 0), (.int .i64 0), (.int .i64 0)]) 24 rfl Try.underlying24 info71 rfl (by decide) (by omega) u5 x5_1 (⟨(rd_T71 x0_1 0).f0, (rd_T71 x0_1 0).f1, (rd_T71 x0_1 0).f2⟩ : S71) [.int .i64 ((rd_T71 x0_1 0).f0), .int .i64 ((rd_T71 x0_1 0).f1), .int .i64 ((rd_T71 x0_1 0).f2)] (fun k_ => (w.heap.size ≤ k_)) (fun _ => False) rfl rfl ?aP (fun _ hk => hk.elim) ?aF ?aO ?aB ?aS ?aL ?_; (case aP => exact k71_mkM _ _ _ (⟨(rd_T71 x0_1 0).f0, (rd_T71 x0_1 0).f1, (rd_T71 x0_1 0).f2⟩ : S71)); (case aB => exact (by repeat (first | (with_reducible first | exact HB.out | apply z11d | apply z11b | apply z11c) | exact HB.out))); (case aF => exact (fun k_ hk => (Nat.le_trans (below_size (by repeat (first | (with_reducible first | exact HB.out | apply z11d | apply z11b | apply z11c) | exact HB.out))) hk))); (case aO => exact (by (with_reducible repeat (first | apply Kd.R_alloc | apply Kd.R_drewN | apply Kd.R_drew)); exact HO_5.out)); (case aS => exact (below_size (by repeat (first | (with_reducible first | exact HB.out | apply z11d | apply z11b | apply z11c) | exact HB.out)))); (case aL => have := LMc25.out; omega); intro v763 w31 ho hb hg hat; rw [← Ny762.out] at ho; have n0_ := z11a (Kd.V_afterv (ok := (fun k_ => ((P0_ k_ ∨ P1_ k_) ∨ w.heap.size ≤ k_))) (by (with_reducible repeat (first | apply z11h | apply z11i | apply z11j)); exact HO_0.out) hg hat); have n1_ := z11a (Kd.V_afterv (ok := (fun k_ => ((P0_ k_ ∨ P1_ k_) ∨ w.heap.size ≤ k_))) (by (with_reducible repeat (first | apply z11h | apply z11i | apply z11j)); exact HO_1.out) hg hat); have n2_ := z11a (hb); have n3_ := z11a (ho); clear HO_0; clear HO_1; clear HB; clear HO_5; have HO_0 := n0_; have HO_1 := n1_; have HB := n2_; have HO764 := n3_; clear n0_ n1_ n2_ n3_; clear ho hb hg hat; have q32 : (1 : Int) ≤ ((x0_1.length : Int) : Int) := z11f (by first | (with_reducible assumption) | assumption); obtain ⟨i032, hi032, _, hsz32, _⟩ := info_parts info71; have hroom32 : x0_1.length ≤ co29 := (Kd.V_reads' HO_0.out).2.1; have hC32 : Kd.F k71 _ _ (some ad758) x0_1.length x0_1 := (Kd.V_at (base := w.heap.size) HO_0.out).2.2; have hcut32 := cut_from (P := Try.prog) 24 71 .i64 Try.underlying24 hi032 3 hsz32 (some ad758) x0_1.length co29 1 (by omega) q32; have hr32 := Kd.F_cut (m := (1 : Int).toNat) (c := co29) hC32 (by omega) hroom32; obtain ⟨A32, hA32⟩ : ∃ A1, A1 = (if co29 = (1 : Int).toNat then (some ad758) else ((some ad758) : Option Addr).map (·.add ((1 : Int).toNat * 3))) := ⟨_, rfl⟩; obtain ⟨c32, hc32⟩ : ∃ c1, c1 = co29 - (1 : Int).toNat := ⟨_, rfl⟩; have hy32 : y765.length = x0_1.length - (1 : Int).toNat := (by rw [Ny765.out, List.length_drop] <;> omega); rw [show (x0_1).drop (1 : Int).toNat = y765 from Ny765.out.symm] at hr32; replace hr32 : Kd.F k71 _ _ A32 y765.length y765 := (by rw [hA32]; exact hr32); rw [← hy32, ← hA32, ← hc32] at hcut32; have HO769 := z11a (show Kd.V k71 71 _ w.heap.size _ (.slice A32 y765.length c32) y765 from Kd.V_mk (by rw [hy32, hc32]; exact Nat.sub_le_sub_right hroom32 _) hr32); have HC769 := z11a (show y765.length ≤ c32 from by rw [hy32, hc32]; exact Nat.sub_le_sub_right hroom32 _); clear hr32 hC32 hroom32 hi032 hsz32 hc32; have KY32 := z11a hy32; have KA32 := z11a hA32; clear hy32 hA32; replace q32 := eq_true q32))
             go_roundg kj4
             case measure => have := HK1.out; have := HJ4.out; omega
             case rel => exact ⟨(y765), (x1_1), (y762), H', ⟨by have := HK1.out; have := HJ4.out; omega⟩, ⟨by (with_reducible repeat (first | apply z11h | apply z11i | apply z11j)); exact HO769.out⟩, ⟨by (with_reducible repeat (first | apply z11h | apply z11i | apply z11j)); exact HO_1.out⟩, ⟨by (with_reducible repeat (first | apply Kd.R_alloc | apply Kd.R_drewN | apply Kd.R_drew)); exact HO764.out⟩, ⟨by repeat (first | (with_reducible first | exact HB.out | apply z11d | apply z11b | apply z11c) | exact HB.out)⟩⟩
            ·rw [if_neg c26] at H
             exact absurd H (by simp)
           ·rw [if_neg c25] at H
            exact absurd H (by simp)
          ·rw [if_neg c24] at H
           have c24b0 : decide (t760 ≤ 0) = false := decide_eq_false c24
           clear c24
           by_cases c33 : x5_1.length < 5864062014805
           ·rw [if_pos c33] at H
            have LMc33 := z11a c33
            clear c33
            obtain ⟨y771, hy771⟩ : ∃ y_ : List (S71), y_ = (x5_1 ++ [(⟨(rd_T71 x1_1 0).f0, (rd_T71 x1_1 0).f1, (rd_T71 x1_1 0).f2⟩ : S71)]) := ⟨_, rfl⟩
            replace H : (if 1 ≤ (x1_1.length : Int) then (y_d.l0 kj4 x0_1 (x1_1.drop 1) y771) else (none)) = some r := by first | (rw [hy771]; with_reducible exact H) | (have H2_ := (Option.bind_some _ _).symm.trans H; rw [hy771]; with_reducible exact H2_) | (have H2_ := (Option.bind_some _ _).symm.trans H; with_reducible exact H2_) | with_reducible exact H | (rw [hy771]; exact H) | exact H
            have Ny771 := z11a hy771
            clear hy771
            by_cases c34 : 1 ≤ (x1_1.length : Int)
            ·rw [if_pos c34] at H
             have c34b0 := eq_true c34
             have c34b1 : decide (1 ≤ (x1_1.length : Int)) = true := z11g c34
             clear c34
             obtain ⟨y774, hy774⟩ : ∃ y_ : List (S71), y_ = (x1_1.drop 1) := ⟨_, rfl⟩
             replace H : (y_d.l0 kj4 x0_1 y774 y771) = some r := by first | (rw [hy774]; with_reducible exact H) | (have H2_ := (Option.bind_some _ _).symm.trans H; rw [hy774]; with_reducible exact H2_) | (have H2_ := (Option.bind_some _ _).symm.trans H; with_reducible exact H2_) | with_reducible exact H | (rw [hy774]; exact H) | exact H
             have Ny774 := z11a hy774
             clear hy774
             have H' := z11a H
             clear H
             try go_wp2
             have n0_ := z11a (z11j HO_0.out)
             have n1_ := z11a (z11j HO_1.out)
             have n2_ := z11a (Kd.R_drew HO_5.out)
             have n3_ := z11a (z11c HB.out)
             clear HO_0
             clear HO_1
             clear HO_5
             clear HB
             have HO_0 := n0_
             have HO_1 := n1_
             have HO_5 := n2_
             have HB := n3_
             clear n0_ n1_ n2_ n3_
             obtain ⟨Ao36, co36, eo36⟩ := Kd.V_slice HO_1.out
             (first | subst eo36 | (injection eo36 with f1_ f2_ f3_; have f4_ := f1_.symm; have f5_ := f3_.symm; clear f1_ f2_ f3_; subst f4_; subst f5_))
             obtain ⟨Ao37, co37, eo37⟩ := Kd.V_slice HO_0.out
             (first | subst eo37 | (injection eo37 with f1_ f2_ f3_; have f4_ := f1_.symm; have f5_ := f3_.symm; clear f1_ f2_ f3_; subst f4_; subst f5_))
             have p758 : 0 ≤ (0 : Int) := (by omega)
             have q758 : 0 < (x0_1.length : Int) := z11f (by first | (with_reducible assumption) | assumption)
             obtain ⟨ad758, e758, hx758_0, hx758_1, hx758_2⟩ := at_T71 (Kd.V_reads' HO_0.out).2.2 0 p758 q758
             cases e758
             have qi758 : (0 < x0_1.length) = True := eq_true (by omega)
             (try rw [show ((0 : Int)).toNat = 0 from rfl] at hx758_0)
             (try rw [show 0 * 3 = 0 from rfl] at hx758_0)
             (try rw [Addr.add_zero'] at hx758_0)
             (try rw [show ((0 : Int)).toNat = 0 from rfl] at hx758_1)
             (try rw [show 0 * 3 = 0 from rfl] at hx758_1)
             (try rw [Addr.add_zero'] at hx758_1)
             (try rw [show ((0 : Int)).toNat = 0 from rfl] at hx758_2)
             (try rw [show 0 * 3 = 0 from rfl] at hx758_2)
             (try rw [Addr.add_zero'] at hx758_2)
             replace p758 := eq_true p758
             replace q758 := eq_true q758
             have p759 : 0 ≤ (0 : Int) := (by omega)
             have q759 : 0 < (x1_1.length : Int) := z11f (by first | (with_reducible assumption) | assumption)
             obtain ⟨ad759, e759, hx759_0, hx759_1, hx759_2⟩ := at_T71 (Kd.V_reads' HO_1.out).2.2 0 p759 q759
             cases e759
             have qi759 : (0 < x1_1.length) = True := eq_true (by omega)
             (try rw [show ((0 : Int)).toNat = 0 from rfl] at hx759_0)
             (try rw [show 0 * 3 = 0 from rfl] at hx759_0)
             (try rw [Addr.add_zero'] at hx759_0)
             (try rw [show ((0 : Int)).toNat = 0 from rfl] at hx759_1)
             (try rw [show 0 * 3 = 0 from rfl] at hx759_1)
             (try rw [Addr.add_zero'] at hx759_1)
             (try rw [show ((0 : Int)).toNat = 0 from rfl] at hx759_2)
             (try rw [show 0 * 3 = 0 from rfl] at hx759_2)
             (try rw [Addr.add_zero'] at hx759_2)
             replace p759 := eq_true p759
             replace q759 := eq_true q759
             refine start_ (n := 18) (S := fun w' => w'.cell? ad758 = some (.int .i64 ((rd_T71 x0_1 0).f0)) ∧ w'.cell? ⟨ad758.block, ad758.off + 1, none⟩ = some (.int .i64 ((rd_T71 x0_1 0).f1)) ∧ w'.cell? ⟨ad758.block, ad758.off + 2, none⟩ = some (.int .i64 ((rd_T71 x0_1 0).f2)) ∧ w'.cell? ad759 = some (.int .i64 ((rd_T71 x1_1 0).f0)) ∧ w'.cell? ⟨ad759.block, ad759.off + 1, none⟩ = some (.int .i64 ((rd_T71 x1_1 0).f1)) ∧ w'.cell? ⟨ad759.block, ad759.off + 2, none⟩ = some (.int .i64 ((rd_T71 x1_1 0).f2))) (ds := []) zq11_0 (by kernel_rfl) rfl rfl ⟨hx758_0, hx758_1, hx758_2, hx759_0, hx759_1, hx759_2⟩ (fun hHeld => ?_); refine with_tabW y_d.tab3 y_d.bits3 (fun HT_ HW_ => ?_)
             generalize wc.drew = w35 at HO_0 HO_1 HO_5 HB hx758_0 hx758_1 hx758_2 hx759_0 hx759_1 hx759_2 hHeld ⊢
             refine pure_ (i := 0) (N := some 15) (v := ?_) (a' := ?_) zq11_1 rfl rfl (any_of HT_.out (by kernel_rfl)) (fun _ _ _ h => h) (Or.inl ⟨by rfl, ?_⟩) ?_ ?_
             rotate_left
             ·intro w'
              go_simp
              with_reducible rfl
             rotate_left
             ·simp only [Act.put, zp11a, zp11b, zp11c, i64_w, i32_w]
              rfl
             refine pure_ (i := 1) (N := some 16) (v := ?_) (a' := ?_) zq11_2 rfl rfl (any_of HT_.out (by kernel_rfl)) (fun _ _ _ h => h) (Or.inl ⟨by rfl, ?_⟩) ?_ ?_
             rotate_left
             ·intro w'
              go_simp
              with_reducible rfl
             rotate_left
             ·simp only [Act.put, zp11a, zp11b, zp11c, i64_w, i32_w]
              rfl
             refine pure_ (i := 2) (N := some 17) (v := ?_) (a' := ?_) zq11_3 rfl rfl (any_of HT_.out (by kernel_rfl)) (fun _ _ _ h => h) (Or.inl ⟨by rfl, ?_⟩) ?_ ?_
             rotate_left
             ·intro w'
              go_simp
              with_reducible rfl
             rotate_left
             ·simp only [Act.put, zp11a, zp11b, zp11c, i64_w, i32_w]
              rfl
             refine pure_ (i := 3) (N := some 18) (v := ?_) (a' := ?_) zq11_4 rfl rfl (any_of HT_.out (by kernel_rfl)) (fun _ _ _ h => h) (Or.inl ⟨by rfl, ?_⟩) ?_ ?_
             rotate_left
             ·intro w'
              go_simp
              with_reducible rfl
             rotate_left
             ·simp only [Act.put, zp11a, zp11b, zp11c, i64_w, i32_w]
              rfl
             refine pure_ (i := 4) (N := some 19) (v := ?_) (a' := ?_) zq11_5 rfl rfl (any_of HT_.out (by kernel_rfl)) (fun _ _ _ h => h) (Or.inl ⟨by rfl, ?_⟩) ?_ ?_
             rotate_left
             ·intro w'
              go_simp
              with_reducible rfl
             rotate_left
             ·simp only [Act.put, zp11a, zp11b, zp11c, i64_w, i32_w]
              rfl
             refine pure_ (i := 5) (N := some 20) (v := ?_) (a' := ?_) zq11_6 rfl rfl (any_of HT_.out (by kernel_rfl)) (fun _ _ _ h => h) (Or.inl ⟨by rfl, ?_⟩) ?_ ?_
             rotate_left
             ·intro w'
              go_simp
              with_reducible rfl
             rotate_left
             ·simp only [Act.put, zp11a, zp11b, zp11c, i64_w, i32_w]
              rfl
             refine pure_ (i := 6) (N := some 21) (v := ?_) (a' := ?_) zq11_7 rfl rfl (any_of HT_.out (by kernel_rfl)) (fun _ _ _ h => h) (Or.inl ⟨by rfl, ?_⟩) ?_ ?_
             rotate_left
             ·intro w'
              go_simp
              with_reducible rfl
             rotate_left
             ·simp only [Act.put, zp11a, zp11b, zp11c, i64_w, i32_w]
              rfl
             refine pure_ (i := 7) (N := some 22) (v := ?_) (a' := ?_) zq11_8 rfl rfl (any_of HT_.out (by kernel_rfl)) (fun _ _ _ h => h) (Or.inl ⟨by rfl, ?_⟩) ?_ ?_
             rotate_left
             ·intro w'
              go_simp
              with_reducible rfl
             rotate_left
             ·simp only [Act.put, zp11a, zp11b, zp11c, i64_w, i32_w]
              rfl
             refine pure_ (i := 8) (N := some 23) (v := ?_) (a' := ?_) zq11_9 rfl rfl (any_of HT_.out (by kernel_rfl)) (fun _ _ _ h => h) (Or.inl ⟨by rfl, ?_⟩) ?_ ?_
             rotate_left
             ·intro w'
              go_simp
              with_reducible rfl
             rotate_left
             ·simp only [Act.put, zp11a, zp11b, zp11c, i64_w, i32_w]
              rfl
             refine pure_ (i := 9) (N := some 24) (v := ?_) (a' := ?_) zq11_10 rfl rfl (any_of HT_.out (by kernel_rfl)) (fun _ _ _ h => h) (Or.inl ⟨by rfl, ?_⟩) ?_ ?_
             rotate_left
             ·intro w'
              go_simp
              with_reducible rfl
             rotate_left
             ·simp only [Act.put, zp11a, zp11b, zp11c, i64_w, i32_w]
              rfl
             refine pure_ (i := 11) (N := some 26) (v := ?_) (a' := ?_) #[true, true, true, true, true, true, true, true, true, true, false, true, false, false, false, false, false, false] rfl rfl (any_of HT_.out (by kernel_rfl)) (fun _ _ _ h => h) (Or.inl ⟨by rfl, ?_⟩) ?_ ?_
             rotate_left
             ·intro w'
              go_simp
              with_reducible rfl
             rotate_left
             ·simp only [Act.put, zp11a, zp11b, zp11c, i64_w, i32_w]
              rfl
             refine pure_ (i := 12) (N := some 27) (v := ?_) (a' := ?_) #[true, true, true, true, true, true, true, true, true, true, false, true, true, false, false, false, false, false] rfl rfl (any_of HT_.out (by kernel_rfl)) (fun _ _ _ h => h) (Or.inl ⟨by rfl, ?_⟩) ?_ ?_
             rotate_left
             ·intro w'
              go_simp
              with_reducible rfl
             rotate_left
             ·simp only [Act.put, zp11a, zp11b, zp11c, i64_w, i32_w]
              rfl
             refine take_ (i := 10) (N := some 25) (v := ?_) (a' := ?_) zq11_11 rfl rfl (take_ofW HT_.out HW_.out (by kernel_rfl)) (fun _ _ _ h => h) (Or.inl ⟨by rfl, ?_⟩) hHeld ?_ ?_
             rotate_left
             ·rintro w' ⟨s0, s1, s2, s3, s4, s5⟩
              go_simp
              with_reducible rfl
             rotate_left
             ·simp only [Act.put, zp11a, zp11b, zp11c, i64_w, i32_w]
              rfl
             refine take_ (i := 13) (N := some 28) (v := ?_) (a' := ?_) zq11_12 rfl rfl (take_ofW HT_.out HW_.out (by kernel_rfl)) (fun _ _ _ h => h) (Or.inl ⟨by rfl, ?_⟩) hHeld ?_ ?_
             rotate_left
             ·rintro w' ⟨s0, s1, s2, s3, s4, s5⟩
              go_simp
              with_reducible rfl
             rotate_left
             ·simp only [Act.put, zp11a, zp11b, zp11c, i64_w, i32_w]
              rfl
             refine one_ (i := 14) (N := some 29) zq11_13 rfl rfl (one_of HT_.out (by kernel_rfl)) (by decide) (fun K hK => ?_)
             refine goes_ Try.func122 (by kernel_rfl) rfl #[.agg #[.int .i64 ((rd_T71 x0_1 0).f0), .int .i64 ((rd_T71 x0_1 0).f1), .int .i64 ((rd_T71 x0_1 0).f2)], .agg #[.int .i64 ((rd_T71 x1_1 0).f0), .int .i64 ((rd_T71 x1_1 0).f1), .int .i64 ((rd_T71 x1_1 0).f2)]] (by rfl) rfl rfl (by (try simp only [List.map_toArray, List.map_cons, List.map_nil]); first | done | rfl | (simp only [List.length_drop, List.length_take]; rfl)) ?_
             with_reducible refine (y_eb.calls ((rd_T71 x0_1 0).f0) ((rd_T71 x0_1 0).f1) ((rd_T71 x0_1 0).f2) ((rd_T71 x1_1 0).f0) ((rd_T71 x1_1 0).f1) ((rd_T71 x1_1 0).f2) t760 _ A23.out).mono ?_
             rintro e w38 ⟨rfl, hb⟩
             have HS0_ := (hb.cell (z11e _ _ (hHeld.1))).trans (hHeld.1)
             have HS1_ := (hb.cell (z11e _ _ (hHeld.2.1))).trans (hHeld.2.1)
             have HS2_ := (hb.cell (z11e _ _ (hHeld.2.2.1))).trans (hHeld.2.2.1)
             have HS3_ := (hb.cell (z11e _ _ (hHeld.2.2.2.1))).trans (hHeld.2.2.2.1)
             have HS4_ := (hb.cell (z11e _ _ (hHeld.2.2.2.2.1))).trans (hHeld.2.2.2.2.1)
             have HS5_ := (hb.cell (z11e _ _ (hHeld.2.2.2.2.2))).trans (hHeld.2.2.2.2.2)
             refine ⟨_, rfl, ?_⟩
             have n0_ := z11a (Kd.V_below (by (with_reducible repeat (first | apply z11h | apply z11i | apply z11j)); exact HO_0.out) hb)
             have n1_ := z11a (Kd.V_below (by (with_reducible repeat (first | apply z11h | apply z11i | apply z11j)); exact HO_1.out) hb)
             have n2_ := z11a (Kd.R_below (by (with_reducible repeat (first | apply Kd.R_alloc | apply Kd.R_drewN | apply Kd.R_drew)); exact HO_5.out) hb)
             have n3_ := z11a (below_step (by repeat (first | (with_reducible first | exact HB.out | apply z11d | apply z11b | apply z11c) | exact HB.out)) hb)
             clear HO_0
             clear HO_1
             clear HO_5
             clear HB
             have HO_0 := n0_
             have HO_1 := n1_
             have HO_5 := n2_
             have HB := n3_
             clear n0_ n1_ n2_ n3_
             (try clear hb)
             (try clear hb2)
             (try clear hk)
             (try clear hi)
             refine hK.out _ _ ⟨HS0_, HS1_, HS2_, HS3_, HS4_, HS5_⟩ (fun hHeld => ?_)
             clear hK K
             refine norm_ (a' := ?_) ?_ ?_
             rotate_left
             ·show Act.put _ (some 29) _ = _
              simp only [Act.put, zp11a, zp11b, zp11c, i64_w, i32_w]
              rfl
             refine pure_ (i := 15) (N := some 30) (v := ?_) (a' := ?_) zq11_14 rfl rfl (any_of HT_.out (by kernel_rfl)) (fun _ _ _ h => h) (Or.inl ⟨by rfl, ?_⟩) ?_ ?_
             rotate_left
             ·intro w'
              go_simp
              with_reducible rfl
             rotate_left
             ·simp only [Act.put, zp11a, zp11b, zp11c, i64_w, i32_w]
              rfl
             refine pure_ (i := 16) (N := some 31) (v := ?_) (a' := ?_) zq11_15 rfl rfl (any_of HT_.out (by kernel_rfl)) (fun _ _ _ h => h) (Or.inl ⟨by rfl, ?_⟩) ?_ ?_
             rotate_left
             ·intro w'
              go_simp
              with_reducible rfl
             rotate_left
             ·simp only [Act.put, zp11a, zp11b, zp11c, i64_w, i32_w]
              rfl
             refine pure_ (i := 17) (N := some 32) (v := ?_) (a' := ?_) zq11_16 rfl rfl (any_of HT_.out (by kernel_rfl)) (fun _ _ _ h => h) (Or.inl ⟨by rfl, ?_⟩) ?_ ?_
             rotate_left
             ·intro w'
              go_simp
              with_reducible rfl
             rotate_left
             ·simp only [Act.put, zp11a, zp11b, zp11c, i64_w, i32_w]
              rfl
             refine done_ (done_of HT_.out (by kernel_rfl)) ?_
             have p770 : 0 ≤ (0 : Int) := (by omega)
             have q770 : 0 < (x1_1.length : Int) := z11f (by first | (with_reducible assumption) | assumption)
             obtain ⟨ad770, e770, hx770_0, hx770_1, hx770_2⟩ := at_T71 (Kd.V_reads' HO_1.out).2.2 0 p770 q770
             obtain rfl : ad759 = ad770 := (by injection e770)
             have qi770 : (0 < x1_1.length) = True := eq_true (by omega)
             (try rw [show ((0 : Int)).toNat = 0 from rfl] at hx770_0)
             (try rw [show 0 * 3 = 0 from rfl] at hx770_0)
             (try rw [Addr.add_zero'] at hx770_0)
             (try rw [show ((0 : Int)).toNat = 0 from rfl] at hx770_1)
             (try rw [show 0 * 3 = 0 from rfl] at hx770_1)
             (try rw [Addr.add_zero'] at hx770_1)
             (try rw [show ((0 : Int)).toNat = 0 from rfl] at hx770_2)
             (try rw [show 0 * 3 = 0 from rfl] at hx770_2)
             (try rw [Addr.add_zero'] at hx770_2)
             replace p770 := eq_true p770
             replace q770 := eq_true q770
             try go_wp2_with (first | ((with_reducible refine gate_builtin (b := .append) (xs := #[.tmp 41, .tmp 45]) rfl ?_); (try (refine gate_guard (by rfl) ?_; dsimp only)); at_builtin; refine Kd.R_append k71 (w0 := w) w.heap.size rfl (.tmp 41) (.tmp 45) 24 71 (.agg #[(.int .i64 0), (.int .i64 0), (.int .i64 0)]) 24 rfl Try.underlying24 info71 rfl (by decide) (by omega) u5 x5_1 (⟨(rd_T71 x1_1 0).f0, (rd_T71 x1_1 0).f1, (rd_T71 x1_1 0).f2⟩ : S71) [.int .i64 ((rd_T71 x1_1 0).f0), .int .i64 ((rd_T71 x1_1 0).f1), .int .i64 ((rd_T71 x1_1 0).f2)] (fun k_ => (w.heap.size ≤ k_)) (fun _ => False) rfl rfl ?aP (fun _ hk => hk.elim) ?aF ?aO ?aB ?aS ?aL ?_; (case aP => exact k71_mkM _ _ _ (⟨(rd_T71 x1_1 0).f0, (rd_T71 x1_1 0).f1, (rd_T71 x1_1 0).f2⟩ : S71)); (case aB => exact (by repeat (first | (with_reducible first | exact HB.out | apply z11d | apply z11b | apply z11c) | exact HB.out))); (case aF => exact (fun k_ hk => (Nat.le_trans (below_size (by repeat (first | (with_reducible first | exact HB.out | apply z11d | apply z11b | apply z11c) | exact HB.out))) hk))); (case aO => exact (by (with_reducible repeat (first | apply Kd.R_alloc | apply Kd.R_drewN | apply Kd.R_drew)); exact HO_5.out)); (case aS => exact (below_size (by repeat (first | (with_reducible first | exact HB.out | apply z11d | apply z11b | apply z11c) | exact HB.out)))); (case aL => have := LMc33.out; omega); intro v772 w39 ho hb hg hat; rw [← Ny771.out] at ho; have n0_ := z11a (Kd.V_afterv (ok := (fun k_ => ((P0_ k_ ∨ P1_ k_) ∨ w.heap.size ≤ k_))) (by (with_reducible repeat (first | apply z11h | apply z11i | apply z11j)); exact HO_0.out) hg hat); have n1_ := z11a (Kd.V_afterv (ok := (fun k_ => ((P0_ k_ ∨ P1_ k_) ∨ w.heap.size ≤ k_))) (by (with_reducible repeat (first | apply z11h | apply z11i | apply z11j)); exact HO_1.out) hg hat); have n2_ := z11a (hb); have n3_ := z11a (ho); clear HO_0; clear HO_1; clear HB; clear HO_5; have HO_0 := n0_; have HO_1 := n1_; have HB := n2_; have HO773 := n3_; clear n0_ n1_ n2_ n3_; clear ho hb hg hat; have q40 : (1 : Int) ≤ ((x1_1.length : Int) : Int) := z11f (by first | (with_reducible assumption) | assumption); obtain ⟨i040, hi040, _, hsz40, _⟩ := info_parts info71; have hroom40 : x1_1.length ≤ co36 := (Kd.V_reads' HO_1.out).2.1; have hC40 : Kd.F k71 _ _ (some ad759) x1_1.length x1_1 := (Kd.V_at (base := w.heap.size) HO_1.out).2.2; have hcut40 := cut_from (P := Try.prog) 24 71 .i64 Try.underlying24 hi040 3 hsz40 (some ad759) x1_1.length co36 1 (by omega) q40; have hr40 := Kd.F_cut (m := (1 : Int).toNat) (c := co36) hC40 (by omega) hroom40; obtain ⟨A40, hA40⟩ : ∃ A1, A1 = (if co36 = (1 : Int).toNat then (some ad759) else ((some ad759) : Option Addr).map (·.add ((1 : Int).toNat * 3))) := ⟨_, rfl⟩; obtain ⟨c40, hc40⟩ : ∃ c1, c1 = co36 - (1 : Int).toNat := ⟨_, rfl⟩; have hy40 : y774.length = x1_1.length - (1 : Int).toNat := (by rw [Ny774.out, List.length_drop] <;> omega); rw [show (x1_1).drop (1 : Int).toNat = y774 from Ny774.out.symm] at hr40; replace hr40 : Kd.F k71 _ _ A40 y774.length y774 := (by rw [hA40]; exact hr40); rw [← hy40, ← hA40, ← hc40] at hcut40; have HO778 := z11a (show Kd.V k71 71 _ w.heap.size _ (.slice A40 y774.length c40) y774 from Kd.V_mk (by rw [hy40, hc40]; exact Nat.sub_le_sub_right hroom40 _) hr40); have HC778 := z11a (show y774.length ≤ c40 from by rw [hy40, hc40]; exact Nat.sub_le_sub_right hroom40 _); clear hr40 hC40 hroom40 hi040 hsz40 hc40; have KY40 := z11a hy40; have KA40 := z11a hA40; clear hy40 hA40; replace q40 := eq_true q40))
             go_roundg kj4
             case measure => have := HK1.out; have := HJ4.out; omega
             case rel => exact ⟨(x0_1), (y774), (y771), H', ⟨by have := HK1.out; have := HJ4.out; omega⟩, ⟨by (with_reducible repeat (first | apply z11h | apply z11i | apply z11j)); exact HO_0.out⟩, ⟨by (with_reducible repeat (first | apply z11h | apply z11i | apply z11j)); exact HO778.out⟩, ⟨by (with_reducible repeat (first | apply Kd.R_alloc | apply Kd.R_drewN | apply Kd.R_drew)); exact HO773.out⟩, ⟨by repeat (first | (with_reducible first | exact HB.out | apply z11d | apply z11b | apply z11c) | exact HB.out)⟩⟩
            ·rw [if_neg c34] at H
             exact absurd H (by simp)
           ·rw [if_neg c33] at H
            exact absurd H (by simp)
         ·rw [if_neg c22] at H
          exact absurd H (by simp)
        ·rw [if_neg c21] at H
         exact absurd H (by simp)
       ·rw [if_neg c20] at H
        have c20b0 : decide (0 < (x0_1.length : Int)) = false := decide_eq_false c20
        have c20b1 : decide (0 < x0_1.length) = false := decide_eq_false (by omega)
        clear c20
        by_cases c41 : 0 < (x1_1.length : Int)
        ·rw [if_pos c41] at H
         have c41b0 : decide (0 < (x1_1.length : Int)) = true := z11g c41
         have c41b1 : decide (0 < x1_1.length) = true := z11g (by omega)
         clear c41
         by_cases c42 : x5_1.length < 5864062014805
         ·rw [if_pos c42] at H
          have LMc42 := z11a c42
          clear c42
          obtain ⟨y780, hy780⟩ : ∃ y_ : List (S71), y_ = (x5_1 ++ [(⟨(rd_T71 x1_1 0).f0, (rd_T71 x1_1 0).f1, (rd_T71 x1_1 0).f2⟩ : S71)]) := ⟨_, rfl⟩
          replace H : (if 1 ≤ (x1_1.length : Int) then (y_d.l0 kj4 x0_1 (x1_1.drop 1) y780) else (none)) = some r := by first | (rw [hy780]; with_reducible exact H) | (have H2_ := (Option.bind_some _ _).symm.trans H; rw [hy780]; with_reducible exact H2_) | (have H2_ := (Option.bind_some _ _).symm.trans H; with_reducible exact H2_) | with_reducible exact H | (rw [hy780]; exact H) | exact H
          have Ny780 := z11a hy780
          clear hy780
          by_cases c43 : 1 ≤ (x1_1.length : Int)
          ·rw [if_pos c43] at H
           have c43b0 := eq_true c43
           have c43b1 : decide (1 ≤ (x1_1.length : Int)) = true := z11g c43
           clear c43
           obtain ⟨y783, hy783⟩ : ∃ y_ : List (S71), y_ = (x1_1.drop 1) := ⟨_, rfl⟩
           replace H : (y_d.l0 kj4 x0_1 y783 y780) = some r := by first | (rw [hy783]; with_reducible exact H) | (have H2_ := (Option.bind_some _ _).symm.trans H; rw [hy783]; with_reducible exact H2_) | (have H2_ := (Option.bind_some _ _).symm.trans H; with_reducible exact H2_) | with_reducible exact H | (rw [hy783]; exact H) | exact H
           have Ny783 := z11a hy783
           clear hy783
           have H' := z11a H
           clear H
           try go_wp2
           have n0_ := z11a (z11j HO_0.out)
           have n1_ := z11a (z11j HO_1.out)
           have n2_ := z11a (Kd.R_drew HO_5.out)
           have n3_ := z11a (z11c HB.out)
           clear HO_0
           clear HO_1
           clear HO_5
           clear HB
           have HO_0 := n0_
           have HO_1 := n1_
           have HO_5 := n2_
           have HB := n3_
           clear n0_ n1_ n2_ n3_
           obtain ⟨Ao45, co45, eo45⟩ := Kd.V_slice HO_1.out
           (first | subst eo45 | (injection eo45 with f1_ f2_ f3_; have f4_ := f1_.symm; have f5_ := f3_.symm; clear f1_ f2_ f3_; subst f4_; subst f5_))
           obtain ⟨Ao46, co46, eo46⟩ := Kd.V_slice HO_0.out
           (first | subst eo46 | (injection eo46 with f1_ f2_ f3_; have f4_ := f1_.symm; have f5_ := f3_.symm; clear f1_ f2_ f3_; subst f4_; subst f5_))
           refine start_ (n := 18) (S := fun w' => True) (ds := []) zq11_0 (by kernel_rfl) rfl rfl trivial (fun hHeld => ?_); refine with_tabW y_d.tab3 y_d.bits3 (fun HT_ HW_ => ?_)
           generalize wc.drew = w44 at HO_0 HO_1 HO_5 HB hHeld ⊢
           refine pure_ (i := 0) (N := some 15) (v := ?_) (a' := ?_) zq11_1 rfl rfl (any_of HT_.out (by kernel_rfl)) (fun _ _ _ h => h) (Or.inl ⟨by rfl, ?_⟩) ?_ ?_
           rotate_left
           ·intro w'
            go_simp
            with_reducible rfl
           rotate_left
           ·simp only [Act.put, zp11a, zp11b, zp11c, i64_w, i32_w]
            rfl
           refine pure_ (i := 1) (N := some 16) (v := ?_) (a' := ?_) zq11_2 rfl rfl (any_of HT_.out (by kernel_rfl)) (fun _ _ _ h => h) (Or.inl ⟨by rfl, ?_⟩) ?_ ?_
           rotate_left
           ·intro w'
            go_simp
            with_reducible rfl
           rotate_left
           ·simp only [Act.put, zp11a, zp11b, zp11c, i64_w, i32_w]
            rfl
           refine pure_ (i := 2) (N := some 17) (v := ?_) (a' := ?_) zq11_3 rfl rfl (any_of HT_.out (by kernel_rfl)) (fun _ _ _ h => h) (Or.inl ⟨by rfl, ?_⟩) ?_ ?_
           rotate_left
           ·intro w'
            go_simp
            with_reducible rfl
           rotate_left
           ·simp only [Act.put, zp11a, zp11b, zp11c, i64_w, i32_w]
            rfl
           refine pure_ (i := 3) (N := some 18) (v := ?_) (a' := ?_) zq11_4 rfl rfl (any_of HT_.out (by kernel_rfl)) (fun _ _ _ h => h) (Or.inl ⟨by rfl, ?_⟩) ?_ ?_
           rotate_left
           ·intro w'
            go_simp
            with_reducible rfl
           rotate_left
           ·simp only [Act.put, zp11a, zp11b, zp11c, i64_w, i32_w]
            rfl
           refine pure_ (i := 4) (N := some 19) (v := ?_) (a' := ?_) zq11_5 rfl rfl (any_of HT_.out (by kernel_rfl)) (fun _ _ _ h => h) (Or.inl ⟨by rfl, ?_⟩) ?_ ?_
           rotate_left
           ·intro w'
            go_simp
            with_reducible rfl
           rotate_left
           ·simp only [Act.put, zp11a, zp11b, zp11c, i64_w, i32_w]
            rfl
           refine pure_ (i := 5) (N := some 20) (v := ?_) (a' := ?_) zq11_6 rfl rfl (any_of HT_.out (by kernel_rfl)) (fun _ _ _ h => h) (Or.inl ⟨by rfl, ?_⟩) ?_ ?_
           rotate_left
           ·intro w'
            go_simp
            with_reducible rfl
           rotate_left
           ·simp only [Act.put, zp11a, zp11b, zp11c, i64_w, i32_w]
            rfl
           refine pure_ (i := 6) (N := some 21) (v := ?_) (a' := ?_) zq11_7 rfl rfl (any_of HT_.out (by kernel_rfl)) (fun _ _ _ h => h) (Or.inl ⟨by rfl, ?_⟩) ?_ ?_
           rotate_left
           ·intro w'
            go_simp
            with_reducible rfl
           rotate_left
           ·simp only [Act.put, zp11a, zp11b, zp11c, i64_w, i32_w]
            rfl
           refine pure_ (i := 7) (N := some 22) (v := ?_) (a' := ?_) zq11_8 rfl rfl (any_of HT_.out (by kernel_rfl)) (fun _ _ _ h => h) (Or.inl ⟨by rfl, ?_⟩) ?_ ?_
           rotate_left
           ·intro w'
            go_simp
            with_reducible rfl
           rotate_left
           ·simp only [Act.put, zp11a, zp11b, zp11c, i64_w, i32_w]
            rfl
           refine pure_ (i := 8) (N := some 23) (v := undef) (a' := ?_) zq11_9 rfl rfl (any_of HT_.out (by kernel_rfl)) (fun _ _ _ h => h) (Or.inr ⟨by rfl, rfl⟩) ?_ ?_
           rotate_left
           ·simp only [Act.put, zp11a, zp11b, zp11c, i64_w, i32_w]
            rfl
           refine pure_ (i := 9) (N := some 24) (v := undef) (a' := ?_) zq11_10 rfl rfl (any_of HT_.out (by kernel_rfl)) (fun _ _ _ h => h) (Or.inr ⟨by rfl, rfl⟩) ?_ ?_
           rotate_left
           ·simp only [Act.put, zp11a, zp11b, zp11c, i64_w, i32_w]
            rfl
           refine pure_ (i := 10) (N := some 25) (v := undef) (a' := ?_) #[true, true, true, true, true, true, true, true, true, true, true, false, false, false, false, false, false, false] rfl rfl (any_of HT_.out (by kernel_rfl)) (fun _ _ _ h => h) (Or.inr ⟨by rfl, rfl⟩) ?_ ?_
           rotate_left
           ·simp only [Act.put, zp11a, zp11b, zp11c, i64_w, i32_w]
            rfl
           refine pure_ (i := 11) (N := some 26) (v := undef) (a' := ?_) #[true, true, true, true, true, true, true, true, true, true, true, true, false, false, false, false, false, false] rfl rfl (any_of HT_.out (by kernel_rfl)) (fun _ _ _ h => h) (Or.inr ⟨by rfl, rfl⟩) ?_ ?_
           rotate_left
           ·simp only [Act.put, zp11a, zp11b, zp11c, i64_w, i32_w]
            rfl
           refine pure_ (i := 12) (N := some 27) (v := undef) (a' := ?_) zq11_11 rfl rfl (any_of HT_.out (by kernel_rfl)) (fun _ _ _ h => h) (Or.inr ⟨by rfl, rfl⟩) ?_ ?_
           rotate_left
           ·simp only [Act.put, zp11a, zp11b, zp11c, i64_w, i32_w]
            rfl
           refine pure_ (i := 13) (N := some 28) (v := undef) (a' := ?_) zq11_12 rfl rfl (any_of HT_.out (by kernel_rfl)) (fun _ _ _ h => h) (Or.inr ⟨by rfl, rfl⟩) ?_ ?_
           rotate_left
           ·simp only [Act.put, zp11a, zp11b, zp11c, i64_w, i32_w]
            rfl
           refine pure_ (i := 14) (N := some 29) (v := undef) (a' := ?_) zq11_13 rfl rfl (any_of HT_.out (by kernel_rfl)) (fun _ _ _ h => h) (Or.inr ⟨by rfl, rfl⟩) ?_ ?_
           rotate_left
           ·simp only [Act.put, zp11a, zp11b, zp11c, i64_w, i32_w]
            rfl
           refine pure_ (i := 15) (N := some 30) (v := undef) (a' := ?_) zq11_14 rfl rfl (any_of HT_.out (by kernel_rfl)) (fun _ _ _ h => h) (Or.inr ⟨by rfl, rfl⟩) ?_ ?_
           rotate_left
           ·simp only [Act.put, zp11a, zp11b, zp11c, i64_w, i32_w]
            rfl
           refine pure_ (i := 16) (N := some 31) (v := ?_) (a' := ?_) zq11_15 rfl rfl (any_of HT_.out (by kernel_rfl)) (fun _ _ _ h => h) (Or.inl ⟨by rfl, ?_⟩) ?_ ?_
           rotate_left
           ·intro w'
            go_simp
            with_reducible rfl
           rotate_left
           ·simp only [Act.put, zp11a, zp11b, zp11c, i64_w, i32_w]
            rfl
           refine pure_ (i := 17) (N := some 32) (v := ?_) (a' := ?_) zq11_16 rfl rfl (any_of HT_.out (by kernel_rfl)) (fun _ _ _ h => h) (Or.inl ⟨by rfl, ?_⟩) ?_ ?_
           rotate_left
           ·intro w'
            go_simp
            with_reducible rfl
           rotate_left
           ·simp only [Act.put, zp11a, zp11b, zp11c, i64_w, i32_w]
            rfl
           refine done_ (done_of HT_.out (by kernel_rfl)) ?_
           have p779 : 0 ≤ (0 : Int) := (by omega)
           have q779 : 0 < (x1_1.length : Int) := z11f (by first | (with_reducible assumption) | assumption)
           obtain ⟨ad779, e779, hx779_0, hx779_1, hx779_2⟩ := at_T71 (Kd.V_reads' HO_1.out).2.2 0 p779 q779
           cases e779
           have qi779 : (0 < x1_1.length) = True := eq_true (by omega)
           (try rw [show ((0 : Int)).toNat = 0 from rfl] at hx779_0)
           (try rw [show 0 * 3 = 0 from rfl] at hx779_0)
           (try rw [Addr.add_zero'] at hx779_0)
           (try rw [show ((0 : Int)).toNat = 0 from rfl] at hx779_1)
           (try rw [show 0 * 3 = 0 from rfl] at hx779_1)
           (try rw [Addr.add_zero'] at hx779_1)
           (try rw [show ((0 : Int)).toNat = 0 from rfl] at hx779_2)
           (try rw [show 0 * 3 = 0 from rfl] at hx779_2)
           (try rw [Addr.add_zero'] at hx779_2)
           replace p779 := eq_true p779
           replace q779 := eq_true q779
           try go_wp2_with (first | ((with_reducible refine gate_builtin (b := .append) (xs := #[.tmp 41, .tmp 45]) rfl ?_); (try (refine gate_guard (by rfl) ?_; dsimp only)); at_builtin; refine Kd.R_append k71 (w0 := w) w.heap.size rfl (.tmp 41) (.tmp 45) 24 71 (.agg #[(.int .i64 0), (.int .i64 0), (.int .i64 0)]) 24 rfl Try.underlying24 info71 rfl (by decide) (by omega) u5 x5_1 (⟨(rd_T71 x1_1 0).f0, (rd_T71 x1_1 0).f1, (rd_T71 x1_1 0).f2⟩ : S71) [.int .i64 ((rd_T71 x1_1 0).f0), .int .i64 ((rd_T71 x1_1 0).f1), .int .i64 ((rd_T71 x1_1 0).f2)] (fun k_ => (w.heap.size ≤ k_)) (fun _ => False) rfl rfl ?aP (fun _ hk => hk.elim) ?aF ?aO ?aB ?aS ?aL ?_; (case aP => exact k71_mkM _ _ _ (⟨(rd_T71 x1_1 0).f0, (rd_T71 x1_1 0).f1, (rd_T71 x1_1 0).f2⟩ : S71)); (case aB => exact (by repeat (first | (with_reducible first | exact HB.out | apply z11d | apply z11b | apply z11c) | exact HB.out))); (case aF => exact (fun k_ hk => (Nat.le_trans (below_size (by repeat (first | (with_reducible first | exact HB.out | apply z11d | apply z11b | apply z11c) | exact HB.out))) hk))); (case aO => exact (by (with_reducible repeat (first | apply Kd.R_alloc | apply Kd.R_drewN | apply Kd.R_drew)); exact HO_5.out)); (case aS => exact (below_size (by repeat (first | (with_reducible first | exact HB.out | apply z11d | apply z11b | apply z11c) | exact HB.out)))); (case aL => have := LMc42.out; omega); intro v781 w47 ho hb hg hat; rw [← Ny780.out] at ho; have n0_ := z11a (Kd.V_afterv (ok := (fun k_ => ((P0_ k_ ∨ P1_ k_) ∨ w.heap.size ≤ k_))) (by (with_reducible repeat (first | apply z11h | apply z11i | apply z11j)); exact HO_0.out) hg hat); have n1_ := z11a (Kd.V_afterv (ok := (fun k_ => ((P0_ k_ ∨ P1_ k_) ∨ w.heap.size ≤ k_))) (by (with_reducible repeat (first | apply z11h | apply z11i | apply z11j)); exact HO_1.out) hg hat); have n2_ := z11a (hb); have n3_ := z11a (ho); clear HO_0; clear HO_1; clear HB; clear HO_5; have HO_0 := n0_; have HO_1 := n1_; have HB := n2_; have HO782 := n3_; clear n0_ n1_ n2_ n3_; clear ho hb hg hat; have q48 : (1 : Int) ≤ ((x1_1.length : Int) : Int) := z11f (by first | (with_reducible assumption) | assumption); obtain ⟨i048, hi048, _, hsz48, _⟩ := info_parts info71; have hroom48 : x1_1.length ≤ co45 := (Kd.V_reads' HO_1.out).2.1; have hC48 : Kd.F k71 _ _ (some ad779) x1_1.length x1_1 := (Kd.V_at (base := w.heap.size) HO_1.out).2.2; have hcut48 := cut_from (P := Try.prog) 24 71 .i64 Try.underlying24 hi048 3 hsz48 (some ad779) x1_1.length co45 1 (by omega) q48; have hr48 := Kd.F_cut (m := (1 : Int).toNat) (c := co45) hC48 (by omega) hroom48; obtain ⟨A48, hA48⟩ : ∃ A1, A1 = (if co45 = (1 : Int).toNat then (some ad779) else ((some ad779) : Option Addr).map (·.add ((1 : Int).toNat * 3))) := ⟨_, rfl⟩; obtain ⟨c48, hc48⟩ : ∃ c1, c1 = co45 - (1 : Int).toNat := ⟨_, rfl⟩; have hy48 : y783.length = x1_1.length - (1 : Int).toNat := (by rw [Ny783.out, List.length_drop] <;> omega); rw [show (x1_1).drop (1 : Int).toNat = y783 from Ny783.out.symm] at hr48; replace hr48 : Kd.F k71 _ _ A48 y783.length y783 := (by rw [hA48]; exact hr48); rw [← hy48, ← hA48, ← hc48] at hcut48; have HO787 := z11a (show Kd.V k71 71 _ w.heap.size _ (.slice A48 y783.length c48) y783 from Kd.V_mk (by rw [hy48, hc48]; exact Nat.sub_le_sub_right hroom48 _) hr48); have HC787 := z11a (show y783.length ≤ c48 from by rw [hy48, hc48]; exact Nat.sub_le_sub_right hroom48 _); clear hr48 hC48 hroom48 hi048 hsz48 hc48; have KY48 := z11a hy48; have KA48 := z11a hA48; clear hy48 hA48; replace q48 := eq_true q48))
           go_roundg kj4
           case measure => have := HK1.out; have := HJ4.out; omega
           case rel => exact ⟨(x0_1), (y783), (y780), H', ⟨by have := HK1.out; have := HJ4.out; omega⟩, ⟨by (with_reducible repeat (first | apply z11h | apply z11i | apply z11j)); exact HO_0.out⟩, ⟨by (with_reducible repeat (first | apply z11h | apply z11i | apply z11j)); exact HO787.out⟩, ⟨by (with_reducible repeat (first | apply Kd.R_alloc | apply Kd.R_drewN | apply Kd.R_drew)); exact HO782.out⟩, ⟨by repeat (first | (with_reducible first | exact HB.out | apply z11d | apply z11b | apply z11c) | exact HB.out)⟩⟩
          ·rw [if_neg c43] at H
           exact absurd H (by simp)
         ·rw [if_neg c42] at H
          exact absurd H (by simp)
        ·rw [if_neg c41] at H
         exact absurd H (by simp)
     ·replace c10 := Bool.eq_false_iff.mpr c10
      subst c10
      have H1 : (some x5_1) = some r := by rw [if_neg (show ¬ (false = true) by decide)] at H; exact H
      clear H
      have H := H1
      clear H1
      obtain rfl := Option.some.inj H
      go_wp2
      go_ret
      exact ⟨_, by first | rfl | (simp [errW_none, errW_some] <;> rfl) | (simp [*, errW_none, errW_some] <;> rfl), by (with_reducible repeat (first | apply Kd.R_alloc | apply Kd.R_drewN | apply Kd.R_drew)); exact HO_5.out, by repeat (first | (with_reducible first | exact HB.out | apply z11d | apply z11b | apply z11c) | exact HB.out)⟩
end Go.Proofs.Ytkcicbigpbdjpaa.P
end
