-- merged by pack.py out of Px29 Px30 Px5 (words: printed by the kit's print.sh; what this claim does not use is left out)

import Derived.Test.YtkcicbigpbdjpaaKFnExternalSort1
import Derived.Test.YtkcicbigpbdjpaaKFnExternalSort2
import Derived.Test.YtkcicbigpbdjpaaKFnExternalSort6
import Derived.Test.YtkcicbigpbdjpaaKFnExternalSort7
import Derived.Test.YtkcicbigpbdjpaaKFnExternalSort8
namespace Go.Proofs.Ytkcicbigpbdjpaa
abbrev zt9 : Bool := true
abbrev zf9 : Bool := false
section
open Go.RowKit Go.Proofs.YtkcicbigpbdjpaaW.PrintWords Go.Proofs.YtkcicbigpbdjpaaW.PrintLast Go.Proofs.YtkcicbigpbdjpaaW.PrintMore
abbrev z9a := @Aside0.mk
abbrev z9b := @pw_below_drewN
abbrev z9c := @below_drew1
abbrev z9d := @below_alloc
abbrev z9e := @World.block_lt_of_cell?
abbrev z9f := @Option.bind_eq_some_iff
abbrev z9g := @of_decide_eq_true
abbrev z9h := @decide_eq_true
end
theorem zm9a {α β : Type} (f : α → β) (l : List α) : l.toArray.map f = (l.map f).toArray := by simp
theorem zm9b {α β : Type} (f : α → β) (a : α) (l : List α) : (a :: l).map f = f a :: l.map f := rfl
theorem zm9c {α β : Type} (f : α → β) : ([] : List α).map f = [] := rfl
theorem zm9d {α : Type} (n : Nat) (l : List α) : (l.drop n).length = l.length - n := List.length_drop
theorem zm9e {α : Type} (n : Nat) (l : List α) : (l.take n).length = min n l.length := List.length_take
theorem zp9a {α : Type} (l : List α) (i : Nat) (a : α) : l.toArray.setIfInBounds i a = (l.set i a).toArray := List.setIfInBounds_toArray l i a
theorem zp9b {α : Type} (x : α) (l : List α) (a : α) : (x :: l).set 0 a = a :: l := List.set_cons_zero
theorem zp9c {α : Type} (x : α) (l : List α) (n : Nat) (a : α) : (x :: l).set (n + 1) a = x :: l.set n a := List.set_cons_succ
end Go.Proofs.Ytkcicbigpbdjpaa
set_option maxHeartbeats 8000000
set_option maxRecDepth 100000
section
namespace Go.Proofs.Ytkcicbigpbdjpaa.P
open Go.RowKit Go.Proofs.YtkcicbigpbdjpaaW.PrintWords Go.Proofs.YtkcicbigpbdjpaaW.PrintLast Go.Proofs.YtkcicbigpbdjpaaW.PrintMore
attribute [local go_sem] max2_int min2_int max_two min_two max_three min_three max_four min_four
set_option linter.unusedVariables false
set_option linter.unusedSimpArgs false
def y_l.l0 : Nat → List (S39) → List (S39) → Int → Option ((List (S39)))
 | 0, _, _, _ => none
 | k + 1, x0, x3, x4 => if x4 < (x0.length : Int) then (if (wrap64 (x4 + 1)) = (x0.length : Int) then ((some (([] : List (S71)) : List (S71))).bind fun y698 => (if 0 ≤ x4 then (if y698.length + ((rd_T39 x0 x4).f0).length < 5864062014805 then (if x3.length < 5864062014805 then (y_l.l0 k x0 (x3 ++ [(⟨(y698 ++ ((rd_T39 x0 x4).f0))⟩ : S39)]) (wrap64 (x4 + 2))) else (none)) else (none)) else (none))) else (if 0 ≤ x4 then (if 0 ≤ (wrap64 (x4 + 1)) then (if (wrap64 (x4 + 1)) < (x0.length : Int) then ((y_e.f k ((rd_T39 x0 x4).f0) ((rd_T39 x0 (wrap64 (x4 + 1))).f0)).bind fun t710 => (if x3.length < 5864062014805 then (y_l.l0 k x0 (x3 ++ [(⟨t710⟩ : S39)]) (wrap64 (x4 + 2))) else (none))) else (none)) else (none)) else (none))) else (some x3)
def y_l.f (k : Nat) (l0 : List (S39)) : Option ((List (S39))) := y_l.l0 k l0 (([] : List (S39))) 0
def y_l.T7 : Bool × List (List Nat × List Nat) := (true, [([], []), ([], []), ([], []), ([1, 2], [1, 2]), ([3], [3]), ([4], [4]), ([], []), ([], []), ([7], [7]), ([6, 8], [6, 8]), ([9], [9]), ([10], [10]), ([5, 11], [5, 11]), ([12], [12]), ([13], [13]), ([0, 14, 12], [0, 14]), ([15, 15, 0, 1, 2, 3, 4, 5, 6, 7, 8, 9, 10, 11, 12, 13, 14, 15], [0, 15])])
def y_l.B7 : List Nat := [0, 0, 0, 6, 14, 30, 0, 0, 128, 448, 960, 1984, 4094, 8190, 16382, 32767, 65535]
theorem y_l.tab7 : rtab .any (opsOf Try.f54 7) = y_l.T7 := by kernel_rfl
theorem y_l.bits7 : waitsOk y_l.T7.2 y_l.B7 = true := by kernel_rfl
theorem y_l.calls (k : Nat) (A0 : Option Addr) (c0 : Nat) (l0 : List (S39)) (r : List (S39)) (w : World) (hr0 : Kd.C k39 w A0 l0.length l0) (hc0 : l0.length ≤ c0) (h : y_l.f k l0 = some r) :
  Calls Try.prog 54 #[.slice A0 l0.length c0] w fun e w' => ∃ v0_ : Value, e = .returned (v0_) ∧ Kd.S k39 39 w' w.heap.size (fun _ => True) v0_ r ∧ Below w.heap.size w w' := by
 have hu39 := Try.underlying39
 have HR0 := z9a hr0
 have HC0 := z9a hc0
 clear hr0 hc0
 have HB := z9a (Below.refl w.heap.size w)
 have H : (y_l.l0 k l0 (([] : List (S39))) 0) = some r := h
 clear h
 obtain ⟨y695, hy695⟩ : ∃ y_ : List (S39), y_ = (([] : List (S39))) := ⟨_, rfl⟩
 replace H : (y_l.l0 k l0 y695 0) = some r := by first | (rw [hy695]; with_reducible exact H) | (have H2_ := (Option.bind_some _ _).symm.trans H; rw [hy695]; with_reducible exact H2_) | (have H2_ := (Option.bind_some _ _).symm.trans H; with_reducible exact H2_) | with_reducible exact H | (rw [hy695]; exact H) | exact H
 have Ny695 := z9a hy695
 clear hy695
 have H' := z9a H
 clear H
 go_enter Try.func54, Try.ntmps54
 go_wp2_with (first | ((with_reducible refine gate_dst (N := 5) rfl ?_); refine Kd.S_lit k39 _ 39 ?hg (N := 5) ?hd (xs := ([] : List (S39))) (inner := []) (ok := fun _ => True) (okp := fun _ => True) ?hr ?hp (fun _ hk => hk) trivial (Below.refl _ _) (Nat.le_refl _) (by simp) ?_; (case hd => rfl); (case hg => rfl); (case hr => first | (go_simp; done) | (go_simp; rfl)); (case hp => exact (Reps.none _ _)); intro v696 w2 ho3 hb hg_ hnew_; clear hg_ hnew_; (first | rw [← Ny695.out] at ho3 | (simp only [Int.reduceToNat] at ho3; rw [← Ny695.out] at ho3)); have n0_ := z9a (Kd.S_lower ho3 (below_size (by repeat (first | (with_reducible first | exact HB.out | apply z9d | apply z9b | apply z9c) | exact HB.out)))); have n1_ := z9a (below_step (by repeat (first | (with_reducible first | exact HB.out | apply z9d | apply z9b | apply z9c) | exact HB.out)) hb); clear HB; have HO697 := n0_; have HB := n1_; clear n0_ n1_; clear hb ho3))
 go_loopg [3, 4] k (fun kq v3 v4 w' => ∃ (x3_1 : List (S39)) (x4_1 : Int), v4 = .int .i64 x4_1 ∧ Aside0 (y_l.l0 kq l0 x3_1 x4_1 = some r) ∧ Aside0 (kq ≤ k) ∧ Aside0 (Kd.S k39 39 w' w.heap.size (fun _ => True) v3 x3_1) ∧ Aside0 (Below w.heap.size w w'))
 case atStart => exact ⟨(y695), (0), (by first | rfl | (simp; done) | (simp [*]; done)), H', ⟨Nat.le_refl _⟩, ⟨by (with_reducible repeat (first | apply Kd.S_alloc | apply Kd.S_drewN | apply Kd.S_drew)); exact HO697.out⟩, ⟨by repeat (first | (with_reducible first | exact HB.out | apply z9d | apply z9b | apply z9c) | exact HB.out)⟩⟩
 case round =>
  clear H'
  try clear p2
  obtain ⟨x3_1, x4_1, rfl, HA, HK1, HO_3, HB⟩ := hrel
  cases gk with
  | zero => exact absurd HA.out (by simp [y_l.l0])
  | succ k1 =>
   have H := HA.out
   clear HA
   simp only [y_l.l0] at H
   by_cases c4 : x4_1 < (l0.length : Int)
   ·rw [if_pos c4] at H
    have c4b0 : decide (x4_1 < (l0.length : Int)) = true := z9h c4
    clear c4
    by_cases c5 : (wrap64 (x4_1 + 1)) = (l0.length : Int)
    ·rw [if_pos c5] at H
     have c5b0 : ((wrap64 (x4_1 + 1)) == (l0.length : Int)) = true := beq_iff_eq.mpr c5
     have c5b1 : ((wrap64 (x4_1 + 1)) != (l0.length : Int)) = false := bne_eq_false_iff_eq.mpr c5
     clear c5
     obtain ⟨y698, hy698⟩ : ∃ y_ : List (S71), y_ = (([] : List (S71))) := ⟨_, rfl⟩
     replace H : (if 0 ≤ x4_1 then (if y698.length + ((rd_T39 l0 x4_1).f0).length < 5864062014805 then (if x3_1.length < 5864062014805 then (y_l.l0 k1 l0 (x3_1 ++ [(⟨(y698 ++ ((rd_T39 l0 x4_1).f0))⟩ : S39)]) (wrap64 (x4_1 + 2))) else (none)) else (none)) else (none)) = some r := by first | (rw [hy698]; with_reducible exact H) | (have H2_ := (Option.bind_some _ _).symm.trans H; rw [hy698]; with_reducible exact H2_) | (have H2_ := (Option.bind_some _ _).symm.trans H; with_reducible exact H2_) | with_reducible exact H | (rw [hy698]; exact H) | exact H
     have Ny698 := z9a hy698
     clear hy698
     by_cases c6 : 0 ≤ x4_1
     ·rw [if_pos c6] at H
      have c6b0 : decide (0 ≤ x4_1) = true := z9h c6
      clear c6
      by_cases c7 : y698.length + ((rd_T39 l0 x4_1).f0).length < 5864062014805
      ·rw [if_pos c7] at H
       have LMc7 := z9a c7
       clear c7
       obtain ⟨y702, hy702⟩ : ∃ y_ : List (S71), y_ = (y698 ++ ((rd_T39 l0 x4_1).f0)) := ⟨_, rfl⟩
       replace H : (if x3_1.length < 5864062014805 then (y_l.l0 k1 l0 (x3_1 ++ [(⟨y702⟩ : S39)]) (wrap64 (x4_1 + 2))) else (none)) = some r := by first | (rw [hy702]; with_reducible exact H) | (have H2_ := (Option.bind_some _ _).symm.trans H; rw [hy702]; with_reducible exact H2_) | (have H2_ := (Option.bind_some _ _).symm.trans H; with_reducible exact H2_) | with_reducible exact H | (rw [hy702]; exact H) | exact H
       have Ny702 := z9a hy702
       clear hy702
       by_cases c8 : x3_1.length < 5864062014805
       ·rw [if_pos c8] at H
        have LMc8 := z9a c8
        clear c8
        obtain ⟨y705, hy705⟩ : ∃ y_ : List (S39), y_ = (x3_1 ++ [(⟨y702⟩ : S39)]) := ⟨_, rfl⟩
        replace H : (y_l.l0 k1 l0 y705 (wrap64 (x4_1 + 2))) = some r := by first | (rw [hy705]; with_reducible exact H) | (have H2_ := (Option.bind_some _ _).symm.trans H; rw [hy705]; with_reducible exact H2_) | (have H2_ := (Option.bind_some _ _).symm.trans H; with_reducible exact H2_) | with_reducible exact H | (rw [hy705]; exact H) | exact H
        have Ny705 := z9a hy705
        clear hy705
        have H' := z9a H
        clear H
        go_wp2_with (first | ((with_reducible refine gate_dst (N := 18) rfl ?_); refine Kd.R_lit k71 _ 71 ?hg (N := 18) ?hd (xs := ([] : List (S71))) (inner := []) (ok := fun _ => True) (okp := fun _ => True) ?hr ?hp (fun _ hk => hk) trivial (Below.refl _ _) (Nat.le_refl _) (by simp) ?_; (case hd => rfl); (case hg => rfl); (case hr => first | (go_simp; done) | (go_simp; rfl)); (case hp => exact (Reps.none _ _)); intro v699 w9 ho10 hb hg_ hnew_; clear hg_ hnew_; (first | rw [← Ny698.out] at ho10 | (simp only [Int.reduceToNat] at ho10; rw [← Ny698.out] at ho10)); have n0_ := z9a (Kd.S_elder' (by (with_reducible repeat (first | apply Kd.S_alloc | apply Kd.S_drewN | apply Kd.S_drew)); exact HO_3.out) (Kd.R_base ho10) hb); have n1_ := z9a (Kd.R_lower ho10 (below_size (by repeat (first | (with_reducible first | exact HB.out | apply z9d | apply z9b | apply z9c) | exact HB.out)))); have n2_ := z9a (below_step (by repeat (first | (with_reducible first | exact HB.out | apply z9d | apply z9b | apply z9c) | exact HB.out)) hb); clear HO_3; clear HB; have HO_3 := n0_; have HO700 := n1_; have HB := n2_; clear n0_ n1_ n2_; clear hb ho10; have p701 : 0 ≤ (x4_1 : Int) := z9g (by first | (with_reducible assumption) | assumption); have q701 : x4_1 < (l0.length : Int) := z9g (by first | (with_reducible assumption) | assumption); obtain ⟨ad701, A701_0, c701_0, e701, hx701_0, hl701_0, hi701_0⟩ := at_T39 HR0.out x4_1 p701 q701; cases e701; replace hx701_0 := (HB.out.cell (z9e w _ hx701_0)).trans hx701_0; have HR701_0 := z9a hi701_0; have HC701_0 := z9a hl701_0; clear hi701_0 hl701_0; replace p701 := eq_true p701; replace q701 := eq_true q701) | ((with_reducible refine gate_builtin (b := .append) (xs := #[.tmp 18, .tmp 23]) rfl ?_); at_builtin; refine Kd.R_append_rows k71 (w0 := w) w.heap.size rfl (.tmp 18) (.tmp 23) 24 71 (.agg #[(.int .i64 0), (.int .i64 0), (.int .i64 0)]) 24 rfl Try.underlying24 info71 rfl (by decide) (by omega) v699 y698 ((rd_T39 l0 x4_1).f0) _ _ _ (fun _ => True) (fun _ => False) rfl rfl ?aO ?aR (fun _ _ h => h) (fun _ h => h.elim) ?aF ?aB ?aS ?aL ?_; (case aR => repeat (first | exact (Kd.C_below HR701_0.out HB.out) | (with_reducible refine Kd.C_alloc ?_ _) | (with_reducible refine Kd.C_drewN ?_ _) | (with_reducible refine Kd.C_drew ?_))); (case aB => exact (by repeat (first | (with_reducible first | exact HB.out | apply z9d | apply z9b | apply z9c) | exact HB.out))); (case aF => exact (fun _ _ => trivial)); (case aO => exact (by (with_reducible repeat (first | apply Kd.R_alloc | apply Kd.R_drewN | apply Kd.R_drew)); exact HO700.out)); (case aS => exact (below_size (by repeat (first | (with_reducible first | exact HB.out | apply z9d | apply z9b | apply z9c) | exact HB.out)))); (case aL => have := LMc7.out; omega); intro v703 w11 ho hb hg hat; rw [← Ny702.out] at ho; have n0_ := z9a (Kd.S_after (ok := (fun _ => True)) (by (with_reducible repeat (first | apply Kd.S_alloc | apply Kd.S_drewN | apply Kd.S_drew)); exact HO_3.out) hg hat); have n1_ := z9a (hb); have n2_ := z9a (ho); clear HO_3; clear HB; clear HO700; have HO_3 := n0_; have HB := n1_; have HO704 := n2_; clear n0_ n1_ n2_; clear ho hb hg hat; obtain ⟨Ao12, co12, eo12⟩ := Kd.R_slice HO704.out; subst eo12) | ((with_reducible refine gate_builtin (b := .append) (xs := #[.tmp 17, .tmp 26]) rfl ?_); at_builtin; refine Kd.S_append k39 (w0 := w) w.heap.size rfl (.tmp 17) (.tmp 26) 27 39 (.agg #[(.slice none 0 0)]) 24 rfl Try.underlying27 info39 rfl (by decide) (by omega) u3 x3_1 (⟨y702⟩ : S39) [.slice Ao12 y702.length co12] (fun _ => True) (fun k_ => some k_ = (.slice Ao12 y702.length co12 : Value).ownBlock) rfl rfl ?aP (fun k_ hk_ => ((Kd.R_mono (ok' := fun k_ => ((fun _ => True)) k_ ∧ some k_ ≠ (u3 : Value).ownBlock) (Kd.R_apart' (HO704.out) (Kd.S_typed HO_3.out) (by decide)) (fun k_ hk => ⟨trivial, hk.2⟩))).1 k_ hk_.symm) ?aF ?aO ?aB ?aS ?aL ?_; (case aP => exact k39_mkM _ _ _ (⟨y702⟩ : S39) (Kd.R_mono (Kd.R_tight rfl (Kd.R_mono (ok' := fun k_ => ((fun _ => True)) k_ ∧ some k_ ≠ (u3 : Value).ownBlock) (Kd.R_apart' (HO704.out) (Kd.S_typed HO_3.out) (by decide)) (fun k_ hk => ⟨trivial, hk.2⟩))) (fun _ h_ => h_))); (case aB => exact (by repeat (first | (with_reducible first | exact HB.out | apply z9d | apply z9b | apply z9c) | exact HB.out))); (case aF => exact (fun _ _ => trivial)); (case aO => exact (by (with_reducible repeat (first | apply Kd.S_alloc | apply Kd.S_drewN | apply Kd.S_drew)); exact Kd.S_mono HO_3.out (fun k_ hk => ⟨trivial, fun e_ => hk.2 e_⟩))); (case aS => exact (below_size (by repeat (first | (with_reducible first | exact HB.out | apply z9d | apply z9b | apply z9c) | exact HB.out)))); (case aL => have := LMc8.out; omega); intro v706 w13 ho hb hg hat; rw [← Ny705.out] at ho; have n0_ := z9a (hb); have n1_ := z9a (ho); clear HB; clear HO_3; clear HO704; have HB := n0_; have HO707 := n1_; clear n0_ n1_; clear ho hb hg hat))
        go_roundg k1
        case measure => have := HK1.out; omega
        case rel => exact ⟨(y705), (wrap64 (x4_1 + 2)), (by first | rfl | (simp; done) | (simp [*]; done)), H', ⟨by have := HK1.out; omega⟩, ⟨by (with_reducible repeat (first | apply Kd.S_alloc | apply Kd.S_drewN | apply Kd.S_drew)); exact HO707.out⟩, ⟨by repeat (first | (with_reducible first | exact HB.out | apply z9d | apply z9b | apply z9c) | exact HB.out)⟩⟩
       ·rw [if_neg c8] at H
        exact absurd H (by simp)
      ·rw [if_neg c7] at H
       exact absurd H (by simp)
     ·rw [if_neg c6] at H
      exact absurd H (by simp)
    ·rw [if_neg c5] at H
     have c5b0 : ((wrap64 (x4_1 + 1)) == (l0.length : Int)) = false := beq_eq_false_iff_ne.mpr c5
     have c5b1 : ((wrap64 (x4_1 + 1)) != (l0.length : Int)) = true := bne_iff_ne.mpr c5
     by_cases c14 : 0 ≤ x4_1
     ·rw [if_pos c14] at H
      have c14b0 : decide (0 ≤ x4_1) = true := z9h c14
      clear c14
      obtain ⟨ji15, hji15⟩ : ∃ j_ : Int, (wrap64 (x4_1 + 1)) = j_ := ⟨_, rfl⟩
      replace H : (if 0 ≤ (ji15) then (if (ji15) < (l0.length : Int) then ((y_e.f k1 ((rd_T39 l0 x4_1).f0) ((rd_T39 l0 (ji15)).f0)).bind fun t710 => (if x3_1.length < 5864062014805 then (y_l.l0 k1 l0 (x3_1 ++ [(⟨t710⟩ : S39)]) (wrap64 (x4_1 + 2))) else (none))) else (none)) else (none)) = some r := by first | (rw [hji15] at H; exact H) | (simp only [hji15] at H ⊢; exact H)
      (try rw [hji15] at c5b0)
      (try rw [hji15] at c5b1)
      have hji15w : (IntKind.i64.wrap (x4_1 + 1)) = ji15 := (i64_w _).trans hji15
      by_cases c16 : 0 ≤ (ji15)
      ·rw [if_pos c16] at H
       have c16b0 : decide (0 ≤ (ji15)) = true := z9h c16
       clear c16
       by_cases c17 : (ji15) < (l0.length : Int)
       ·rw [if_pos c17] at H
        have c17b0 : decide ((ji15) < (l0.length : Int)) = true := z9h c17
        clear c17
        replace H := z9f.mp H
        obtain ⟨t710, A180, H⟩ := H
        have A18 := z9a A180
        clear A180
        by_cases c19 : x3_1.length < 5864062014805
        ·rw [if_pos c19] at H
         have LMc19 := z9a c19
         clear c19
         obtain ⟨y713, hy713⟩ : ∃ y_ : List (S39), y_ = (x3_1 ++ [(⟨t710⟩ : S39)]) := ⟨_, rfl⟩
         replace H : (y_l.l0 k1 l0 y713 (wrap64 (x4_1 + 2))) = some r := by first | (rw [hy713]; with_reducible exact H) | (have H2_ := (Option.bind_some _ _).symm.trans H; rw [hy713]; with_reducible exact H2_) | (have H2_ := (Option.bind_some _ _).symm.trans H; with_reducible exact H2_) | with_reducible exact H | (rw [hy713]; exact H) | exact H
         have Ny713 := z9a hy713
         clear hy713
         have H' := z9a H
         clear H
         try go_wp2
         have n0_ := z9a (Kd.S_drew HO_3.out)
         have n1_ := z9a (z9c HB.out)
         clear HO_3
         clear HB
         have HO_3 := n0_
         have HB := n1_
         clear n0_ n1_
         have p708 : 0 ≤ (x4_1 : Int) := z9g (by first | (with_reducible assumption) | assumption)
         have q708 : x4_1 < (l0.length : Int) := z9g (by first | (with_reducible assumption) | assumption)
         obtain ⟨ad708, A708_0, c708_0, e708, hx708_0, hl708_0, hi708_0⟩ := at_T39 HR0.out x4_1 p708 q708
         have hw708_0 := hx708_0
         cases e708
         replace hx708_0 := (HB.out.cell (z9e w _ hx708_0)).trans hx708_0
         have HR708_0 := z9a hi708_0
         have HC708_0 := z9a hl708_0
         clear hi708_0 hl708_0
         replace p708 := eq_true p708
         replace q708 := eq_true q708
         have p709 : 0 ≤ ((ji15) : Int) := z9g (by first | (with_reducible assumption) | assumption)
         have q709 : (ji15) < (l0.length : Int) := z9g (by first | (with_reducible assumption) | assumption)
         obtain ⟨ad709, A709_0, c709_0, e709, hx709_0, hl709_0, hi709_0⟩ := at_T39 HR0.out (ji15) p709 q709
         have hw709_0 := hx709_0
         obtain rfl : ad708 = ad709 := (by injection e709)
         replace hx709_0 := (HB.out.cell (z9e w _ hx709_0)).trans hx709_0
         have HR709_0 := z9a hi709_0
         have HC709_0 := z9a hl709_0
         clear hi709_0 hl709_0
         replace p709 := eq_true p709
         replace q709 := eq_true q709
         refine start_ (n := 17) (S := fun w' => w'.cell? (ad708.add (x4_1).toNat) = some (.slice A708_0 ((rd_T39 l0 x4_1).f0).length c708_0) ∧ w'.cell? (ad708.add ((ji15)).toNat) = some (.slice A709_0 ((rd_T39 l0 (ji15)).f0).length c709_0)) (ds := []) #[zf9,zf9,zf9,zf9,zf9,zf9,zf9,zf9,zf9,zf9,zf9,zf9,zf9,zf9,zf9,zf9,zf9] (by kernel_rfl) rfl rfl ⟨((HB.out.cell (z9e w _ hw708_0)).trans hw708_0), ((HB.out.cell (z9e w _ hw709_0)).trans hw709_0)⟩ (fun hHeld => ?_); refine with_tabW y_l.tab7 y_l.bits7 (fun HT_ HW_ => ?_)
         generalize wr.drew = w20 at HO_3 HB HR708_0 HR709_0 hx708_0 hx709_0 hHeld ⊢
         refine pure_ (i := 0) (N := some 28) (v := ?_) (a' := ?_) #[zt9,zf9,zf9,zf9,zf9,zf9,zf9,zf9,zf9,zf9,zf9,zf9,zf9,zf9,zf9,zf9,zf9] rfl rfl (any_of HT_.out (by kernel_rfl)) (fun _ _ _ h => h) (Or.inl ⟨by rfl, ?_⟩) ?_ ?_
         rotate_left
         ·intro w'
          go_simp
          with_reducible rfl
         rotate_left
         ·simp only [Act.put, zp9a, zp9b, zp9c, i64_w, i32_w]
          rfl
         refine pure_ (i := 1) (N := some 29) (v := ?_) (a' := ?_) #[zt9,zt9,zf9,zf9,zf9,zf9,zf9,zf9,zf9,zf9,zf9,zf9,zf9,zf9,zf9,zf9,zf9] rfl rfl (any_of HT_.out (by kernel_rfl)) (fun _ _ _ h => h) (Or.inl ⟨by rfl, ?_⟩) ?_ ?_
         rotate_left
         ·intro w'
          go_simp
          with_reducible rfl
         rotate_left
         ·simp only [Act.put, zp9a, zp9b, zp9c, i64_w, i32_w]
          rfl
         refine pure_ (i := 2) (N := some 30) (v := ?_) (a' := ?_) #[zt9,zt9,zt9,zf9,zf9,zf9,zf9,zf9,zf9,zf9,zf9,zf9,zf9,zf9,zf9,zf9,zf9] rfl rfl (any_of HT_.out (by kernel_rfl)) (fun _ _ _ h => h) (Or.inl ⟨by rfl, ?_⟩) ?_ ?_
         rotate_left
         ·intro w'
          go_simp
          with_reducible rfl
         rotate_left
         ·simp only [Act.put, zp9a, zp9b, zp9c, i64_w, i32_w]
          rfl
         refine pure_ (i := 3) (N := some 31) (v := ?_) (a' := ?_) #[zt9,zt9,zt9,zt9,zf9,zf9,zf9,zf9,zf9,zf9,zf9,zf9,zf9,zf9,zf9,zf9,zf9] rfl rfl (any_of HT_.out (by kernel_rfl)) (fun _ _ _ h => h) (Or.inl ⟨by rfl, ?_⟩) ?_ ?_
         rotate_left
         ·intro w'
          go_simp
          with_reducible rfl
         rotate_left
         ·simp only [Act.put, zp9a, zp9b, zp9c, i64_w, i32_w]
          rfl
         refine pure_ (i := 4) (N := some 32) (v := ?_) (a' := ?_) #[zt9,zt9,zt9,zt9,zt9,zf9,zf9,zf9,zf9,zf9,zf9,zf9,zf9,zf9,zf9,zf9,zf9] rfl rfl (any_of HT_.out (by kernel_rfl)) (fun _ _ _ h => h) (Or.inl ⟨by rfl, ?_⟩) ?_ ?_
         rotate_left
         ·intro w'
          go_simp
          with_reducible rfl
         rotate_left
         ·simp only [Act.put, zp9a, zp9b, zp9c, i64_w, i32_w]
          rfl
         refine pure_ (i := 6) (N := some 34) (v := ?_) (a' := ?_) #[zt9,zt9,zt9,zt9,zt9,zf9,zt9,zf9,zf9,zf9,zf9,zf9,zf9,zf9,zf9,zf9,zf9] rfl rfl (any_of HT_.out (by kernel_rfl)) (fun _ _ _ h => h) (Or.inl ⟨by rfl, ?_⟩) ?_ ?_
         rotate_left
         ·intro w'
          go_simp
          with_reducible rfl
         rotate_left
         ·simp only [Act.put, zp9a, zp9b, zp9c, i64_w, i32_w]
          rfl
         refine pure_ (i := 7) (N := some 35) (v := ?_) (a' := ?_) #[zt9,zt9,zt9,zt9,zt9,zf9,zt9,zt9,zf9,zf9,zf9,zf9,zf9,zf9,zf9,zf9,zf9] rfl rfl (any_of HT_.out (by kernel_rfl)) (fun _ _ _ h => h) (Or.inl ⟨by rfl, ?_⟩) ?_ ?_
         rotate_left
         ·intro w'
          go_simp
          with_reducible rfl
         rotate_left
         ·simp only [Act.put, zp9a, zp9b, zp9c, i64_w, i32_w]
          rfl
         refine pure_ (i := 8) (N := some 36) (v := ?_) (a' := ?_) #[zt9,zt9,zt9,zt9,zt9,zf9,zt9,zt9,zt9,zf9,zf9,zf9,zf9,zf9,zf9,zf9,zf9] rfl rfl (any_of HT_.out (by kernel_rfl)) (fun _ _ _ h => h) (Or.inl ⟨by rfl, ?_⟩) ?_ ?_
         rotate_left
         ·intro w'
          go_simp
          with_reducible rfl
         rotate_left
         ·simp only [Act.put, zp9a, zp9b, zp9c, i64_w, i32_w]
          rfl
         refine pure_ (i := 9) (N := some 37) (v := ?_) (a' := ?_) #[zt9,zt9,zt9,zt9,zt9,zf9,zt9,zt9,zt9,zt9,zf9,zf9,zf9,zf9,zf9,zf9,zf9] rfl rfl (any_of HT_.out (by kernel_rfl)) (fun _ _ _ h => h) (Or.inl ⟨by rfl, ?_⟩) ?_ ?_
         rotate_left
         ·intro w'
          go_simp
          with_reducible rfl
         rotate_left
         ·simp only [Act.put, zp9a, zp9b, zp9c, i64_w, i32_w]
          rfl
         refine pure_ (i := 10) (N := some 38) (v := ?_) (a' := ?_) #[zt9,zt9,zt9,zt9,zt9,zf9,zt9,zt9,zt9,zt9,zt9,zf9,zf9,zf9,zf9,zf9,zf9] rfl rfl (any_of HT_.out (by kernel_rfl)) (fun _ _ _ h => h) (Or.inl ⟨by rfl, ?_⟩) ?_ ?_
         rotate_left
         ·intro w'
          go_simp
          with_reducible rfl
         rotate_left
         ·simp only [Act.put, zp9a, zp9b, zp9c, i64_w, i32_w]
          rfl
         refine take_ (i := 5) (N := some 33) (v := ?_) (a' := ?_) #[zt9,zt9,zt9,zt9,zt9,zt9,zt9,zt9,zt9,zt9,zt9,zf9,zf9,zf9,zf9,zf9,zf9] rfl rfl (take_ofW HT_.out HW_.out (by kernel_rfl)) (fun _ _ _ h => h) (Or.inl ⟨by rfl, ?_⟩) hHeld ?_ ?_
         rotate_left
         ·rintro w' ⟨s0, s1⟩
          go_simp
          with_reducible rfl
         rotate_left
         ·simp only [Act.put, zp9a, zp9b, zp9c, i64_w, i32_w]
          rfl
         refine take_ (i := 11) (N := some 39) (v := ?_) (a' := ?_) #[zt9,zt9,zt9,zt9,zt9,zt9,zt9,zt9,zt9,zt9,zt9,zt9,zf9,zf9,zf9,zf9,zf9] rfl rfl (take_ofW HT_.out HW_.out (by kernel_rfl)) (fun _ _ _ h => h) (Or.inl ⟨by rfl, ?_⟩) hHeld ?_ ?_
         rotate_left
         ·rintro w' ⟨s0, s1⟩
          go_simp
          with_reducible rfl
         rotate_left
         ·simp only [Act.put, zp9a, zp9b, zp9c, i64_w, i32_w]
          rfl
         refine one_ (i := 12) (N := some 40) #[zt9,zt9,zt9,zt9,zt9,zt9,zt9,zt9,zt9,zt9,zt9,zt9,zt9,zf9,zf9,zf9,zf9] rfl rfl (one_of HT_.out (by kernel_rfl)) (by decide) (fun K hK => ?_)
         refine goes_ Try.func51 (by kernel_rfl) rfl #[.slice A708_0 ((rd_T39 l0 x4_1).f0).length c708_0, .slice A709_0 ((rd_T39 l0 (ji15)).f0).length c709_0] (by rfl) rfl rfl (by (try simp only [zm9a, zm9b, zm9c]); first | done | (simp only [hji15]; rfl) | rfl | (simp only [zm9d, zm9e]; rfl)) ?_
         with_reducible refine (y_e.calls k1 _ _ ((rd_T39 l0 x4_1).f0) _ _ ((rd_T39 l0 (ji15)).f0) t710 _ ?side1 ?side2 ?side3 ?side4 A18.out).mono ?_
         (case side1 => repeat (first | exact (Kd.C_below HR708_0.out HB.out) | (with_reducible refine Kd.C_alloc ?_ _) | (with_reducible refine Kd.C_drewN ?_ _) | (with_reducible refine Kd.C_drew ?_)))
         (case side2 => exact HC708_0.out)
         (case side3 => repeat (first | exact (Kd.C_below HR709_0.out HB.out) | (with_reducible refine Kd.C_alloc ?_ _) | (with_reducible refine Kd.C_drewN ?_ _) | (with_reducible refine Kd.C_drew ?_)))
         (case side4 => exact HC709_0.out)
         rintro e w21 ⟨v711, rfl, ho0, hb⟩
         refine ⟨_, rfl, ?_⟩
         have n0_ := z9a (Kd.S_elder' (by (with_reducible repeat (first | apply Kd.S_alloc | apply Kd.S_drewN | apply Kd.S_drew)); exact HO_3.out) (Kd.R_base ho0) hb)
         have n1_ := z9a (Kd.R_lower ho0 (below_size (by repeat (first | (with_reducible first | exact HB.out | apply z9d | apply z9b | apply z9c) | exact HB.out))))
         have n2_ := z9a (below_step (by repeat (first | (with_reducible first | exact HB.out | apply z9d | apply z9b | apply z9c) | exact HB.out)) hb)
         clear HO_3
         clear HB
         have HO_3 := n0_
         have HO712 := n1_
         have HB := n2_
         clear n0_ n1_ n2_
         (try clear hb)
         (try clear hb2)
         (try clear hk)
         (try clear hi)
         (try clear ho0)
         obtain ⟨Ao22, co22, eo22⟩ := Kd.R_slice HO712.out
         (first | subst eo22 | (injection eo22 with f1_ f2_ f3_; have f4_ := f1_.symm; have f5_ := f3_.symm; clear f1_ f2_ f3_; subst f4_; subst f5_))
         refine hK.out _ _ ⟨((HB.out.cell (z9e w _ hw708_0)).trans hw708_0), ((HB.out.cell (z9e w _ hw709_0)).trans hw709_0)⟩ (fun hHeld => ?_)
         clear hK K
         refine norm_ (a' := ?_) ?_ ?_
         rotate_left
         ·show Act.put _ (some 40) _ = _
          simp only [Act.put, zp9a, zp9b, zp9c, i64_w, i32_w]
          rfl
         refine pure_ (i := 13) (N := some 41) (v := ?_) (a' := ?_) #[zt9,zt9,zt9,zt9,zt9,zt9,zt9,zt9,zt9,zt9,zt9,zt9,zt9,zt9,zf9,zf9,zf9] rfl rfl (any_of HT_.out (by kernel_rfl)) (fun _ _ _ h => h) (Or.inl ⟨by rfl, ?_⟩) ?_ ?_
         rotate_left
         ·intro w'
          go_simp
          with_reducible rfl
         rotate_left
         ·simp only [Act.put, zp9a, zp9b, zp9c, i64_w, i32_w]
          rfl
         refine one_ (i := 14) (N := some 42) #[zt9,zt9,zt9,zt9,zt9,zt9,zt9,zt9,zt9,zt9,zt9,zt9,zt9,zt9,zt9,zf9,zf9] rfl rfl (one_of HT_.out (by kernel_rfl)) (by decide) (fun K hK => ?_)
         refine value_ (w1 := ?_) (v := ?_) (by rfl) rfl ?_ ?_
         rotate_left 2
         ·go_simp
          constructor
          ·rfl
          ·rfl
         refine hK.out _ _ ⟨(World.cell?_alloc_lt _ _ _ (z9e _ _ (((HB.out.cell (z9e w _ hw708_0)).trans hw708_0)))).trans (((HB.out.cell (z9e w _ hw708_0)).trans hw708_0)), (World.cell?_alloc_lt _ _ _ (z9e _ _ (((HB.out.cell (z9e w _ hw709_0)).trans hw709_0)))).trans (((HB.out.cell (z9e w _ hw709_0)).trans hw709_0))⟩ (fun hHeld => ?_)
         clear hK K
         refine norm_ (a' := ?_) ?_ ?_
         rotate_left
         ·show Act.put _ (some 42) _ = _
          simp only [Act.put, zp9a, zp9b, zp9c, i64_w, i32_w]
          rfl
         refine one_ (i := 15) (N := some 43) #[zt9,zt9,zt9,zt9,zt9,zt9,zt9,zt9,zt9,zt9,zt9,zt9,zt9,zt9,zt9,zt9,zf9] rfl rfl (one_of HT_.out (by kernel_rfl)) (by decide) (fun K hK => ?_)
         refine Kd.S_append_step k39 (w0 := w) w.heap.size (by rfl) (.tmp 28) (.tmp 42) 27 39 (.agg #[(.slice none 0 0)]) 24 rfl Try.underlying27 info39 rfl (by decide) (by omega) u3 x3_1 (⟨t710⟩ : S39) [.slice Ao22 t710.length co22] (fun _ => True) (fun k_ => some k_ = (.slice Ao22 t710.length co22 : Value).ownBlock) rfl rfl ?aP (fun k_ hk_ => ((Kd.R_mono (ok' := fun k_ => ((fun _ => True)) k_ ∧ some k_ ≠ (u3 : Value).ownBlock) (Kd.R_apart' (HO712.out) (Kd.S_typed HO_3.out) (by decide)) (fun k_ hk => ⟨trivial, hk.2⟩))).1 k_ hk_.symm) ?aF ?aO ?aB ?aS ?aL ?_
         (case aP => exact k39_mkM _ _ _ (⟨t710⟩ : S39) (Kd.R_mono (Kd.R_tight rfl (Kd.R_mono (ok' := fun k_ => ((fun _ => True)) k_ ∧ some k_ ≠ (u3 : Value).ownBlock) (Kd.R_apart' (HO712.out) (Kd.S_typed HO_3.out) (by decide)) (fun k_ hk => ⟨trivial, hk.2⟩))) (fun _ h_ => h_)))
         (case aB => exact (by repeat (first | (with_reducible first | exact HB.out | apply z9d | apply z9b | apply z9c) | exact HB.out)))
         (case aF => exact (fun _ _ => trivial))
         (case aO => exact (by (with_reducible repeat (first | apply Kd.S_alloc | apply Kd.S_drewN | apply Kd.S_drew)); exact Kd.S_mono HO_3.out (fun k_ hk => ⟨trivial, fun e_ => hk.2 e_⟩)))
         (case aS => exact (below_size (by repeat (first | (with_reducible first | exact HB.out | apply z9d | apply z9b | apply z9c) | exact HB.out))))
         (case aL => have := LMc19.out; omega)
         intro v714 w23 ho hb hg hat
         rw [← Ny713.out] at ho
         have n0_ := z9a (hb)
         have n1_ := z9a (ho)
         clear HB
         clear HO_3
         clear HO712
         have HB := n0_
         have HO715 := n1_
         clear n0_ n1_
         clear ho hb hg hat
         refine hK.out _ _ ⟨((HB.out.cell (z9e w _ hw708_0)).trans hw708_0), ((HB.out.cell (z9e w _ hw709_0)).trans hw709_0)⟩ (fun hHeld => ?_)
         clear hK K
         refine norm_ (a' := ?_) ?_ ?_
         rotate_left
         ·show Act.put _ (some 43) _ = _
          simp only [Act.put, zp9a, zp9b, zp9c, i64_w, i32_w]
          rfl
         refine pure_ (i := 16) (N := some 3) (v := ?_) (a' := ?_) #[zt9,zt9,zt9,zt9,zt9,zt9,zt9,zt9,zt9,zt9,zt9,zt9,zt9,zt9,zt9,zt9,zt9] rfl rfl (any_of HT_.out (by kernel_rfl)) (fun _ _ _ h => h) (Or.inl ⟨by rfl, ?_⟩) ?_ ?_
         rotate_left
         ·intro w'
          go_simp
          with_reducible rfl
         rotate_left
         ·simp only [Act.put, zp9a, zp9b, zp9c, i64_w, i32_w]
          rfl
         refine done_ (done_of HT_.out (by kernel_rfl)) ?_
         try go_wp2
         go_roundg k1
         case measure => have := HK1.out; omega
         case rel => exact ⟨(y713), (wrap64 (x4_1 + 2)), (by first | rfl | (simp; done) | (simp [*]; done)), H', ⟨by have := HK1.out; omega⟩, ⟨by (with_reducible repeat (first | apply Kd.S_alloc | apply Kd.S_drewN | apply Kd.S_drew)); exact HO715.out⟩, ⟨by repeat (first | (with_reducible first | exact HB.out | apply z9d | apply z9b | apply z9c) | exact HB.out)⟩⟩
        ·rw [if_neg c19] at H
         exact absurd H (by simp)
       ·rw [if_neg c17] at H
        exact absurd H (by simp)
      ·rw [if_neg c16] at H
       exact absurd H (by simp)
     ·rw [if_neg c14] at H
      exact absurd H (by simp)
   ·rw [if_neg c4] at H
    have c4b0 : decide (x4_1 < (l0.length : Int)) = false := decide_eq_false c4
    clear c4
    obtain rfl := Option.some.inj H
    go_wp2
    go_ret
    exact ⟨_, by first | rfl | (simp [errW_none, errW_some] <;> rfl) | (simp [*, errW_none, errW_some] <;> rfl), by (with_reducible repeat (first | apply Kd.S_alloc | apply Kd.S_drewN | apply Kd.S_drew)); exact HO_3.out, by repeat (first | (with_reducible first | exact HB.out | apply z9d | apply z9b | apply z9c) | exact HB.out)⟩
def y_bb.l0 : Nat → List (S39) → Int → Option ((List (S71)) × Int × Bool)
 | 0, _, _ => none
 | k + 1, x5, x6 => if (x5.length : Int) > 1 then ((y_l.f k x5).bind fun t720 => (y_bb.l0 k t720 (wrap64 (x6 + 1)))) else (if (x5.length : Int) = 0 then (some ((([] : List (S71))), 0, true)) else ((some (([] : List (S71)) : List (S71))).bind fun y726 => (if 0 < (x5.length : Int) then (if y726.length + ((rd_T39 x5 0).f0).length < 5864062014805 then (some ((y726 ++ ((rd_T39 x5 0).f0)), x6, true)) else (none)) else (none))))
def y_bb.f (k : Nat) (l0 : List (S39)) : Option ((List (S71)) × Int × Bool) := (y_ab.f k l0).bind fun t716 => (if t716 = true then (y_bb.l0 k l0 0) else (some ((([] : List (S71))), 0, false)))
theorem y_bb.calls (k : Nat) (P0_ : Nat → Prop) (A0 : Option Addr) (c0 : Nat) (l0 : List (S39)) (r1 : List (S71)) (r2 : Int) (r3 : Bool) (w : World) (hs0 : Kd.V k39 39 w w.heap.size (fun k_ => P0_ k_) (.slice A0 l0.length c0) l0) (h : y_bb.f k l0 = some (r1, r2, r3)) :
  Calls Try.prog 41 #[.slice A0 l0.length c0] w fun e w' => ∃ v0_ : Value, e = .returned (.tuple #[v0_, .int .i64 r2, .bool r3]) ∧ Kd.R k71 71 w' w.heap.size (fun k_ => (w.heap.size ≤ k_)) v0_ r1 ∧ Below w.heap.size w w' := by
 have HO0 := z9a (show Kd.V k39 39 w w.heap.size (fun k_ => (P0_ k_ ∨ w.heap.size ≤ k_)) (.slice A0 l0.length c0) l0 from Kd.V_mono hs0 (fun k_ hk => .inl hk))
 have HB := z9a (Below.refl w.heap.size w)
 have H := h
 unfold y_bb.f at H
 clear h
 replace H := z9f.mp H
 obtain ⟨t716, A20, H⟩ := H
 have A2 := z9a A20
 clear A20
 by_cases c3 : t716 = true
 ·subst c3
  rw [if_pos rfl] at H
  have H' := z9a H
  clear H
  go_enter Try.func41, Try.ntmps41
  go_wp2_with (first | ((with_reducible refine gate_callee (f := 23) rfl ?_); refine goesL_ (some 8) rfl rfl Try.func23 (by kernel_rfl) rfl #[.slice A0 l0.length c0] rfl (by (try simp only [zm9a, zm9b, zm9c]); first | done | rfl | (simp only [zm9d, zm9e]; rfl)) ?_; (with_reducible refine (y_ab.calls k _ _ l0 true _ ?side1 ?side2 A2.out).mono ?_); (case side1 => repeat (first | exact (Kd.V_reads' HO0.out).2.2 | (with_reducible refine Kd.C_alloc ?_ _) | (with_reducible refine Kd.C_drewN ?_ _) | (with_reducible refine Kd.C_drew ?_))); (case side2 => exact (Kd.V_reads' HO0.out).2.1); rintro e w4 ⟨rfl, hb⟩; refine ⟨_, rfl, ?_⟩; have n0_ := z9a (Kd.V_below (by (with_reducible repeat (first | apply Kd.V_alloc | apply Kd.V_drewN | apply Kd.V_drew)); exact HO0.out) hb); have n1_ := z9a (below_step (by repeat (first | (with_reducible first | exact HB.out | apply z9d | apply z9b | apply z9c) | exact HB.out)) hb); clear HO0; clear HB; have HO0 := n0_; have HB := n1_; clear n0_ n1_; (try clear hb); (try clear hb2); (try clear hk); (try clear hi)))
  go_loopg [5, 6] k (fun kq v5 v6 w' => ∃ (x5_1 : List (S39)) (x6_1 : Int), v6 = .int .i64 x6_1 ∧ Aside0 (y_bb.l0 kq x5_1 x6_1 = some (r1, r2, r3)) ∧ Aside0 (kq ≤ k) ∧ Aside0 (Kd.V k39 39 w' w.heap.size (fun k_ => (P0_ k_ ∨ w.heap.size ≤ k_)) v5 x5_1) ∧ Aside0 (Below w.heap.size w w'))
  case atStart => exact ⟨(l0), (0), (by first | rfl | (simp; done) | (simp [*]; done)), H', ⟨Nat.le_refl _⟩, ⟨by (with_reducible repeat (first | apply Kd.V_alloc | apply Kd.V_drewN | apply Kd.V_drew)); exact HO0.out⟩, ⟨by repeat (first | (with_reducible first | exact HB.out | apply z9d | apply z9b | apply z9c) | exact HB.out)⟩⟩
  case round =>
   clear H'
   try clear c2
   try clear p2
   try clear c3
   try clear c4
   obtain ⟨x5_1, x6_1, rfl, HA, HK1, HO_5, HB⟩ := hrel
   cases gk with
   | zero => exact absurd HA.out (by simp [y_bb.l0])
   | succ k1 =>
    have H := HA.out
    clear HA
    simp only [y_bb.l0] at H
    by_cases c5 : (x5_1.length : Int) > 1
    ·rw [if_pos c5] at H
     have c5b0 : decide (1 < (x5_1.length : Int)) = true := z9h c5
     have c5b1 : decide (1 < x5_1.length) = true := z9h (by omega)
     clear c5
     replace H := z9f.mp H
     obtain ⟨t720, A60, H⟩ := H
     have A6 := z9a A60
     clear A60
     have H' := z9a H
     clear H
     obtain ⟨Ao7, co7, eo7⟩ := Kd.V_slice HO_5.out
     subst eo7
     go_wp2_with (first | ((with_reducible refine gate_callee (f := 54) rfl ?_); refine goesL_ (some 16) rfl rfl Try.func54 (by kernel_rfl) rfl #[.slice Ao7 x5_1.length co7] rfl (by (try simp only [zm9a, zm9b, zm9c]); first | done | rfl | (simp only [zm9d, zm9e]; rfl)) ?_; (with_reducible refine (y_l.calls k1 _ _ x5_1 t720 _ ?side1 ?side2 A6.out).mono ?_); (case side1 => repeat (first | exact (Kd.V_reads' HO_5.out).2.2 | (with_reducible refine Kd.C_alloc ?_ _) | (with_reducible refine Kd.C_drewN ?_ _) | (with_reducible refine Kd.C_drew ?_))); (case side2 => exact (Kd.V_reads' HO_5.out).2.1); rintro e w8 ⟨v721, rfl, ho0, hb⟩; refine ⟨_, rfl, ?_⟩; have n0_ := z9a (Kd.V_elder' (by (with_reducible repeat (first | apply Kd.V_alloc | apply Kd.V_drewN | apply Kd.V_drew)); exact HO_5.out) (Kd.S_base ho0) hb); have n1_ := z9a (Kd.S_lower (Kd.S_newM (M := fun k_ => (w.heap.size ≤ k_)) ho0 (below_size (by repeat (first | (with_reducible first | exact HB.out | apply z9d | apply z9b | apply z9c) | exact HB.out))) (fun k_ h_ => h_)) (below_size (by repeat (first | (with_reducible first | exact HB.out | apply z9d | apply z9b | apply z9c) | exact HB.out)))); have n2_ := z9a (below_step (by repeat (first | (with_reducible first | exact HB.out | apply z9d | apply z9b | apply z9c) | exact HB.out)) hb); clear HO_5; clear HB; have HO_5 := n0_; have HO722 := n1_; have HB := n2_; clear n0_ n1_ n2_; (try clear hb); (try clear hb2); (try clear hk); (try clear hi); (try clear ho0)))
     go_roundg k1
     case measure => have := HK1.out; omega
     case rel => exact ⟨(t720), (wrap64 (x6_1 + 1)), (by first | rfl | (simp; done) | (simp [*]; done)), H', ⟨by have := HK1.out; omega⟩, ⟨Kd.V_mono (Kd.S_V (by (with_reducible repeat (first | apply Kd.S_alloc | apply Kd.S_drewN | apply Kd.S_drew)); exact Kd.S_mono HO722.out (fun _ hk => hk.1))) (fun k_ hk => by first | exact ⟨(.inr (hk.1)), hk.2⟩ | exact (.inr (hk)))⟩, ⟨by repeat (first | (with_reducible first | exact HB.out | apply z9d | apply z9b | apply z9c) | exact HB.out)⟩⟩
    ·rw [if_neg c5] at H
     have c5b0 : decide (1 < (x5_1.length : Int)) = false := decide_eq_false c5
     have c5b1 : decide (1 < x5_1.length) = false := decide_eq_false (by omega)
     clear c5
     by_cases c9 : (x5_1.length : Int) = 0
     ·rw [if_pos c9] at H
      have c9b0 : ((x5_1.length : Int) == 0) = true := beq_iff_eq.mpr c9
      have c9b1 : ((x5_1.length : Int) != 0) = false := bne_eq_false_iff_eq.mpr c9
      clear c9
      obtain ⟨y723, hy723⟩ : ∃ y_ : List (S71), y_ = (([] : List (S71))) := ⟨_, rfl⟩
      replace H : (some (y723, 0, true)) = some (r1, r2, r3) := by first | (rw [hy723]; with_reducible exact H) | (have H2_ := (Option.bind_some _ _).symm.trans H; rw [hy723]; with_reducible exact H2_) | (have H2_ := (Option.bind_some _ _).symm.trans H; with_reducible exact H2_) | with_reducible exact H | (rw [hy723]; exact H) | exact H
      have Ny723 := z9a hy723
      clear hy723
      simp only [Option.some.injEq, Prod.mk.injEq] at H
      obtain ⟨rfl, rfl, rfl⟩ := H
      obtain ⟨Ao10, co10, eo10⟩ := Kd.V_slice HO_5.out
      subst eo10
      go_wp2_with (first | ((with_reducible refine gate_dst (N := 22) rfl ?_); refine Kd.R_lit k71 _ 71 ?hg (N := 22) ?hd (xs := ([] : List (S71))) (inner := []) (ok := fun _ => True) (okp := fun _ => True) ?hr ?hp (fun _ hk => hk) trivial (Below.refl _ _) (Nat.le_refl _) (by simp) ?_; (case hd => rfl); (case hg => rfl); (case hr => first | (go_simp; done) | (go_simp; rfl)); (case hp => exact (Reps.none _ _)); intro v724 w11 ho12 hb hg_ hnew_; clear hg_ hnew_; (first | rw [← Ny723.out] at ho12 | (simp only [Int.reduceToNat] at ho12; rw [← Ny723.out] at ho12)); have n0_ := z9a (Kd.V_elder' (by (with_reducible repeat (first | apply Kd.V_alloc | apply Kd.V_drewN | apply Kd.V_drew)); exact HO_5.out) (Kd.R_base ho12) hb); have n1_ := z9a (Kd.R_lower (Kd.R_newM (M := fun k_ => (w.heap.size ≤ k_)) ho12 (below_size (by repeat (first | (with_reducible first | exact HB.out | apply z9d | apply z9b | apply z9c) | exact HB.out))) (fun k_ h_ => h_)) (below_size (by repeat (first | (with_reducible first | exact HB.out | apply z9d | apply z9b | apply z9c) | exact HB.out)))); have n2_ := z9a (below_step (by repeat (first | (with_reducible first | exact HB.out | apply z9d | apply z9b | apply z9c) | exact HB.out)) hb); clear HO_5; clear HB; have HO_5 := n0_; have HO725 := n1_; have HB := n2_; clear n0_ n1_ n2_; clear hb ho12))
      go_ret3
      exact ⟨_, by first | rfl | (simp [errW_none, errW_some] <;> rfl) | (simp [*, errW_none, errW_some] <;> rfl), by (with_reducible repeat (first | apply Kd.R_alloc | apply Kd.R_drewN | apply Kd.R_drew)); exact Kd.R_mono HO725.out (fun _ hk => hk.1), by repeat (first | (with_reducible first | exact HB.out | apply z9d | apply z9b | apply z9c) | exact HB.out)⟩
     ·rw [if_neg c9] at H
      have c9b0 : ((x5_1.length : Int) == 0) = false := beq_eq_false_iff_ne.mpr c9
      have c9b1 : ((x5_1.length : Int) != 0) = true := bne_iff_ne.mpr c9
      have c9b2 : ¬ (x5_1 = []) := fun h_ => c9 (by rw [h_]; rfl)
      obtain ⟨y726, hy726⟩ : ∃ y_ : List (S71), y_ = (([] : List (S71))) := ⟨_, rfl⟩
      replace H : (if 0 < (x5_1.length : Int) then (if y726.length + ((rd_T39 x5_1 0).f0).length < 5864062014805 then (some ((y726 ++ ((rd_T39 x5_1 0).f0)), x6_1, true)) else (none)) else (none)) = some (r1, r2, r3) := by first | (rw [hy726]; with_reducible exact H) | (have H2_ := (Option.bind_some _ _).symm.trans H; rw [hy726]; with_reducible exact H2_) | (have H2_ := (Option.bind_some _ _).symm.trans H; with_reducible exact H2_) | with_reducible exact H | (rw [hy726]; exact H) | exact H
      have Ny726 := z9a hy726
      clear hy726
      by_cases c13 : 0 < (x5_1.length : Int)
      ·rw [if_pos c13] at H
       have c13b0 : decide (0 < (x5_1.length : Int)) = true := z9h c13
       have c13b1 : decide (0 < x5_1.length) = true := z9h (by omega)
       clear c13
       by_cases c14 : y726.length + ((rd_T39 x5_1 0).f0).length < 5864062014805
       ·rw [if_pos c14] at H
        have LMc14 := z9a c14
        clear c14
        obtain ⟨y730, hy730⟩ : ∃ y_ : List (S71), y_ = (y726 ++ ((rd_T39 x5_1 0).f0)) := ⟨_, rfl⟩
        replace H : (some (y730, x6_1, true)) = some (r1, r2, r3) := by first | (rw [hy730]; with_reducible exact H) | (have H2_ := (Option.bind_some _ _).symm.trans H; rw [hy730]; with_reducible exact H2_) | (have H2_ := (Option.bind_some _ _).symm.trans H; with_reducible exact H2_) | with_reducible exact H | (rw [hy730]; exact H) | exact H
        have Ny730 := z9a hy730
        clear hy730
        simp only [Option.some.injEq, Prod.mk.injEq] at H
        obtain ⟨rfl, rfl, rfl⟩ := H
        obtain ⟨Ao15, co15, eo15⟩ := Kd.V_slice HO_5.out
        subst eo15
        go_wp2_with (first | ((with_reducible refine gate_dst (N := 23) rfl ?_); refine Kd.R_lit k71 _ 71 ?hg (N := 23) ?hd (xs := ([] : List (S71))) (inner := []) (ok := fun _ => True) (okp := fun _ => True) ?hr ?hp (fun _ hk => hk) trivial (Below.refl _ _) (Nat.le_refl _) (by simp) ?_; (case hd => rfl); (case hg => rfl); (case hr => first | (go_simp; done) | (go_simp; rfl)); (case hp => exact (Reps.none _ _)); intro v727 w16 ho17 hb hg_ hnew_; clear hg_ hnew_; (first | rw [← Ny726.out] at ho17 | (simp only [Int.reduceToNat] at ho17; rw [← Ny726.out] at ho17)); have n0_ := z9a (Kd.V_elder' (by (with_reducible repeat (first | apply Kd.V_alloc | apply Kd.V_drewN | apply Kd.V_drew)); exact HO_5.out) (Kd.R_base ho17) hb); have n1_ := z9a (Kd.R_lower (Kd.R_newM (M := fun k_ => (w.heap.size ≤ k_)) ho17 (below_size (by repeat (first | (with_reducible first | exact HB.out | apply z9d | apply z9b | apply z9c) | exact HB.out))) (fun k_ h_ => h_)) (below_size (by repeat (first | (with_reducible first | exact HB.out | apply z9d | apply z9b | apply z9c) | exact HB.out)))); have n2_ := z9a (below_step (by repeat (first | (with_reducible first | exact HB.out | apply z9d | apply z9b | apply z9c) | exact HB.out)) hb); clear HO_5; clear HB; have HO_5 := n0_; have HO728 := n1_; have HB := n2_; clear n0_ n1_ n2_; clear hb ho17; have p729 : 0 ≤ (0 : Int) := (by omega); have q729 : 0 < (x5_1.length : Int) := z9g (by first | (with_reducible assumption) | assumption); obtain ⟨ad729, A729_0, c729_0, e729, hx729_0, hl729_0, hi729_0⟩ := at_T39 (Kd.V_reads' HO_5.out).2.2 0 p729 q729; cases e729; obtain ⟨ce729, hce729, hMe729, hcc729⟩ := Kd.V_get HO_5.out z39 0 p729 (by first | exact q729 | exact z9g (by first | (with_reducible assumption) | assumption) | (have e_ := (Kd.V_reads' HO_5.out).1; omega)); obtain ⟨ua729_0, uc729_0, rfl, ul729_0, ge729_0⟩ := k39_openF hMe729; have hv729_0 := hcc729 0 _ rfl; rw [Nat.add_zero, show (k39).sz = 1 from rfl, Nat.mul_one] at hv729_0; replace hv729_0 := Option.some.inj (hv729_0.symm.trans hx729_0); injection hv729_0 with hva_ hvn_ hvc_; rw [hva_] at ge729_0; rw [hvc_] at ul729_0; have HL729_0 := z9a (show Kd.V k71 71 _ w.heap.size _ _ ((rd_T39 x5_1 0).f0) from Kd.V_mk ul729_0 ge729_0); clear hva_ hvn_ hvc_ ge729_0 ul729_0; clear hcc729 hce729; have qi729 : (0 < x5_1.length) = True := eq_true (by omega); (try rw [show ((0 : Int)).toNat = 0 from rfl] at hx729_0); (try rw [Addr.add_zero'] at hx729_0); have HR729_0 := z9a hi729_0; have HC729_0 := z9a hl729_0; clear hi729_0 hl729_0; replace p729 := eq_true p729; replace q729 := eq_true q729) | ((with_reducible refine gate_builtin (b := .append) (xs := #[.tmp 23, .tmp 27]) rfl ?_); at_builtin; refine Kd.R_append_rows k71 (w0 := w) w.heap.size rfl (.tmp 23) (.tmp 27) 24 71 (.agg #[(.int .i64 0), (.int .i64 0), (.int .i64 0)]) 24 rfl Try.underlying24 info71 rfl (by decide) (by omega) v727 y726 ((rd_T39 x5_1 0).f0) _ _ _ (fun k_ => (w.heap.size ≤ k_)) (fun _ => False) rfl rfl ?aO ?aR (fun _ _ h => h) (fun _ h => h.elim) ?aF ?aB ?aS ?aL ?_; (case aR => repeat (first | exact (by repeat (first | (with_reducible exact HR729_0.out) | (with_reducible refine Kd.C_alloc ?_ _) | (with_reducible refine Kd.C_drewN ?_ _) | (with_reducible refine Kd.C_drew ?_) | exact HR729_0.out)) | (with_reducible refine Kd.C_alloc ?_ _) | (with_reducible refine Kd.C_drewN ?_ _) | (with_reducible refine Kd.C_drew ?_))); (case aB => exact (by repeat (first | (with_reducible first | exact HB.out | apply z9d | apply z9b | apply z9c) | exact HB.out))); (case aF => exact (fun k_ hk => (Nat.le_trans (below_size (by repeat (first | (with_reducible first | exact HB.out | apply z9d | apply z9b | apply z9c) | exact HB.out))) hk))); (case aO => exact (by (with_reducible repeat (first | apply Kd.R_alloc | apply Kd.R_drewN | apply Kd.R_drew)); exact Kd.R_mono HO728.out (fun _ hk => hk.1))); (case aS => exact (below_size (by repeat (first | (with_reducible first | exact HB.out | apply z9d | apply z9b | apply z9c) | exact HB.out)))); (case aL => have := LMc14.out; omega); intro v731 w18 ho hb hg hat; rw [← Ny730.out] at ho; have n0_ := z9a (Kd.V_afterv (ok := (fun k_ => (P0_ k_ ∨ w.heap.size ≤ k_))) (by (with_reducible repeat (first | apply Kd.V_alloc | apply Kd.V_drewN | apply Kd.V_drew)); exact HO_5.out) hg hat); have n1_ := z9a (Kd.V_afterv (ok := (fun k_ => (P0_ k_ ∨ w.heap.size ≤ k_))) (by (with_reducible repeat (first | apply Kd.V_alloc | apply Kd.V_drewN | apply Kd.V_drew)); exact HL729_0.out) hg hat); have n2_ := z9a (hb); have n3_ := z9a (ho); clear HO_5; clear HL729_0; clear HB; clear HO728; have HO_5 := n0_; have HL729_0 := n1_; have HB := n2_; have HO732 := n3_; clear n0_ n1_ n2_ n3_; clear ho hb hg hat))
        go_ret3
        exact ⟨_, by first | rfl | (simp [errW_none, errW_some] <;> rfl) | (simp [*, errW_none, errW_some] <;> rfl), by (with_reducible repeat (first | apply Kd.R_alloc | apply Kd.R_drewN | apply Kd.R_drew)); exact HO732.out, by repeat (first | (with_reducible first | exact HB.out | apply z9d | apply z9b | apply z9c) | exact HB.out)⟩
       ·rw [if_neg c14] at H
        exact absurd H (by simp)
      ·rw [if_neg c13] at H
       exact absurd H (by simp)
 ·replace c3 := Bool.eq_false_iff.mpr c3
  subst c3
  have H1 : (some ((([] : List (S71))), 0, false)) = some (r1, r2, r3) := by rw [if_neg (show ¬ (false = true) by decide)] at H; exact H
  clear H
  have H := H1
  clear H1
  obtain ⟨y717, hy717⟩ : ∃ y_ : List (S71), y_ = (([] : List (S71))) := ⟨_, rfl⟩
  replace H : (some (y717, 0, false)) = some (r1, r2, r3) := by first | (rw [hy717]; with_reducible exact H) | (have H2_ := (Option.bind_some _ _).symm.trans H; rw [hy717]; with_reducible exact H2_) | (have H2_ := (Option.bind_some _ _).symm.trans H; with_reducible exact H2_) | with_reducible exact H | (rw [hy717]; exact H) | exact H
  have Ny717 := z9a hy717
  clear hy717
  simp only [Option.some.injEq, Prod.mk.injEq] at H
  obtain ⟨rfl, rfl, rfl⟩ := H
  go_enter Try.func41, Try.ntmps41
  go_wp2_with (first | ((with_reducible refine gate_callee (f := 23) rfl ?_); refine goesL_ (some 8) rfl rfl Try.func23 (by kernel_rfl) rfl #[.slice A0 l0.length c0] rfl (by (try simp only [zm9a, zm9b, zm9c]); first | done | rfl | (simp only [zm9d, zm9e]; rfl)) ?_; (with_reducible refine (y_ab.calls k _ _ l0 false _ ?side1 ?side2 A2.out).mono ?_); (case side1 => repeat (first | exact (Kd.V_reads' HO0.out).2.2 | (with_reducible refine Kd.C_alloc ?_ _) | (with_reducible refine Kd.C_drewN ?_ _) | (with_reducible refine Kd.C_drew ?_))); (case side2 => exact (Kd.V_reads' HO0.out).2.1); rintro e w19 ⟨rfl, hb⟩; refine ⟨_, rfl, ?_⟩; have n0_ := z9a (Kd.V_below (by (with_reducible repeat (first | apply Kd.V_alloc | apply Kd.V_drewN | apply Kd.V_drew)); exact HO0.out) hb); have n1_ := z9a (below_step (by repeat (first | (with_reducible first | exact HB.out | apply z9d | apply z9b | apply z9c) | exact HB.out)) hb); clear HO0; clear HB; have HO0 := n0_; have HB := n1_; clear n0_ n1_; (try clear hb); (try clear hb2); (try clear hk); (try clear hi)) | ((with_reducible refine gate_dst (N := 10) rfl ?_); refine Kd.R_lit k71 _ 71 ?hg (N := 10) ?hd (xs := ([] : List (S71))) (inner := []) (ok := fun _ => True) (okp := fun _ => True) ?hr ?hp (fun _ hk => hk) trivial (Below.refl _ _) (Nat.le_refl _) (by simp) ?_; (case hd => rfl); (case hg => rfl); (case hr => first | (go_simp; done) | (go_simp; rfl)); (case hp => exact (Reps.none _ _)); intro v718 w20 ho21 hb hg_ hnew_; clear hg_ hnew_; (first | rw [← Ny717.out] at ho21 | (simp only [Int.reduceToNat] at ho21; rw [← Ny717.out] at ho21)); have n0_ := z9a (Kd.V_elder' (by (with_reducible repeat (first | apply Kd.V_alloc | apply Kd.V_drewN | apply Kd.V_drew)); exact HO0.out) (Kd.R_base ho21) hb); have n1_ := z9a (Kd.R_lower (Kd.R_newM (M := fun k_ => (w.heap.size ≤ k_)) ho21 (below_size (by repeat (first | (with_reducible first | exact HB.out | apply z9d | apply z9b | apply z9c) | exact HB.out))) (fun k_ h_ => h_)) (below_size (by repeat (first | (with_reducible first | exact HB.out | apply z9d | apply z9b | apply z9c) | exact HB.out)))); have n2_ := z9a (below_step (by repeat (first | (with_reducible first | exact HB.out | apply z9d | apply z9b | apply z9c) | exact HB.out)) hb); clear HO0; clear HB; have HO0 := n0_; have HO719 := n1_; have HB := n2_; clear n0_ n1_ n2_; clear hb ho21))
  go_ret3
  exact ⟨_, by first | rfl | (simp [errW_none, errW_some] <;> rfl) | (simp [*, errW_none, errW_some] <;> rfl), by (with_reducible repeat (first | apply Kd.R_alloc | apply Kd.R_drewN | apply Kd.R_drew)); exact Kd.R_mono HO719.out (fun _ hk => hk.1), by repeat (first | (with_reducible first | exact HB.out | apply z9d | apply z9b | apply z9c) | exact HB.out)⟩
def y_qb.f (k : Nat) (l0 : List (S71)) (a1 : Int) : Option ((List (S71)) × Int × Bool) := (y_a.f k l0 a1).bind fun bt733 => (if bt733.2 = true then ((y_bb.f k bt733.1).bind fun bt737 => ((y_k.f k l0).bind fun t742 => (some (bt737.1, wrap64 (t742 * (wrap64 (bt737.2.1 + 1))), true)))) else (some ((([] : List (S71))), 0, false)))
theorem y_qb.calls (k : Nat) (A0 : Option Addr) (c0 : Nat) (l0 : List (S71)) (a1 : Int) (r1 : List (S71)) (r2 : Int) (r3 : Bool) (w : World) (hr0 : Kd.C k71 w A0 l0.length l0) (hc0 : l0.length ≤ c0) (h : y_qb.f k l0 a1 = some (r1, r2, r3)) :
  Calls Try.prog 57 #[.slice A0 l0.length c0, .int .i64 a1] w fun e w' => ∃ v0_ : Value, e = .returned (.tuple #[v0_, .int .i64 r2, .bool r3]) ∧ Kd.R k71 71 w' w.heap.size (fun _ => True) v0_ r1 ∧ Below w.heap.size w w' := by
 have HR0 := z9a hr0
 have HC0 := z9a hc0
 clear hr0 hc0
 have HB := z9a (Below.refl w.heap.size w)
 have H := h
 unfold y_qb.f at H
 clear h
 replace H := z9f.mp H
 obtain ⟨⟨t733, t734⟩, A30, H⟩ := H
 replace H : (if t734 = true then ((y_bb.f k t733).bind fun bt737 => ((y_k.f k l0).bind fun t742 => (some (bt737.1, wrap64 (t742 * (wrap64 (bt737.2.1 + 1))), true)))) else (some ((([] : List (S71))), 0, false))) = some (r1, r2, r3) := H
 have A3 := z9a A30
 clear A30
 by_cases c4 : t734 = true
 ·subst c4
  rw [if_pos rfl] at H
  replace H := z9f.mp H
  obtain ⟨⟨t737, t740, t741⟩, A50, H⟩ := H
  replace H : ((y_k.f k l0).bind fun t742 => (some (t737, wrap64 (t742 * (wrap64 (t740 + 1))), true))) = some (r1, r2, r3) := H
  have A5 := z9a A50
  clear A50
  replace H := z9f.mp H
  obtain ⟨t742, A60, H⟩ := H
  have A6 := z9a A60
  clear A60
  simp only [Option.some.injEq, Prod.mk.injEq] at H
  obtain ⟨rfl, rfl, rfl⟩ := H
  go_enter Try.func57, Try.ntmps57
  go_wp2_with (first | ((with_reducible refine gate_callee (f := 18) rfl ?_); refine goesL_ (some 15) rfl rfl Try.func18 (by kernel_rfl) rfl #[.slice A0 l0.length c0, .int .i64 a1] rfl (by (try simp only [zm9a, zm9b, zm9c]); first | done | rfl | (simp only [zm9d, zm9e]; rfl)) ?_; (with_reducible refine (y_a.calls k _ _ l0 a1 t733 true _ ?side1 ?side2 A3.out).mono ?_); (case side1 => repeat (first | exact HR0.out | (with_reducible refine Kd.C_alloc ?_ _) | (with_reducible refine Kd.C_drewN ?_ _) | (with_reducible refine Kd.C_drew ?_))); (case side2 => exact HC0.out); rintro e w7 ⟨v735, rfl, ho0, hb⟩; refine ⟨_, rfl, ?_⟩; have n0_ := z9a (Kd.S_lower ho0 (below_size (by repeat (first | (with_reducible first | exact HB.out | apply z9d | apply z9b | apply z9c) | exact HB.out)))); have n1_ := z9a (below_step (by repeat (first | (with_reducible first | exact HB.out | apply z9d | apply z9b | apply z9c) | exact HB.out)) hb); clear HB; have HO736 := n0_; have HB := n1_; clear n0_ n1_; (try clear hb); (try clear hb2); (try clear hk); (try clear hi); (try clear ho0); obtain ⟨Ao8, co8, eo8⟩ := Kd.S_slice HO736.out; subst eo8) | ((with_reducible refine gate_callee (f := 41) rfl ?_); refine goesL_ (some 23) rfl rfl Try.func41 (by kernel_rfl) rfl #[.slice Ao8 t733.length co8] rfl (by (try simp only [zm9a, zm9b, zm9c]); first | done | rfl | (simp only [zm9d, zm9e]; rfl)) ?_; (with_reducible refine (y_bb.calls k (fun k_ => True) _ _ t733 t737 t740 t741 _ ?side1 A5.out).mono ?_); (case side1 => exact Kd.S_V (HO736.out)); rintro e w9 ⟨v738, rfl, ho0, hb⟩; refine ⟨_, rfl, ?_⟩; have n0_ := z9a (Kd.S_elder' (by (with_reducible repeat (first | apply Kd.S_alloc | apply Kd.S_drewN | apply Kd.S_drew)); exact HO736.out) (Kd.R_base ho0) hb); have n1_ := z9a (Kd.R_lower (Kd.R_mono (ok' := fun k_ => True) ho0 (fun _ hk_ => trivial)) (below_size (by repeat (first | (with_reducible first | exact HB.out | apply z9d | apply z9b | apply z9c) | exact HB.out)))); have n2_ := z9a (below_step (by repeat (first | (with_reducible first | exact HB.out | apply z9d | apply z9b | apply z9c) | exact HB.out)) hb); clear HO736; clear HB; have HO736 := n0_; have HO739 := n1_; have HB := n2_; clear n0_ n1_ n2_; (try clear hb); (try clear hb2); (try clear hk); (try clear hi); (try clear ho0)) | ((with_reducible refine gate_callee (f := 31) rfl ?_); refine goesL_ (some 29) rfl rfl Try.func31 (by kernel_rfl) rfl #[.slice A0 l0.length c0] rfl (by (try simp only [zm9a, zm9b, zm9c]); first | done | rfl | (simp only [zm9d, zm9e]; rfl)) ?_; (with_reducible refine (y_k.calls k _ _ l0 t742 _ ?side1 ?side2 A6.out).mono ?_); (case side1 => repeat (first | exact (Kd.C_below HR0.out HB.out) | (with_reducible refine Kd.C_alloc ?_ _) | (with_reducible refine Kd.C_drewN ?_ _) | (with_reducible refine Kd.C_drew ?_))); (case side2 => exact HC0.out); rintro e w10 ⟨rfl, hb⟩; refine ⟨_, rfl, ?_⟩; have n0_ := z9a (Kd.S_below (by (with_reducible repeat (first | apply Kd.S_alloc | apply Kd.S_drewN | apply Kd.S_drew)); exact HO736.out) hb); have n1_ := z9a (Kd.R_below (by (with_reducible repeat (first | apply Kd.R_alloc | apply Kd.R_drewN | apply Kd.R_drew)); exact HO739.out) hb); have n2_ := z9a (below_step (by repeat (first | (with_reducible first | exact HB.out | apply z9d | apply z9b | apply z9c) | exact HB.out)) hb); clear HO736; clear HO739; clear HB; have HO736 := n0_; have HO739 := n1_; have HB := n2_; clear n0_ n1_ n2_; (try clear hb); (try clear hb2); (try clear hk); (try clear hi)))
  go_ret3
  exact ⟨_, by first | rfl | (simp [errW_none, errW_some] <;> rfl) | (simp [*, errW_none, errW_some] <;> rfl), by (with_reducible repeat (first | apply Kd.R_alloc | apply Kd.R_drewN | apply Kd.R_drew)); exact HO739.out, by repeat (first | (with_reducible first | exact HB.out | apply z9d | apply z9b | apply z9c) | exact HB.out)⟩
 ·replace c4 := Bool.eq_false_iff.mpr c4
  subst c4
  have H1 : (some ((([] : List (S71))), 0, false)) = some (r1, r2, r3) := by rw [if_neg (show ¬ (false = true) by decide)] at H; exact H
  clear H
  have H := H1
  clear H1
  obtain ⟨y743, hy743⟩ : ∃ y_ : List (S71), y_ = (([] : List (S71))) := ⟨_, rfl⟩
  replace H : (some (y743, 0, false)) = some (r1, r2, r3) := by first | (rw [hy743]; with_reducible exact H) | (have H2_ := (Option.bind_some _ _).symm.trans H; rw [hy743]; with_reducible exact H2_) | (have H2_ := (Option.bind_some _ _).symm.trans H; with_reducible exact H2_) | with_reducible exact H | (rw [hy743]; exact H) | exact H
  have Ny743 := z9a hy743
  clear hy743
  simp only [Option.some.injEq, Prod.mk.injEq] at H
  obtain ⟨rfl, rfl, rfl⟩ := H
  go_enter Try.func57, Try.ntmps57
  go_wp2_with (first | ((with_reducible refine gate_callee (f := 18) rfl ?_); refine goesL_ (some 15) rfl rfl Try.func18 (by kernel_rfl) rfl #[.slice A0 l0.length c0, .int .i64 a1] rfl (by (try simp only [zm9a, zm9b, zm9c]); first | done | rfl | (simp only [zm9d, zm9e]; rfl)) ?_; (with_reducible refine (y_a.calls k _ _ l0 a1 t733 false _ ?side1 ?side2 A3.out).mono ?_); (case side1 => repeat (first | exact HR0.out | (with_reducible refine Kd.C_alloc ?_ _) | (with_reducible refine Kd.C_drewN ?_ _) | (with_reducible refine Kd.C_drew ?_))); (case side2 => exact HC0.out); rintro e w11 ⟨v735, rfl, ho0, hb⟩; refine ⟨_, rfl, ?_⟩; have n0_ := z9a (Kd.S_lower ho0 (below_size (by repeat (first | (with_reducible first | exact HB.out | apply z9d | apply z9b | apply z9c) | exact HB.out)))); have n1_ := z9a (below_step (by repeat (first | (with_reducible first | exact HB.out | apply z9d | apply z9b | apply z9c) | exact HB.out)) hb); clear HB; have HO736 := n0_; have HB := n1_; clear n0_ n1_; (try clear hb); (try clear hb2); (try clear hk); (try clear hi); (try clear ho0)) | ((with_reducible refine gate_dst (N := 20) rfl ?_); refine Kd.R_lit k71 _ 71 ?hg (N := 20) ?hd (xs := ([] : List (S71))) (inner := []) (ok := fun _ => True) (okp := fun _ => True) ?hr ?hp (fun _ hk => hk) trivial (Below.refl _ _) (Nat.le_refl _) (by simp) ?_; (case hd => rfl); (case hg => rfl); (case hr => first | (go_simp; done) | (go_simp; rfl)); (case hp => exact (Reps.none _ _)); intro v744 w12 ho13 hb hg_ hnew_; clear hg_ hnew_; (first | rw [← Ny743.out] at ho13 | (simp only [Int.reduceToNat] at ho13; rw [← Ny743.out] at ho13)); have n0_ := z9a (Kd.S_elder' (by (with_reducible repeat (first | apply Kd.S_alloc | apply Kd.S_drewN | apply Kd.S_drew)); exact HO736.out) (Kd.R_base ho13) hb); have n1_ := z9a (Kd.R_lower ho13 (below_size (by repeat (first | (with_reducible first | exact HB.out | apply z9d | apply z9b | apply z9c) | exact HB.out)))); have n2_ := z9a (below_step (by repeat (first | (with_reducible first | exact HB.out | apply z9d | apply z9b | apply z9c) | exact HB.out)) hb); clear HO736; clear HB; have HO736 := n0_; have HO745 := n1_; have HB := n2_; clear n0_ n1_ n2_; clear hb ho13))
  go_ret3
  exact ⟨_, by first | rfl | (simp [errW_none, errW_some] <;> rfl) | (simp [*, errW_none, errW_some] <;> rfl), by (with_reducible repeat (first | apply Kd.R_alloc | apply Kd.R_drewN | apply Kd.R_drew)); exact HO745.out, by repeat (first | (with_reducible first | exact HB.out | apply z9d | apply z9b | apply z9c) | exact HB.out)⟩
def y_u.f (a0 : Int) (a1 : Int) (a2 : Int) : Option (Bool) := if a0 ≥ a1 then (some (decide (a0 ≤ a2))) else (some false)
theorem y_u.calls (a0 : Int) (a1 : Int) (a2 : Int) (r : Bool) (w : World) (h : y_u.f a0 a1 a2 = some r) :
  Calls Try.prog 141 #[.int .i64 a0, .int .i64 a1, .int .i64 a2] w fun e w' => e = .returned (.bool r) ∧ Drawn0 w w' := by
 have H : (if a0 ≥ a1 then (some (decide (a0 ≤ a2))) else (some false)) = some r := h
 clear h
 by_cases c4 : a0 ≥ a1
 ·rw [if_pos c4] at H
  have c4b0 : decide (a1 ≤ a0) = true := z9h c4
  clear c4
  obtain rfl := Option.some.inj H
  go_enter Try.func141, Try.ntmps141
  go_wp2
  go_ret
  exact ⟨by first | rfl | (simp; done) | (simp [*]; done), by repeat (first | exact Drawn0.refl _ | apply Drawn0.step)⟩
 ·rw [if_neg c4] at H
  have c4b0 : decide (a1 ≤ a0) = false := decide_eq_false c4
  clear c4
  obtain rfl := Option.some.inj H
  go_enter Try.func141, Try.ntmps141
  go_wp2
  go_ret
  exact ⟨by first | rfl | (simp; done) | (simp [*]; done), by repeat (first | exact Drawn0.refl _ | apply Drawn0.step)⟩
def y_ob.f (a0_0 : Int) (a0_1 : Int) (a0_2 : Int) : Option (Bool) := (y_u.f a0_0 0 9).bind fun t241 => (if t241 = true then ((y_u.f a0_1 0 99).bind fun t242 => (if t242 = true then ((y_u.f a0_2 0 3).bind fun t243 => (some t243)) else (some false))) else (some false))
theorem y_ob.calls (a0_0 : Int) (a0_1 : Int) (a0_2 : Int) (r : Bool) (w : World) (h : y_ob.f a0_0 a0_1 a0_2 = some r) :
  Calls Try.prog 157 #[.agg #[.int .i64 a0_0, .int .i64 a0_1, .int .i64 a0_2]] w fun e w' => e = .returned (.bool r) ∧ Below w.heap.size w w' := by
 have hu71 := Try.underlying71
 have HB := z9a (Below.refl w.heap.size w)
 have H := h
 unfold y_ob.f at H
 clear h
 replace H := z9f.mp H
 obtain ⟨t241, A20, H⟩ := H
 have A2 := z9a A20
 clear A20
 by_cases c3 : t241 = true
 ·subst c3
  rw [if_pos rfl] at H
  replace H := z9f.mp H
  obtain ⟨t242, A40, H⟩ := H
  have A4 := z9a A40
  clear A40
  by_cases c5 : t242 = true
  ·subst c5
   rw [if_pos rfl] at H
   replace H := z9f.mp H
   obtain ⟨t243, A60, H⟩ := H
   have A6 := z9a A60
   clear A60
   obtain rfl := Option.some.inj H
   go_enter Try.func157, Try.ntmps157
   go_wp2_with (first | ((with_reducible refine gate_dst (N := 1) rfl ?_); refine box_event ?hg (N := 1) ?hd (cs := #[.int .i64 a0_0, .int .i64 a0_1, .int .i64 a0_2]) (t := 71) ?hr ?_; (case hd => rfl); (case hg => rfl); (case hr => first | (go_simp; done) | (go_simp; rfl)); intro gb240 hg w7 hbox hb; have n0_ := z9a (below_step (by repeat (first | (with_reducible first | exact HB.out | apply z9d | apply z9b | apply z9c) | exact HB.out)) hb); have n1_ := z9a (hbox); have n2_ := z9a ((by rw [hg]; exact (below_size (by repeat (first | (with_reducible first | exact HB.out | apply z9d | apply z9b | apply z9c) | exact HB.out))) : w.heap.size ≤ gb240)); have n3_ := z9a ((by rw [hg]; exact (below_size (by repeat (first | (with_reducible first | exact HB.out | apply z9d | apply z9b | apply z9c) | exact HB.out))) : w.heap.size ≤ gb240)); clear HB; have HB := n0_; have BK240 := n1_; have GW240 := n2_; have GE240 := n3_; clear n0_ n1_ n2_ n3_; clear hb hbox hg; obtain ⟨hcz8_0, hcz8_1, hcz8_2⟩ := cells_3 BK240.out; obtain ⟨hfz8_0, hfz8_1, hfz8_2⟩ := frz_3 BK240.out) | ((with_reducible refine gate_callee (f := 141) rfl ?_); refine goesL_ (some 5) rfl rfl Try.func141 (by kernel_rfl) rfl #[.int .i64 a0_0, .int .i64 0, .int .i64 9] rfl (by (try simp only [zm9a, zm9b, zm9c]); first | done | rfl | (simp only [zm9d, zm9e]; rfl)) ?_; (with_reducible refine (y_u.calls a0_0 0 9 true _ A2.out).mono ?_); rintro e w' ⟨rfl, ⟨nd, rfl⟩⟩; refine ⟨_, rfl, ?_⟩) | (go_at_call 141; (with_reducible refine (y_u.calls a0_1 0 99 true _ A4.out).mono ?_); rintro e w' ⟨rfl, ⟨nd, rfl⟩⟩) | (go_at_call 141; (with_reducible refine (y_u.calls a0_2 0 3 t243 _ A6.out).mono ?_); rintro e w' ⟨rfl, ⟨nd, rfl⟩⟩))
   go_ret
   exact ⟨by first | rfl | (simp [errW_none, errW_some] <;> rfl) | (simp [*, errW_none, errW_some] <;> rfl), by repeat (first | (with_reducible first | exact HB.out | apply z9d | apply z9b | apply z9c | refine below_set ?_ GE240.out) | exact HB.out)⟩
  ·replace c5 := Bool.eq_false_iff.mpr c5
   subst c5
   have H1 : (some false) = some r := by rw [if_neg (show ¬ (false = true) by decide)] at H; exact H
   clear H
   have H := H1
   clear H1
   obtain rfl := Option.some.inj H
   go_enter Try.func157, Try.ntmps157
   go_wp2_with (first | ((with_reducible refine gate_dst (N := 1) rfl ?_); refine box_event ?hg (N := 1) ?hd (cs := #[.int .i64 a0_0, .int .i64 a0_1, .int .i64 a0_2]) (t := 71) ?hr ?_; (case hd => rfl); (case hg => rfl); (case hr => first | (go_simp; done) | (go_simp; rfl)); intro gb240 hg w9 hbox hb; have n0_ := z9a (below_step (by repeat (first | (with_reducible first | exact HB.out | apply z9d | apply z9b | apply z9c) | exact HB.out)) hb); have n1_ := z9a (hbox); have n2_ := z9a ((by rw [hg]; exact (below_size (by repeat (first | (with_reducible first | exact HB.out | apply z9d | apply z9b | apply z9c) | exact HB.out))) : w.heap.size ≤ gb240)); have n3_ := z9a ((by rw [hg]; exact (below_size (by repeat (first | (with_reducible first | exact HB.out | apply z9d | apply z9b | apply z9c) | exact HB.out))) : w.heap.size ≤ gb240)); clear HB; have HB := n0_; have BK240 := n1_; have GW240 := n2_; have GE240 := n3_; clear n0_ n1_ n2_ n3_; clear hb hbox hg; obtain ⟨hcz10_0, hcz10_1, hcz10_2⟩ := cells_3 BK240.out; obtain ⟨hfz10_0, hfz10_1, hfz10_2⟩ := frz_3 BK240.out) | ((with_reducible refine gate_callee (f := 141) rfl ?_); refine goesL_ (some 5) rfl rfl Try.func141 (by kernel_rfl) rfl #[.int .i64 a0_0, .int .i64 0, .int .i64 9] rfl (by (try simp only [zm9a, zm9b, zm9c]); first | done | rfl | (simp only [zm9d, zm9e]; rfl)) ?_; (with_reducible refine (y_u.calls a0_0 0 9 true _ A2.out).mono ?_); rintro e w' ⟨rfl, ⟨nd, rfl⟩⟩; refine ⟨_, rfl, ?_⟩) | (go_at_call 141; (with_reducible refine (y_u.calls a0_1 0 99 false _ A4.out).mono ?_); rintro e w' ⟨rfl, ⟨nd, rfl⟩⟩))
   go_ret
   exact ⟨by first | rfl | (simp [errW_none, errW_some] <;> rfl) | (simp [*, errW_none, errW_some] <;> rfl), by repeat (first | (with_reducible first | exact HB.out | apply z9d | apply z9b | apply z9c | refine below_set ?_ GE240.out) | exact HB.out)⟩
 ·replace c3 := Bool.eq_false_iff.mpr c3
  subst c3
  have H1 : (some false) = some r := by rw [if_neg (show ¬ (false = true) by decide)] at H; exact H
  clear H
  have H := H1
  clear H1
  obtain rfl := Option.some.inj H
  go_enter Try.func157, Try.ntmps157
  go_wp2_with (first | ((with_reducible refine gate_dst (N := 1) rfl ?_); refine box_event ?hg (N := 1) ?hd (cs := #[.int .i64 a0_0, .int .i64 a0_1, .int .i64 a0_2]) (t := 71) ?hr ?_; (case hd => rfl); (case hg => rfl); (case hr => first | (go_simp; done) | (go_simp; rfl)); intro gb240 hg w11 hbox hb; have n0_ := z9a (below_step (by repeat (first | (with_reducible first | exact HB.out | apply z9d | apply z9b | apply z9c) | exact HB.out)) hb); have n1_ := z9a (hbox); have n2_ := z9a ((by rw [hg]; exact (below_size (by repeat (first | (with_reducible first | exact HB.out | apply z9d | apply z9b | apply z9c) | exact HB.out))) : w.heap.size ≤ gb240)); have n3_ := z9a ((by rw [hg]; exact (below_size (by repeat (first | (with_reducible first | exact HB.out | apply z9d | apply z9b | apply z9c) | exact HB.out))) : w.heap.size ≤ gb240)); clear HB; have HB := n0_; have BK240 := n1_; have GW240 := n2_; have GE240 := n3_; clear n0_ n1_ n2_ n3_; clear hb hbox hg; obtain ⟨hcz12_0, hcz12_1, hcz12_2⟩ := cells_3 BK240.out; obtain ⟨hfz12_0, hfz12_1, hfz12_2⟩ := frz_3 BK240.out) | ((with_reducible refine gate_callee (f := 141) rfl ?_); refine goesL_ (some 5) rfl rfl Try.func141 (by kernel_rfl) rfl #[.int .i64 a0_0, .int .i64 0, .int .i64 9] rfl (by (try simp only [zm9a, zm9b, zm9c]); first | done | rfl | (simp only [zm9d, zm9e]; rfl)) ?_; (with_reducible refine (y_u.calls a0_0 0 9 false _ A2.out).mono ?_); rintro e w' ⟨rfl, ⟨nd, rfl⟩⟩; refine ⟨_, rfl, ?_⟩))
  go_ret
  exact ⟨by first | rfl | (simp [errW_none, errW_some] <;> rfl) | (simp [*, errW_none, errW_some] <;> rfl), by repeat (first | (with_reducible first | exact HB.out | apply z9d | apply z9b | apply z9c | refine below_set ?_ GE240.out) | exact HB.out)⟩
def y_hb.l0 : Nat → List (S71) → Int → Int → Option (Bool)
 | 0, _, _, _ => none
 | k + 1, x5, x6, x7 => if x7 < x6 then (if 0 ≤ x7 then (if x7 < (x5.length : Int) then ((y_ob.f ((rd_T71 x5 x7).f0) ((rd_T71 x5 x7).f1) ((rd_T71 x5 x7).f2)).bind fun t246 => (if t246 = true then (y_hb.l0 k x5 x6 (wrap64 (x7 + 1))) else (some false))) else (none)) else (none)) else (some true)
def y_hb.f (k : Nat) (l0 : List (S71)) : Option (Bool) := y_hb.l0 k l0 (l0.length : Int) 0
theorem y_hb.calls (k : Nat) (A0 : Option Addr) (c0 : Nat) (l0 : List (S71)) (r : Bool) (w : World) (hr0 : Kd.C k71 w A0 l0.length l0) (hc0 : l0.length ≤ c0) (h : y_hb.f k l0 = some r) :
  Calls Try.prog 156 #[.slice A0 l0.length c0] w fun e w' => e = .returned (.bool r) ∧ Below w.heap.size w w' := by
 have hu71 := Try.underlying71
 have HR0 := z9a hr0
 have HC0 := z9a hc0
 clear hr0 hc0
 have HB := z9a (Below.refl w.heap.size w)
 have H : (y_hb.l0 k l0 (l0.length : Int) 0) = some r := h
 clear h
 have H' := z9a H
 clear H
 go_enter Try.func156, Try.ntmps156
 go_wp2
 go_loopg [7] k (fun kq v7 w' => ∃ (x7_1 : Int), v7 = .int .i64 x7_1 ∧ Aside0 (y_hb.l0 kq l0 (l0.length : Int) x7_1 = some r) ∧ Aside0 (kq ≤ k) ∧ Aside0 (Below w.heap.size w w'))
 case atStart => exact ⟨(0), (by first | rfl | (simp; done) | (simp [*]; done)), H', ⟨Nat.le_refl _⟩, ⟨by repeat (first | (with_reducible first | exact HB.out | apply z9d | apply z9b | apply z9c) | exact HB.out)⟩⟩
 case round =>
  clear H'
  try clear c1
  obtain ⟨x7_1, rfl, HA, HK1, HB⟩ := hrel
  cases gk with
  | zero => exact absurd HA.out (by simp [y_hb.l0])
  | succ k1 =>
   have H := HA.out
   clear HA
   simp only [y_hb.l0] at H
   by_cases c2 : x7_1 < (l0.length : Int)
   ·rw [if_pos c2] at H
    have c2b0 : decide (x7_1 < (l0.length : Int)) = true := z9h c2
    clear c2
    by_cases c3 : 0 ≤ x7_1
    ·rw [if_pos c3] at H
     have c3b0 : decide (0 ≤ x7_1) = true := z9h c3
     clear c3
     by_cases c4 : x7_1 < (l0.length : Int)
     ·rw [if_pos c4] at H
      have c4b0 : decide (x7_1 < (l0.length : Int)) = true := z9h c4
      clear c4
      replace H := z9f.mp H
      obtain ⟨t246, A50, H⟩ := H
      have A5 := z9a A50
      clear A50
      by_cases c6 : t246 = true
      ·subst c6
       rw [if_pos rfl] at H
       have H' := z9a H
       clear H
       have p244 : 0 ≤ (x7_1 : Int) := z9g (by first | (with_reducible assumption) | assumption)
       have q244 : x7_1 < (l0.length : Int) := z9g (by first | (with_reducible assumption) | assumption)
       obtain ⟨ad244, e244, hx244_0, hx244_1, hx244_2⟩ := at_T71 HR0.out x7_1 p244 q244
       cases e244
       replace hx244_0 := (HB.out.cell (z9e w _ hx244_0)).trans hx244_0
       replace hx244_1 := (HB.out.cell (z9e w _ hx244_1)).trans hx244_1
       replace hx244_2 := (HB.out.cell (z9e w _ hx244_2)).trans hx244_2
       replace p244 := eq_true p244
       replace q244 := eq_true q244
       go_wp2_with (first | ((with_reducible refine gate_dst (N := 4) rfl ?_); refine box_event ?hg (N := 4) ?hd (cs := #[.int .i64 0, .int .i64 0, .int .i64 0]) (t := 71) ?hr ?_; (case hd => rfl); (case hg => rfl); (case hr => first | (go_simp; done) | (go_simp; rfl)); intro gb245 hg w7 hbox hb; have n0_ := z9a (below_step (by repeat (first | (with_reducible first | exact HB.out | apply z9d | apply z9b | apply z9c) | exact HB.out)) hb); have n1_ := z9a (hbox); have n2_ := z9a ((by rw [hg]; exact (below_size (by repeat (first | (with_reducible first | exact HB.out | apply z9d | apply z9b | apply z9c) | exact HB.out))) : w.heap.size ≤ gb245)); have n3_ := z9a ((by rw [hg]; exact (below_size (by repeat (first | (with_reducible first | exact HB.out | apply z9d | apply z9b | apply z9c) | exact HB.out))) : w.heap.size ≤ gb245)); clear HB; have HB := n0_; have BK245 := n1_; have GW245 := n2_; have GE245 := n3_; clear n0_ n1_ n2_ n3_; clear hb hbox hg; obtain ⟨hcz8_0, hcz8_1, hcz8_2⟩ := cells_3 BK245.out; obtain ⟨hfz8_0, hfz8_1, hfz8_2⟩ := frz_3 BK245.out) | ((with_reducible refine gate_callee (f := 157) rfl ?_); refine goesL_ (some 12) rfl rfl Try.func157 (by kernel_rfl) rfl #[.agg #[.int .i64 ((rd_T71 l0 x7_1).f0), .int .i64 ((rd_T71 l0 x7_1).f1), .int .i64 ((rd_T71 l0 x7_1).f2)]] rfl (by (try simp only [zm9a, zm9b, zm9c]); first | done | rfl | (simp only [zm9d, zm9e]; rfl)) ?_; (with_reducible refine (y_ob.calls ((rd_T71 l0 x7_1).f0) ((rd_T71 l0 x7_1).f1) ((rd_T71 l0 x7_1).f2) true _ A5.out).mono ?_); rintro e w9 ⟨rfl, hb⟩; refine ⟨_, rfl, ?_⟩; have n0_ := z9a (blk_below (g := gb245) (o := .cells #[.int .i64 ((rd_T71 l0 x7_1).f0), .int .i64 ((rd_T71 l0 x7_1).f1), .int .i64 ((rd_T71 l0 x7_1).f2)] 71 (0, 0)) (by (with_reducible repeat (first | refine blk_drewN ?_ _ | refine blk_drew ?_ | refine blk_alloc ?_ _)); refine blk_put (cs := #[.int .i64 ((rd_T71 l0 x7_1).f0), .int .i64 ((rd_T71 l0 x7_1).f1), .int .i64 0]) ?_ 2 _ rfl; (with_reducible repeat (first | refine blk_drewN ?_ _ | refine blk_drew ?_ | refine blk_alloc ?_ _)); refine blk_put (cs := #[.int .i64 ((rd_T71 l0 x7_1).f0), .int .i64 0, .int .i64 0]) ?_ 1 _ rfl; (with_reducible repeat (first | refine blk_drewN ?_ _ | refine blk_drew ?_ | refine blk_alloc ?_ _)); refine blk_put (cs := #[.int .i64 0, .int .i64 0, .int .i64 0]) ?_ 0 _ rfl; (with_reducible repeat (first | refine blk_drewN ?_ _ | refine blk_drew ?_ | refine blk_alloc ?_ _)); exact BK245.out) hb); have n1_ := z9a (below_step (by repeat (first | (with_reducible first | exact HB.out | apply z9d | apply z9b | apply z9c | refine below_set ?_ GE245.out) | exact HB.out)) hb); clear BK245; clear HB; have BK245 := n0_; have HB := n1_; clear n0_ n1_; (try clear hb); (try clear hb2); (try clear hk); (try clear hi)))
       go_roundg k1
       case measure => have := HK1.out; omega
       case rel => exact ⟨(wrap64 (x7_1 + 1)), (by first | rfl | (simp; done) | (simp [*]; done)), H', ⟨by have := HK1.out; omega⟩, ⟨by repeat (first | (with_reducible first | exact HB.out | apply z9d | apply z9b | apply z9c | refine below_set ?_ GE245.out) | exact HB.out)⟩⟩
      ·replace c6 := Bool.eq_false_iff.mpr c6
       subst c6
       have H1 : (some false) = some r := by rw [if_neg (show ¬ (false = true) by decide)] at H; exact H
       clear H
       have H := H1
       clear H1
       obtain rfl := Option.some.inj H
       have p244 : 0 ≤ (x7_1 : Int) := z9g (by first | (with_reducible assumption) | assumption)
       have q244 : x7_1 < (l0.length : Int) := z9g (by first | (with_reducible assumption) | assumption)
       obtain ⟨ad244, e244, hx244_0, hx244_1, hx244_2⟩ := at_T71 HR0.out x7_1 p244 q244
       cases e244
       replace hx244_0 := (HB.out.cell (z9e w _ hx244_0)).trans hx244_0
       replace hx244_1 := (HB.out.cell (z9e w _ hx244_1)).trans hx244_1
       replace hx244_2 := (HB.out.cell (z9e w _ hx244_2)).trans hx244_2
       replace p244 := eq_true p244
       replace q244 := eq_true q244
       go_wp2_with (first | ((with_reducible refine gate_dst (N := 4) rfl ?_); refine box_event ?hg (N := 4) ?hd (cs := #[.int .i64 0, .int .i64 0, .int .i64 0]) (t := 71) ?hr ?_; (case hd => rfl); (case hg => rfl); (case hr => first | (go_simp; done) | (go_simp; rfl)); intro gb245 hg w10 hbox hb; have n0_ := z9a (below_step (by repeat (first | (with_reducible first | exact HB.out | apply z9d | apply z9b | apply z9c) | exact HB.out)) hb); have n1_ := z9a (hbox); have n2_ := z9a ((by rw [hg]; exact (below_size (by repeat (first | (with_reducible first | exact HB.out | apply z9d | apply z9b | apply z9c) | exact HB.out))) : w.heap.size ≤ gb245)); have n3_ := z9a ((by rw [hg]; exact (below_size (by repeat (first | (with_reducible first | exact HB.out | apply z9d | apply z9b | apply z9c) | exact HB.out))) : w.heap.size ≤ gb245)); clear HB; have HB := n0_; have BK245 := n1_; have GW245 := n2_; have GE245 := n3_; clear n0_ n1_ n2_ n3_; clear hb hbox hg; obtain ⟨hcz11_0, hcz11_1, hcz11_2⟩ := cells_3 BK245.out; obtain ⟨hfz11_0, hfz11_1, hfz11_2⟩ := frz_3 BK245.out) | ((with_reducible refine gate_callee (f := 157) rfl ?_); refine goesL_ (some 12) rfl rfl Try.func157 (by kernel_rfl) rfl #[.agg #[.int .i64 ((rd_T71 l0 x7_1).f0), .int .i64 ((rd_T71 l0 x7_1).f1), .int .i64 ((rd_T71 l0 x7_1).f2)]] rfl (by (try simp only [zm9a, zm9b, zm9c]); first | done | rfl | (simp only [zm9d, zm9e]; rfl)) ?_; (with_reducible refine (y_ob.calls ((rd_T71 l0 x7_1).f0) ((rd_T71 l0 x7_1).f1) ((rd_T71 l0 x7_1).f2) false _ A5.out).mono ?_); rintro e w12 ⟨rfl, hb⟩; refine ⟨_, rfl, ?_⟩; have n0_ := z9a (blk_below (g := gb245) (o := .cells #[.int .i64 ((rd_T71 l0 x7_1).f0), .int .i64 ((rd_T71 l0 x7_1).f1), .int .i64 ((rd_T71 l0 x7_1).f2)] 71 (0, 0)) (by (with_reducible repeat (first | refine blk_drewN ?_ _ | refine blk_drew ?_ | refine blk_alloc ?_ _)); refine blk_put (cs := #[.int .i64 ((rd_T71 l0 x7_1).f0), .int .i64 ((rd_T71 l0 x7_1).f1), .int .i64 0]) ?_ 2 _ rfl; (with_reducible repeat (first | refine blk_drewN ?_ _ | refine blk_drew ?_ | refine blk_alloc ?_ _)); refine blk_put (cs := #[.int .i64 ((rd_T71 l0 x7_1).f0), .int .i64 0, .int .i64 0]) ?_ 1 _ rfl; (with_reducible repeat (first | refine blk_drewN ?_ _ | refine blk_drew ?_ | refine blk_alloc ?_ _)); refine blk_put (cs := #[.int .i64 0, .int .i64 0, .int .i64 0]) ?_ 0 _ rfl; (with_reducible repeat (first | refine blk_drewN ?_ _ | refine blk_drew ?_ | refine blk_alloc ?_ _)); exact BK245.out) hb); have n1_ := z9a (below_step (by repeat (first | (with_reducible first | exact HB.out | apply z9d | apply z9b | apply z9c | refine below_set ?_ GE245.out) | exact HB.out)) hb); clear BK245; clear HB; have BK245 := n0_; have HB := n1_; clear n0_ n1_; (try clear hb); (try clear hb2); (try clear hk); (try clear hi)))
       go_ret
       exact ⟨by first | rfl | (simp [errW_none, errW_some] <;> rfl) | (simp [*, errW_none, errW_some] <;> rfl), by repeat (first | (with_reducible first | exact HB.out | apply z9d | apply z9b | apply z9c | refine below_set ?_ GE245.out) | exact HB.out)⟩
     ·rw [if_neg c4] at H
      exact absurd H (by simp)
    ·rw [if_neg c3] at H
     exact absurd H (by simp)
   ·rw [if_neg c2] at H
    have c2b0 : decide (x7_1 < (l0.length : Int)) = false := decide_eq_false c2
    clear c2
    obtain rfl := Option.some.inj H
    go_wp2
    go_ret
    exact ⟨by first | rfl | (simp [errW_none, errW_some] <;> rfl) | (simp [*, errW_none, errW_some] <;> rfl), by repeat (first | (with_reducible first | exact HB.out | apply z9d | apply z9b | apply z9c) | exact HB.out)⟩
def y_kb.f (k : Nat) (l0 : List (S71)) : Option (Bool) := if (l0.length : Int) ≤ 24 then ((y_hb.f k l0).bind fun t247 => (some t247)) else (some false)
theorem y_kb.calls (k : Nat) (A0 : Option Addr) (c0 : Nat) (l0 : List (S71)) (r : Bool) (w : World) (hr0 : Kd.C k71 w A0 l0.length l0) (hc0 : l0.length ≤ c0) (h : y_kb.f k l0 = some r) :
  Calls Try.prog 107 #[.slice A0 l0.length c0] w fun e w' => e = .returned (.bool r) ∧ Below w.heap.size w w' := by
 have HR0 := z9a hr0
 have HC0 := z9a hc0
 clear hr0 hc0
 have HB := z9a (Below.refl w.heap.size w)
 have H : (if (l0.length : Int) ≤ 24 then ((y_hb.f k l0).bind fun t247 => (some t247)) else (some false)) = some r := h
 clear h
 by_cases c2 : (l0.length : Int) ≤ 24
 ·rw [if_pos c2] at H
  have c2b0 : decide ((l0.length : Int) ≤ 24) = true := z9h c2
  have c2b1 : decide (l0.length ≤ 24) = true := z9h (by omega)
  clear c2
  replace H := z9f.mp H
  obtain ⟨t247, A30, H⟩ := H
  have A3 := z9a A30
  clear A30
  obtain rfl := Option.some.inj H
  go_enter Try.func107, Try.ntmps107
  go_wp2_with (first | (go_at_call 156; (with_reducible refine (y_hb.calls k _ _ l0 t247 _ ?side1 ?side2 A3.out).mono ?_); (case side1 => repeat (first | exact HR0.out | (with_reducible refine Kd.C_alloc ?_ _) | (with_reducible refine Kd.C_drewN ?_ _) | (with_reducible refine Kd.C_drew ?_))); (case side2 => exact HC0.out); rintro e w4 ⟨rfl, hb⟩; have n0_ := z9a (below_step (by repeat (first | (with_reducible first | exact HB.out | apply z9d | apply z9b | apply z9c) | exact HB.out)) hb); clear HB; have HB := n0_; clear n0_; (try clear hb); (try clear hb2); (try clear hk); (try clear hi)))
  go_ret
  exact ⟨by first | rfl | (simp [errW_none, errW_some] <;> rfl) | (simp [*, errW_none, errW_some] <;> rfl), by repeat (first | (with_reducible first | exact HB.out | apply z9d | apply z9b | apply z9c) | exact HB.out)⟩
 ·rw [if_neg c2] at H
  have c2b0 : decide ((l0.length : Int) ≤ 24) = false := decide_eq_false c2
  have c2b1 : decide (l0.length ≤ 24) = false := decide_eq_false (by omega)
  clear c2
  obtain rfl := Option.some.inj H
  go_enter Try.func107, Try.ntmps107
  go_wp2
  go_ret
  exact ⟨by first | rfl | (simp [errW_none, errW_some] <;> rfl) | (simp [*, errW_none, errW_some] <;> rfl), by repeat (first | (with_reducible first | exact HB.out | apply z9d | apply z9b | apply z9c) | exact HB.out)⟩
def y_ac.f (a0 : Int) : Option (Bool) := (y_u.f a0 8 60).bind fun t248 => (some t248)
theorem y_ac.calls (a0 : Int) (r : Bool) (w : World) (h : y_ac.f a0 = some r) :
  Calls Try.prog 108 #[.int .i64 a0] w fun e w' => e = .returned (.bool r) ∧ Drawn0 w w' := by
 have H : ((y_u.f a0 8 60).bind fun t248 => (some t248)) = some r := h
 clear h
 replace H := z9f.mp H
 obtain ⟨t248, A20, H⟩ := H
 have A2 := z9a A20
 clear A20
 obtain rfl := Option.some.inj H
 go_enter Try.func108, Try.ntmps108
 go_wp2_with (first | ((with_reducible refine gate_callee (f := 141) rfl ?_); refine goesL_ (some 4) rfl rfl Try.func141 (by kernel_rfl) rfl #[.int .i64 a0, .int .i64 8, .int .i64 60] rfl (by (try simp only [zm9a, zm9b, zm9c]); first | done | rfl | (simp only [zm9d, zm9e]; rfl)) ?_; (with_reducible refine (y_u.calls a0 8 60 t248 _ A2.out).mono ?_); rintro e w' ⟨rfl, ⟨nd, rfl⟩⟩; refine ⟨_, rfl, ?_⟩))
 go_ret
 exact ⟨by first | rfl | (simp; done) | (simp [*]; done), by repeat (first | exact Drawn0.refl _ | apply Drawn0.step)⟩
def y_ub.f (a0_0 : Int) (a0_1 : Int) (a0_2 : Int) : Option (Int) := (y_ob.f a0_0 a0_1 a0_2).bind fun t250 => (if t250 = true then (some (wrap64 (1 + a0_2))) else (some 0))
theorem y_ub.calls (a0_0 : Int) (a0_1 : Int) (a0_2 : Int) (r : Int) (w : World) (h : y_ub.f a0_0 a0_1 a0_2 = some r) :
  Calls Try.prog 110 #[.agg #[.int .i64 a0_0, .int .i64 a0_1, .int .i64 a0_2]] w fun e w' => e = .returned (.int .i64 r) ∧ Below w.heap.size w w' := by
 have hu71 := Try.underlying71
 have HB := z9a (Below.refl w.heap.size w)
 have H := h
 unfold y_ub.f at H
 clear h
 replace H := z9f.mp H
 obtain ⟨t250, A20, H⟩ := H
 have A2 := z9a A20
 clear A20
 by_cases c3 : t250 = true
 ·subst c3
  rw [if_pos rfl] at H
  obtain rfl := Option.some.inj H
  go_enter Try.func110, Try.ntmps110
  go_wp2_with (first | ((with_reducible refine gate_dst (N := 1) rfl ?_); refine box_event ?hg (N := 1) ?hd (cs := #[.int .i64 a0_0, .int .i64 a0_1, .int .i64 a0_2]) (t := 71) ?hr ?_; (case hd => rfl); (case hg => rfl); (case hr => first | (go_simp; done) | (go_simp; rfl)); intro gb249 hg w4 hbox hb; have n0_ := z9a (below_step (by repeat (first | (with_reducible first | exact HB.out | apply z9d | apply z9b | apply z9c) | exact HB.out)) hb); have n1_ := z9a (hbox); have n2_ := z9a ((by rw [hg]; exact (below_size (by repeat (first | (with_reducible first | exact HB.out | apply z9d | apply z9b | apply z9c) | exact HB.out))) : w.heap.size ≤ gb249)); have n3_ := z9a ((by rw [hg]; exact (below_size (by repeat (first | (with_reducible first | exact HB.out | apply z9d | apply z9b | apply z9c) | exact HB.out))) : w.heap.size ≤ gb249)); clear HB; have HB := n0_; have BK249 := n1_; have GW249 := n2_; have GE249 := n3_; clear n0_ n1_ n2_ n3_; clear hb hbox hg; obtain ⟨hcz5_0, hcz5_1, hcz5_2⟩ := cells_3 BK249.out; obtain ⟨hfz5_0, hfz5_1, hfz5_2⟩ := frz_3 BK249.out) | ((with_reducible refine gate_callee (f := 157) rfl ?_); refine goesL_ (some 4) rfl rfl Try.func157 (by kernel_rfl) rfl #[.agg #[.int .i64 a0_0, .int .i64 a0_1, .int .i64 a0_2]] rfl (by (try simp only [zm9a, zm9b, zm9c]); first | done | rfl | (simp only [zm9d, zm9e]; rfl)) ?_; (with_reducible refine (y_ob.calls a0_0 a0_1 a0_2 true _ A2.out).mono ?_); rintro e w6 ⟨rfl, hb⟩; refine ⟨_, rfl, ?_⟩; have n0_ := z9a (blk_below (g := gb249) (o := .cells #[.int .i64 a0_0, .int .i64 a0_1, .int .i64 a0_2] 71 (0, 0)) (by (with_reducible repeat (first | refine blk_drewN ?_ _ | refine blk_drew ?_ | refine blk_alloc ?_ _)); exact BK249.out) hb); have n1_ := z9a (below_step (by repeat (first | (with_reducible first | exact HB.out | apply z9d | apply z9b | apply z9c | refine below_set ?_ GE249.out) | exact HB.out)) hb); clear BK249; clear HB; have BK249 := n0_; have HB := n1_; clear n0_ n1_; (try clear hb); (try clear hb2); (try clear hk); (try clear hi); obtain ⟨hcz7_0, hcz7_1, hcz7_2⟩ := cells_3 BK249.out; obtain ⟨hfz7_0, hfz7_1, hfz7_2⟩ := frz_3 BK249.out))
  go_ret
  exact ⟨by first | rfl | (simp [errW_none, errW_some] <;> rfl) | (simp [*, errW_none, errW_some] <;> rfl), by repeat (first | (with_reducible first | exact HB.out | apply z9d | apply z9b | apply z9c | refine below_set ?_ GE249.out) | exact HB.out)⟩
 ·replace c3 := Bool.eq_false_iff.mpr c3
  subst c3
  have H1 : (some 0) = some r := by rw [if_neg (show ¬ (false = true) by decide)] at H; exact H
  clear H
  have H := H1
  clear H1
  obtain rfl := Option.some.inj H
  go_enter Try.func110, Try.ntmps110
  go_wp2_with (first | ((with_reducible refine gate_dst (N := 1) rfl ?_); refine box_event ?hg (N := 1) ?hd (cs := #[.int .i64 a0_0, .int .i64 a0_1, .int .i64 a0_2]) (t := 71) ?hr ?_; (case hd => rfl); (case hg => rfl); (case hr => first | (go_simp; done) | (go_simp; rfl)); intro gb249 hg w8 hbox hb; have n0_ := z9a (below_step (by repeat (first | (with_reducible first | exact HB.out | apply z9d | apply z9b | apply z9c) | exact HB.out)) hb); have n1_ := z9a (hbox); have n2_ := z9a ((by rw [hg]; exact (below_size (by repeat (first | (with_reducible first | exact HB.out | apply z9d | apply z9b | apply z9c) | exact HB.out))) : w.heap.size ≤ gb249)); have n3_ := z9a ((by rw [hg]; exact (below_size (by repeat (first | (with_reducible first | exact HB.out | apply z9d | apply z9b | apply z9c) | exact HB.out))) : w.heap.size ≤ gb249)); clear HB; have HB := n0_; have BK249 := n1_; have GW249 := n2_; have GE249 := n3_; clear n0_ n1_ n2_ n3_; clear hb hbox hg; obtain ⟨hcz9_0, hcz9_1, hcz9_2⟩ := cells_3 BK249.out; obtain ⟨hfz9_0, hfz9_1, hfz9_2⟩ := frz_3 BK249.out) | ((with_reducible refine gate_callee (f := 157) rfl ?_); refine goesL_ (some 4) rfl rfl Try.func157 (by kernel_rfl) rfl #[.agg #[.int .i64 a0_0, .int .i64 a0_1, .int .i64 a0_2]] rfl (by (try simp only [zm9a, zm9b, zm9c]); first | done | rfl | (simp only [zm9d, zm9e]; rfl)) ?_; (with_reducible refine (y_ob.calls a0_0 a0_1 a0_2 false _ A2.out).mono ?_); rintro e w10 ⟨rfl, hb⟩; refine ⟨_, rfl, ?_⟩; have n0_ := z9a (blk_below (g := gb249) (o := .cells #[.int .i64 a0_0, .int .i64 a0_1, .int .i64 a0_2] 71 (0, 0)) (by (with_reducible repeat (first | refine blk_drewN ?_ _ | refine blk_drew ?_ | refine blk_alloc ?_ _)); exact BK249.out) hb); have n1_ := z9a (below_step (by repeat (first | (with_reducible first | exact HB.out | apply z9d | apply z9b | apply z9c | refine below_set ?_ GE249.out) | exact HB.out)) hb); clear BK249; clear HB; have BK249 := n0_; have HB := n1_; clear n0_ n1_; (try clear hb); (try clear hb2); (try clear hk); (try clear hi)))
  go_ret
  exact ⟨by first | rfl | (simp [errW_none, errW_some] <;> rfl) | (simp [*, errW_none, errW_some] <;> rfl), by repeat (first | (with_reducible first | exact HB.out | apply z9d | apply z9b | apply z9c | refine below_set ?_ GE249.out) | exact HB.out)⟩
def y_p.l0 : Nat → Int → List (S71) → Int → Int → Option (Int)
 | 0, _, _, _, _ => none
 | k + 1, x3, x6, x7, x8 => if x8 < x7 then (if 0 ≤ x8 then (if x8 < (x6.length : Int) then ((y_ub.f ((rd_T71 x6 x8).f0) ((rd_T71 x6 x8).f1) ((rd_T71 x6 x8).f2)).bind fun t253 => (y_p.l0 k (wrap64 (x3 + t253)) x6 x7 (wrap64 (x8 + 1)))) else (none)) else (none)) else (some x3)
def y_p.f (k : Nat) (l0 : List (S71)) : Option (Int) := y_p.l0 k 0 l0 (l0.length : Int) 0
theorem y_p.calls (k : Nat) (A0 : Option Addr) (c0 : Nat) (l0 : List (S71)) (r : Int) (w : World) (hr0 : Kd.C k71 w A0 l0.length l0) (hc0 : l0.length ≤ c0) (h : y_p.f k l0 = some r) :
  Calls Try.prog 109 #[.slice A0 l0.length c0] w fun e w' => e = .returned (.int .i64 r) ∧ Below w.heap.size w w' := by
 have hu71 := Try.underlying71
 have HR0 := z9a hr0
 have HC0 := z9a hc0
 clear hr0 hc0
 have HB := z9a (Below.refl w.heap.size w)
 have H : (y_p.l0 k 0 l0 (l0.length : Int) 0) = some r := h
 clear h
 have H' := z9a H
 clear H
 go_enter Try.func109, Try.ntmps109
 go_wp2
 go_loopg [3, 8] k (fun kq v3 v8 w' => ∃ (x3_1 : Int) (x8_1 : Int), v3 = .int .i64 x3_1 ∧ v8 = .int .i64 x8_1 ∧ Aside0 (y_p.l0 kq x3_1 l0 (l0.length : Int) x8_1 = some r) ∧ Aside0 (kq ≤ k) ∧ Aside0 (Below w.heap.size w w'))
 case atStart => exact ⟨(0), (0), (by first | rfl | (simp; done) | (simp [*]; done)), (by first | rfl | (simp; done) | (simp [*]; done)), H', ⟨Nat.le_refl _⟩, ⟨by repeat (first | (with_reducible first | exact HB.out | apply z9d | apply z9b | apply z9c) | exact HB.out)⟩⟩
 case round =>
  clear H'
  try clear c1
  obtain ⟨x3_1, x8_1, rfl, rfl, HA, HK1, HB⟩ := hrel
  cases gk with
  | zero => exact absurd HA.out (by simp [y_p.l0])
  | succ k1 =>
   have H := HA.out
   clear HA
   simp only [y_p.l0] at H
   by_cases c2 : x8_1 < (l0.length : Int)
   ·rw [if_pos c2] at H
    have c2b0 : decide (x8_1 < (l0.length : Int)) = true := z9h c2
    clear c2
    by_cases c3 : 0 ≤ x8_1
    ·rw [if_pos c3] at H
     have c3b0 : decide (0 ≤ x8_1) = true := z9h c3
     clear c3
     by_cases c4 : x8_1 < (l0.length : Int)
     ·rw [if_pos c4] at H
      have c4b0 : decide (x8_1 < (l0.length : Int)) = true := z9h c4
      clear c4
      replace H := z9f.mp H
      obtain ⟨t253, A50, H⟩ := H
      have A5 := z9a A50
      clear A50
      have H' := z9a H
      clear H
      have p251 : 0 ≤ (x8_1 : Int) := z9g (by first | (with_reducible assumption) | assumption)
      have q251 : x8_1 < (l0.length : Int) := z9g (by first | (with_reducible assumption) | assumption)
      obtain ⟨ad251, e251, hx251_0, hx251_1, hx251_2⟩ := at_T71 HR0.out x8_1 p251 q251
      cases e251
      replace hx251_0 := (HB.out.cell (z9e w _ hx251_0)).trans hx251_0
      replace hx251_1 := (HB.out.cell (z9e w _ hx251_1)).trans hx251_1
      replace hx251_2 := (HB.out.cell (z9e w _ hx251_2)).trans hx251_2
      replace p251 := eq_true p251
      replace q251 := eq_true q251
      go_wp2_with (first | ((with_reducible refine gate_dst (N := 5) rfl ?_); refine box_event ?hg (N := 5) ?hd (cs := #[.int .i64 0, .int .i64 0, .int .i64 0]) (t := 71) ?hr ?_; (case hd => rfl); (case hg => rfl); (case hr => first | (go_simp; done) | (go_simp; rfl)); intro gb252 hg w6 hbox hb; have n0_ := z9a (below_step (by repeat (first | (with_reducible first | exact HB.out | apply z9d | apply z9b | apply z9c) | exact HB.out)) hb); have n1_ := z9a (hbox); have n2_ := z9a ((by rw [hg]; exact (below_size (by repeat (first | (with_reducible first | exact HB.out | apply z9d | apply z9b | apply z9c) | exact HB.out))) : w.heap.size ≤ gb252)); have n3_ := z9a ((by rw [hg]; exact (below_size (by repeat (first | (with_reducible first | exact HB.out | apply z9d | apply z9b | apply z9c) | exact HB.out))) : w.heap.size ≤ gb252)); clear HB; have HB := n0_; have BK252 := n1_; have GW252 := n2_; have GE252 := n3_; clear n0_ n1_ n2_ n3_; clear hb hbox hg; obtain ⟨hcz7_0, hcz7_1, hcz7_2⟩ := cells_3 BK252.out; obtain ⟨hfz7_0, hfz7_1, hfz7_2⟩ := frz_3 BK252.out) | ((with_reducible refine gate_callee (f := 110) rfl ?_); refine goesL_ (some 14) rfl rfl Try.func110 (by kernel_rfl) rfl #[.agg #[.int .i64 ((rd_T71 l0 x8_1).f0), .int .i64 ((rd_T71 l0 x8_1).f1), .int .i64 ((rd_T71 l0 x8_1).f2)]] rfl (by (try simp only [zm9a, zm9b, zm9c]); first | done | rfl | (simp only [zm9d, zm9e]; rfl)) ?_; (with_reducible refine (y_ub.calls ((rd_T71 l0 x8_1).f0) ((rd_T71 l0 x8_1).f1) ((rd_T71 l0 x8_1).f2) t253 _ A5.out).mono ?_); rintro e w8 ⟨rfl, hb⟩; refine ⟨_, rfl, ?_⟩; have n0_ := z9a (blk_below (g := gb252) (o := .cells #[.int .i64 ((rd_T71 l0 x8_1).f0), .int .i64 ((rd_T71 l0 x8_1).f1), .int .i64 ((rd_T71 l0 x8_1).f2)] 71 (0, 0)) (by (with_reducible repeat (first | refine blk_drewN ?_ _ | refine blk_drew ?_ | refine blk_alloc ?_ _)); refine blk_put (cs := #[.int .i64 ((rd_T71 l0 x8_1).f0), .int .i64 ((rd_T71 l0 x8_1).f1), .int .i64 0]) ?_ 2 _ rfl; (with_reducible repeat (first | refine blk_drewN ?_ _ | refine blk_drew ?_ | refine blk_alloc ?_ _)); refine blk_put (cs := #[.int .i64 ((rd_T71 l0 x8_1).f0), .int .i64 0, .int .i64 0]) ?_ 1 _ rfl; (with_reducible repeat (first | refine blk_drewN ?_ _ | refine blk_drew ?_ | refine blk_alloc ?_ _)); refine blk_put (cs := #[.int .i64 0, .int .i64 0, .int .i64 0]) ?_ 0 _ rfl; (with_reducible repeat (first | refine blk_drewN ?_ _ | refine blk_drew ?_ | refine blk_alloc ?_ _)); exact BK252.out) hb); have n1_ := z9a (below_step (by repeat (first | (with_reducible first | exact HB.out | apply z9d | apply z9b | apply z9c | refine below_set ?_ GE252.out) | exact HB.out)) hb); clear BK252; clear HB; have BK252 := n0_; have HB := n1_; clear n0_ n1_; (try clear hb); (try clear hb2); (try clear hk); (try clear hi)))
      go_roundg k1
      case measure => have := HK1.out; omega
      case rel => exact ⟨(wrap64 (x3_1 + t253)), (wrap64 (x8_1 + 1)), (by first | rfl | (simp; done) | (simp [*]; done)), (by first | rfl | (simp; done) | (simp [*]; done)), H', ⟨by have := HK1.out; omega⟩, ⟨by repeat (first | (with_reducible first | exact HB.out | apply z9d | apply z9b | apply z9c | refine below_set ?_ GE252.out) | exact HB.out)⟩⟩
     ·rw [if_neg c4] at H
      exact absurd H (by simp)
    ·rw [if_neg c3] at H
     exact absurd H (by simp)
   ·rw [if_neg c2] at H
    have c2b0 : decide (x8_1 < (l0.length : Int)) = false := decide_eq_false c2
    clear c2
    obtain rfl := Option.some.inj H
    go_wp2
    go_ret
    exact ⟨by first | rfl | (simp [errW_none, errW_some] <;> rfl) | (simp [*, errW_none, errW_some] <;> rfl), by repeat (first | (with_reducible first | exact HB.out | apply z9d | apply z9b | apply z9c) | exact HB.out)⟩
end Go.Proofs.Ytkcicbigpbdjpaa.P
end
