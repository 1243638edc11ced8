-- merged by pack.py out of Px29 Px30 Px2 Px3 (words: printed by the kit's print.sh; what this claim does not use is left out)

import Derived.Test.YtkcicbigpbdjpaaKFnExactExternalSort1
import Derived.Test.YtkcicbigpbdjpaaKFnExactExternalSort3
import Derived.Test.YtkcicbigpbdjpaaKFnExactExternalSort4
import Derived.Test.YtkcicbigpbdjpaaKFnExactExternalSort5
namespace Go.Proofs.Ytkcicbigpbdjpaa
abbrev zt6 : Bool := true
abbrev zf6 : Bool := false
section
open Go.RowKit Go.Proofs.YtkcicbigpbdjpaaW.PrintWords Go.Proofs.YtkcicbigpbdjpaaW.PrintLast Go.Proofs.YtkcicbigpbdjpaaW.PrintMore
abbrev z6a := @Aside0.mk
abbrev z6b := @pw_below_drewN
abbrev z6c := @below_drew1
abbrev z6d := @below_alloc
abbrev z6e := @World.block_lt_of_cell?
abbrev z6f := @Option.bind_eq_some_iff
end
theorem zm6a {α β : Type} (f : α → β) (l : List α) : l.toArray.map f = (l.map f).toArray := by simp
theorem zm6b {α β : Type} (f : α → β) (a : α) (l : List α) : (a :: l).map f = f a :: l.map f := rfl
theorem zm6c {α β : Type} (f : α → β) : ([] : List α).map f = [] := rfl
theorem zm6d {α : Type} (n : Nat) (l : List α) : (l.drop n).length = l.length - n := List.length_drop
theorem zm6e {α : Type} (n : Nat) (l : List α) : (l.take n).length = min n l.length := List.length_take
theorem zp6a {α : Type} (l : List α) (i : Nat) (a : α) : l.toArray.setIfInBounds i a = (l.set i a).toArray := List.setIfInBounds_toArray l i a
theorem zp6b {α : Type} (x : α) (l : List α) (a : α) : (x :: l).set 0 a = a :: l := List.set_cons_zero
theorem zp6c {α : Type} (x : α) (l : List α) (n : Nat) (a : α) : (x :: l).set (n + 1) a = x :: l.set n a := List.set_cons_succ
end Go.Proofs.Ytkcicbigpbdjpaa
set_option maxHeartbeats 8000000
set_option maxRecDepth 100000
section
namespace Go.Proofs.Ytkcicbigpbdjpaa.P
open Go.RowKit Go.Proofs.YtkcicbigpbdjpaaW.PrintWords Go.Proofs.YtkcicbigpbdjpaaW.PrintLast Go.Proofs.YtkcicbigpbdjpaaW.PrintMore
attribute [local go_sem] max2_int min2_int max_two min_two max_three min_three max_four min_four
set_option linter.unusedVariables false
set_option linter.unusedSimpArgs false
def y_r.l0 : Nat → List (S39) → List (S39) → Int → Option ((List (S39)))
 | 0, _, _, _ => none
 | k + 1, x0, x3, x4 => if x4 < (x0.length : Int) then (if (wrap64 (x4 + 1)) = (x0.length : Int) then ((some (([] : List (S71)) : List (S71))).bind fun y698 => (if 0 ≤ x4 then (if y698.length + ((rd_T39 x0 x4).f0).length < 5864062014805 then (if x3.length < 5864062014805 then (y_r.l0 k x0 (x3 ++ [(⟨(y698 ++ ((rd_T39 x0 x4).f0))⟩ : S39)]) (wrap64 (x4 + 2))) else (none)) else (none)) else (none))) else (if 0 ≤ x4 then (if 0 ≤ (wrap64 (x4 + 1)) then (if (wrap64 (x4 + 1)) < (x0.length : Int) then ((y_g.f k ((rd_T39 x0 x4).f0) ((rd_T39 x0 (wrap64 (x4 + 1))).f0)).bind fun t710 => (if x3.length < 5864062014805 then (y_r.l0 k x0 (x3 ++ [(⟨t710⟩ : S39)]) (wrap64 (x4 + 2))) else (none))) else (none)) else (none)) else (none))) else (some x3)
def y_r.f (k : Nat) (l0 : List (S39)) : Option ((List (S39))) := y_r.l0 k l0 (([] : List (S39))) 0
def y_r.T7 : Bool × List (List Nat × List Nat) := (true, [([], []), ([], []), ([], []), ([1, 2], [1, 2]), ([3], [3]), ([4], [4]), ([], []), ([], []), ([7], [7]), ([6, 8], [6, 8]), ([9], [9]), ([10], [10]), ([5, 11], [5, 11]), ([12], [12]), ([13], [13]), ([0, 14, 12], [0, 14]), ([15, 15, 0, 1, 2, 3, 4, 5, 6, 7, 8, 9, 10, 11, 12, 13, 14, 15], [0, 15])])
def y_r.B7 : List Nat := [0, 0, 0, 6, 14, 30, 0, 0, 128, 448, 960, 1984, 4094, 8190, 16382, 32767, 65535]
theorem y_r.tab7 : rtab .any (opsOf Try.f54 7) = y_r.T7 := by kernel_rfl
theorem y_r.bits7 : waitsOk y_r.T7.2 y_r.B7 = true := by kernel_rfl
theorem y_r.calls (k : Nat) (A0 : Option Addr) (c0 : Nat) (l0 : List (S39)) (r : List (S39)) (w : World) (hr0 : Kd.C k39 w A0 l0.length l0) (hc0 : l0.length ≤ c0) (h : y_r.f k l0 = some r) :
  Calls Try.prog 54 #[.slice A0 l0.length c0] w fun e w' => ∃ v0_ : Value, e = .returned (v0_) ∧ Kd.S k39 39 w' w.heap.size (fun _ => True) v0_ r ∧ Below w.heap.size w w' := by
 have hu39 := Try.underlying39
 have HR0 := z6a hr0
 have HC0 := z6a hc0
 clear hr0 hc0
 have HB := z6a (Below.refl w.heap.size w)
 have H : (y_r.l0 k l0 (([] : List (S39))) 0) = some r := h
 clear h
 obtain ⟨y695, hy695⟩ : ∃ y_ : List (S39), y_ = (([] : List (S39))) := ⟨_, rfl⟩
 replace H : (y_r.l0 k l0 y695 0) = some r := by first | (rw [hy695]; with_reducible exact H) | (have H2_ := (Option.bind_some _ _).symm.trans H; rw [hy695]; with_reducible exact H2_) | (have H2_ := (Option.bind_some _ _).symm.trans H; with_reducible exact H2_) | with_reducible exact H | (rw [hy695]; exact H) | exact H
 have Ny695 := z6a hy695
 clear hy695
 have H' := z6a H
 clear H
 go_enter Try.func54, Try.ntmps54
 go_wp2_with (first | ((with_reducible refine gate_dst (N := 5) rfl ?_); refine Kd.S_lit k39 _ 39 ?hg (N := 5) ?hd (xs := ([] : List (S39))) (inner := []) (ok := fun _ => True) (okp := fun _ => True) ?hr ?hp (fun _ hk => hk) trivial (Below.refl _ _) (Nat.le_refl _) (by simp) ?_; (case hd => rfl); (case hg => rfl); (case hr => first | (go_simp; done) | (go_simp; rfl)); (case hp => exact (Reps.none _ _)); intro v696 w2 ho3 hb hg_ hnew_; clear hg_ hnew_; (first | rw [← Ny695.out] at ho3 | (simp only [Int.reduceToNat] at ho3; rw [← Ny695.out] at ho3)); have n0_ := z6a (Kd.S_lower ho3 (below_size (by repeat (first | (with_reducible first | exact HB.out | apply z6d | apply z6b | apply z6c) | exact HB.out)))); have n1_ := z6a (below_step (by repeat (first | (with_reducible first | exact HB.out | apply z6d | apply z6b | apply z6c) | exact HB.out)) hb); clear HB; have HO697 := n0_; have HB := n1_; clear n0_ n1_; clear hb ho3))
 go_loopg [3, 4] k (fun kq v3 v4 w' => ∃ (x3_1 : List (S39)) (x4_1 : Int), v4 = .int .i64 x4_1 ∧ Aside0 (y_r.l0 kq l0 x3_1 x4_1 = some r) ∧ Aside0 (kq ≤ k) ∧ Aside0 (Kd.S k39 39 w' w.heap.size (fun _ => True) v3 x3_1) ∧ Aside0 (Below w.heap.size w w'))
 case atStart => exact ⟨(y695), (0), (by first | rfl | (simp; done) | (simp [*]; done)), H', ⟨Nat.le_refl _⟩, ⟨by (with_reducible repeat (first | apply Kd.S_alloc | apply Kd.S_drewN | apply Kd.S_drew)); exact HO697.out⟩, ⟨by repeat (first | (with_reducible first | exact HB.out | apply z6d | apply z6b | apply z6c) | exact HB.out)⟩⟩
 case round =>
  clear H'
  try clear p2
  obtain ⟨x3_1, x4_1, rfl, HA, HK1, HO_3, HB⟩ := hrel
  cases gk with
  | zero => exact absurd HA.out (by simp [y_r.l0])
  | succ k1 =>
   have H := HA.out
   clear HA
   simp only [y_r.l0] at H
   by_cases c4 : x4_1 < (l0.length : Int)
   ·rw [if_pos c4] at H
    have c4b0 : decide (x4_1 < (l0.length : Int)) = true := decide_eq_true c4
    clear c4
    by_cases c5 : (wrap64 (x4_1 + 1)) = (l0.length : Int)
    ·rw [if_pos c5] at H
     have c5b0 : ((wrap64 (x4_1 + 1)) == (l0.length : Int)) = true := beq_iff_eq.mpr c5
     have c5b1 : ((wrap64 (x4_1 + 1)) != (l0.length : Int)) = false := bne_eq_false_iff_eq.mpr c5
     clear c5
     obtain ⟨y698, hy698⟩ : ∃ y_ : List (S71), y_ = (([] : List (S71))) := ⟨_, rfl⟩
     replace H : (if 0 ≤ x4_1 then (if y698.length + ((rd_T39 l0 x4_1).f0).length < 5864062014805 then (if x3_1.length < 5864062014805 then (y_r.l0 k1 l0 (x3_1 ++ [(⟨(y698 ++ ((rd_T39 l0 x4_1).f0))⟩ : S39)]) (wrap64 (x4_1 + 2))) else (none)) else (none)) else (none)) = some r := by first | (rw [hy698]; with_reducible exact H) | (have H2_ := (Option.bind_some _ _).symm.trans H; rw [hy698]; with_reducible exact H2_) | (have H2_ := (Option.bind_some _ _).symm.trans H; with_reducible exact H2_) | with_reducible exact H | (rw [hy698]; exact H) | exact H
     have Ny698 := z6a hy698
     clear hy698
     by_cases c6 : 0 ≤ x4_1
     ·rw [if_pos c6] at H
      have c6b0 : decide (0 ≤ x4_1) = true := decide_eq_true c6
      clear c6
      by_cases c7 : y698.length + ((rd_T39 l0 x4_1).f0).length < 5864062014805
      ·rw [if_pos c7] at H
       have LMc7 := z6a c7
       clear c7
       obtain ⟨y702, hy702⟩ : ∃ y_ : List (S71), y_ = (y698 ++ ((rd_T39 l0 x4_1).f0)) := ⟨_, rfl⟩
       replace H : (if x3_1.length < 5864062014805 then (y_r.l0 k1 l0 (x3_1 ++ [(⟨y702⟩ : S39)]) (wrap64 (x4_1 + 2))) else (none)) = some r := by first | (rw [hy702]; with_reducible exact H) | (have H2_ := (Option.bind_some _ _).symm.trans H; rw [hy702]; with_reducible exact H2_) | (have H2_ := (Option.bind_some _ _).symm.trans H; with_reducible exact H2_) | with_reducible exact H | (rw [hy702]; exact H) | exact H
       have Ny702 := z6a hy702
       clear hy702
       by_cases c8 : x3_1.length < 5864062014805
       ·rw [if_pos c8] at H
        have LMc8 := z6a c8
        clear c8
        obtain ⟨y705, hy705⟩ : ∃ y_ : List (S39), y_ = (x3_1 ++ [(⟨y702⟩ : S39)]) := ⟨_, rfl⟩
        replace H : (y_r.l0 k1 l0 y705 (wrap64 (x4_1 + 2))) = some r := by first | (rw [hy705]; with_reducible exact H) | (have H2_ := (Option.bind_some _ _).symm.trans H; rw [hy705]; with_reducible exact H2_) | (have H2_ := (Option.bind_some _ _).symm.trans H; with_reducible exact H2_) | with_reducible exact H | (rw [hy705]; exact H) | exact H
        have Ny705 := z6a hy705
        clear hy705
        have H' := z6a H
        clear H
        go_wp2_with (first | ((with_reducible refine gate_dst (N := 18) rfl ?_); refine Kd.R_lit k71 _ 71 ?hg (N := 18) ?hd (xs := ([] : List (S71))) (inner := []) (ok := fun _ => True) (okp := fun _ => True) ?hr ?hp (fun _ hk => hk) trivial (Below.refl _ _) (Nat.le_refl _) (by simp) ?_; (case hd => rfl); (case hg => rfl); (case hr => first | (go_simp; done) | (go_simp; rfl)); (case hp => exact (Reps.none _ _)); intro v699 w9 ho10 hb hg_ hnew_; clear hg_ hnew_; (first | rw [← Ny698.out] at ho10 | (simp only [Int.reduceToNat] at ho10; rw [← Ny698.out] at ho10)); have n0_ := z6a (Kd.S_elder' (by (with_reducible repeat (first | apply Kd.S_alloc | apply Kd.S_drewN | apply Kd.S_drew)); exact HO_3.out) (Kd.R_base ho10) hb); have n1_ := z6a (Kd.R_lower ho10 (below_size (by repeat (first | (with_reducible first | exact HB.out | apply z6d | apply z6b | apply z6c) | exact HB.out)))); have n2_ := z6a (below_step (by repeat (first | (with_reducible first | exact HB.out | apply z6d | apply z6b | apply z6c) | exact HB.out)) hb); clear HO_3; clear HB; have HO_3 := n0_; have HO700 := n1_; have HB := n2_; clear n0_ n1_ n2_; clear hb ho10; have p701 : 0 ≤ (x4_1 : Int) := of_decide_eq_true (by first | (with_reducible assumption) | assumption); have q701 : x4_1 < (l0.length : Int) := of_decide_eq_true (by first | (with_reducible assumption) | assumption); obtain ⟨ad701, A701_0, c701_0, e701, hx701_0, hl701_0, hi701_0⟩ := at_T39 HR0.out x4_1 p701 q701; cases e701; replace hx701_0 := (HB.out.cell (z6e w _ hx701_0)).trans hx701_0; have HR701_0 := z6a hi701_0; have HC701_0 := z6a hl701_0; clear hi701_0 hl701_0; replace p701 := eq_true p701; replace q701 := eq_true q701) | ((with_reducible refine gate_builtin (b := .append) (xs := #[.tmp 18, .tmp 23]) rfl ?_); at_builtin; refine Kd.R_append_rows k71 (w0 := w) w.heap.size rfl (.tmp 18) (.tmp 23) 24 71 (.agg #[(.int .i64 0), (.int .i64 0), (.int .i64 0)]) 24 rfl Try.underlying24 info71 rfl (by decide) (by omega) v699 y698 ((rd_T39 l0 x4_1).f0) _ _ _ (fun _ => True) (fun _ => False) rfl rfl ?aO ?aR (fun _ _ h => h) (fun _ h => h.elim) ?aF ?aB ?aS ?aL ?_; (case aR => repeat (first | exact (Kd.C_below HR701_0.out HB.out) | (with_reducible refine Kd.C_alloc ?_ _) | (with_reducible refine Kd.C_drewN ?_ _) | (with_reducible refine Kd.C_drew ?_))); (case aB => exact (by repeat (first | (with_reducible first | exact HB.out | apply z6d | apply z6b | apply z6c) | exact HB.out))); (case aF => exact (fun _ _ => trivial)); (case aO => exact (by (with_reducible repeat (first | apply Kd.R_alloc | apply Kd.R_drewN | apply Kd.R_drew)); exact HO700.out)); (case aS => exact (below_size (by repeat (first | (with_reducible first | exact HB.out | apply z6d | apply z6b | apply z6c) | exact HB.out)))); (case aL => have := LMc7.out; omega); intro v703 w11 ho hb hg hat; rw [← Ny702.out] at ho; have n0_ := z6a (Kd.S_after (ok := (fun _ => True)) (by (with_reducible repeat (first | apply Kd.S_alloc | apply Kd.S_drewN | apply Kd.S_drew)); exact HO_3.out) hg hat); have n1_ := z6a (hb); have n2_ := z6a (ho); clear HO_3; clear HB; clear HO700; have HO_3 := n0_; have HB := n1_; have HO704 := n2_; clear n0_ n1_ n2_; clear ho hb hg hat; obtain ⟨Ao12, co12, eo12⟩ := Kd.R_slice HO704.out; subst eo12) | ((with_reducible refine gate_builtin (b := .append) (xs := #[.tmp 17, .tmp 26]) rfl ?_); at_builtin; refine Kd.S_append k39 (w0 := w) w.heap.size rfl (.tmp 17) (.tmp 26) 27 39 (.agg #[(.slice none 0 0)]) 24 rfl Try.underlying27 info39 rfl (by decide) (by omega) u3 x3_1 (⟨y702⟩ : S39) [.slice Ao12 y702.length co12] (fun _ => True) (fun k_ => some k_ = (.slice Ao12 y702.length co12 : Value).ownBlock) rfl rfl ?aP (fun k_ hk_ => ((Kd.R_mono (ok' := fun k_ => ((fun _ => True)) k_ ∧ some k_ ≠ (u3 : Value).ownBlock) (Kd.R_apart' (HO704.out) (Kd.S_typed HO_3.out) (by decide)) (fun k_ hk => ⟨trivial, hk.2⟩))).1 k_ hk_.symm) ?aF ?aO ?aB ?aS ?aL ?_; (case aP => exact k39_mkM _ _ _ (⟨y702⟩ : S39) (Kd.R_mono (Kd.R_tight rfl (Kd.R_mono (ok' := fun k_ => ((fun _ => True)) k_ ∧ some k_ ≠ (u3 : Value).ownBlock) (Kd.R_apart' (HO704.out) (Kd.S_typed HO_3.out) (by decide)) (fun k_ hk => ⟨trivial, hk.2⟩))) (fun _ h_ => h_))); (case aB => exact (by repeat (first | (with_reducible first | exact HB.out | apply z6d | apply z6b | apply z6c) | exact HB.out))); (case aF => exact (fun _ _ => trivial)); (case aO => exact (by (with_reducible repeat (first | apply Kd.S_alloc | apply Kd.S_drewN | apply Kd.S_drew)); exact Kd.S_mono HO_3.out (fun k_ hk => ⟨trivial, fun e_ => hk.2 e_⟩))); (case aS => exact (below_size (by repeat (first | (with_reducible first | exact HB.out | apply z6d | apply z6b | apply z6c) | exact HB.out)))); (case aL => have := LMc8.out; omega); intro v706 w13 ho hb hg hat; rw [← Ny705.out] at ho; have n0_ := z6a (hb); have n1_ := z6a (ho); clear HB; clear HO_3; clear HO704; have HB := n0_; have HO707 := n1_; clear n0_ n1_; clear ho hb hg hat))
        go_roundg k1
        case measure => have := HK1.out; omega
        case rel => exact ⟨(y705), (wrap64 (x4_1 + 2)), (by first | rfl | (simp; done) | (simp [*]; done)), H', ⟨by have := HK1.out; omega⟩, ⟨by (with_reducible repeat (first | apply Kd.S_alloc | apply Kd.S_drewN | apply Kd.S_drew)); exact HO707.out⟩, ⟨by repeat (first | (with_reducible first | exact HB.out | apply z6d | apply z6b | apply z6c) | exact HB.out)⟩⟩
       ·rw [if_neg c8] at H
        exact absurd H (by simp)
      ·rw [if_neg c7] at H
       exact absurd H (by simp)
     ·rw [if_neg c6] at H
      exact absurd H (by simp)
    ·rw [if_neg c5] at H
     have c5b0 : ((wrap64 (x4_1 + 1)) == (l0.length : Int)) = false := beq_eq_false_iff_ne.mpr c5
     have c5b1 : ((wrap64 (x4_1 + 1)) != (l0.length : Int)) = true := bne_iff_ne.mpr c5
     by_cases c14 : 0 ≤ x4_1
     ·rw [if_pos c14] at H
      have c14b0 : decide (0 ≤ x4_1) = true := decide_eq_true c14
      clear c14
      obtain ⟨ji15, hji15⟩ : ∃ j_ : Int, (wrap64 (x4_1 + 1)) = j_ := ⟨_, rfl⟩
      replace H : (if 0 ≤ (ji15) then (if (ji15) < (l0.length : Int) then ((y_g.f k1 ((rd_T39 l0 x4_1).f0) ((rd_T39 l0 (ji15)).f0)).bind fun t710 => (if x3_1.length < 5864062014805 then (y_r.l0 k1 l0 (x3_1 ++ [(⟨t710⟩ : S39)]) (wrap64 (x4_1 + 2))) else (none))) else (none)) else (none)) = some r := by first | (rw [hji15] at H; exact H) | (simp only [hji15] at H ⊢; exact H)
      (try rw [hji15] at c5b0)
      (try rw [hji15] at c5b1)
      have hji15w : (IntKind.i64.wrap (x4_1 + 1)) = ji15 := (i64_w _).trans hji15
      by_cases c16 : 0 ≤ (ji15)
      ·rw [if_pos c16] at H
       have c16b0 : decide (0 ≤ (ji15)) = true := decide_eq_true c16
       clear c16
       by_cases c17 : (ji15) < (l0.length : Int)
       ·rw [if_pos c17] at H
        have c17b0 : decide ((ji15) < (l0.length : Int)) = true := decide_eq_true c17
        clear c17
        replace H := z6f.mp H
        obtain ⟨t710, A180, H⟩ := H
        have A18 := z6a A180
        clear A180
        by_cases c19 : x3_1.length < 5864062014805
        ·rw [if_pos c19] at H
         have LMc19 := z6a c19
         clear c19
         obtain ⟨y713, hy713⟩ : ∃ y_ : List (S39), y_ = (x3_1 ++ [(⟨t710⟩ : S39)]) := ⟨_, rfl⟩
         replace H : (y_r.l0 k1 l0 y713 (wrap64 (x4_1 + 2))) = some r := by first | (rw [hy713]; with_reducible exact H) | (have H2_ := (Option.bind_some _ _).symm.trans H; rw [hy713]; with_reducible exact H2_) | (have H2_ := (Option.bind_some _ _).symm.trans H; with_reducible exact H2_) | with_reducible exact H | (rw [hy713]; exact H) | exact H
         have Ny713 := z6a hy713
         clear hy713
         have H' := z6a H
         clear H
         try go_wp2
         have n0_ := z6a (Kd.S_drew HO_3.out)
         have n1_ := z6a (z6c HB.out)
         clear HO_3
         clear HB
         have HO_3 := n0_
         have HB := n1_
         clear n0_ n1_
         have p708 : 0 ≤ (x4_1 : Int) := of_decide_eq_true (by first | (with_reducible assumption) | assumption)
         have q708 : x4_1 < (l0.length : Int) := of_decide_eq_true (by first | (with_reducible assumption) | assumption)
         obtain ⟨ad708, A708_0, c708_0, e708, hx708_0, hl708_0, hi708_0⟩ := at_T39 HR0.out x4_1 p708 q708
         have hw708_0 := hx708_0
         cases e708
         replace hx708_0 := (HB.out.cell (z6e w _ hx708_0)).trans hx708_0
         have HR708_0 := z6a hi708_0
         have HC708_0 := z6a hl708_0
         clear hi708_0 hl708_0
         replace p708 := eq_true p708
         replace q708 := eq_true q708
         have p709 : 0 ≤ ((ji15) : Int) := of_decide_eq_true (by first | (with_reducible assumption) | assumption)
         have q709 : (ji15) < (l0.length : Int) := of_decide_eq_true (by first | (with_reducible assumption) | assumption)
         obtain ⟨ad709, A709_0, c709_0, e709, hx709_0, hl709_0, hi709_0⟩ := at_T39 HR0.out (ji15) p709 q709
         have hw709_0 := hx709_0
         obtain rfl : ad708 = ad709 := (by injection e709)
         replace hx709_0 := (HB.out.cell (z6e w _ hx709_0)).trans hx709_0
         have HR709_0 := z6a hi709_0
         have HC709_0 := z6a hl709_0
         clear hi709_0 hl709_0
         replace p709 := eq_true p709
         replace q709 := eq_true q709
         refine start_ (n := 17) (S := fun w' => w'.cell? (ad708.add (x4_1).toNat) = some (.slice A708_0 ((rd_T39 l0 x4_1).f0).length c708_0) ∧ w'.cell? (ad708.add ((ji15)).toNat) = some (.slice A709_0 ((rd_T39 l0 (ji15)).f0).length c709_0)) (ds := []) #[zf6,zf6,zf6,zf6,zf6,zf6,zf6,zf6,zf6,zf6,zf6,zf6,zf6,zf6,zf6,zf6,zf6] (by kernel_rfl) rfl rfl ⟨((HB.out.cell (z6e w _ hw708_0)).trans hw708_0), ((HB.out.cell (z6e w _ hw709_0)).trans hw709_0)⟩ (fun hHeld => ?_); refine with_tabW y_r.tab7 y_r.bits7 (fun HT_ HW_ => ?_)
         generalize wr.drew = w20 at HO_3 HB HR708_0 HR709_0 hx708_0 hx709_0 hHeld ⊢
         refine pure_ (i := 0) (N := some 28) (v := ?_) (a' := ?_) #[zt6,zf6,zf6,zf6,zf6,zf6,zf6,zf6,zf6,zf6,zf6,zf6,zf6,zf6,zf6,zf6,zf6] rfl rfl (any_of HT_.out (by kernel_rfl)) (fun _ _ _ h => h) (Or.inl ⟨by rfl, ?_⟩) ?_ ?_
         rotate_left
         ·intro w'
          go_simp
          with_reducible rfl
         rotate_left
         ·simp only [Act.put, zp6a, zp6b, zp6c, i64_w, i32_w]
          rfl
         refine pure_ (i := 1) (N := some 29) (v := ?_) (a' := ?_) #[zt6,zt6,zf6,zf6,zf6,zf6,zf6,zf6,zf6,zf6,zf6,zf6,zf6,zf6,zf6,zf6,zf6] rfl rfl (any_of HT_.out (by kernel_rfl)) (fun _ _ _ h => h) (Or.inl ⟨by rfl, ?_⟩) ?_ ?_
         rotate_left
         ·intro w'
          go_simp
          with_reducible rfl
         rotate_left
         ·simp only [Act.put, zp6a, zp6b, zp6c, i64_w, i32_w]
          rfl
         refine pure_ (i := 2) (N := some 30) (v := ?_) (a' := ?_) #[zt6,zt6,zt6,zf6,zf6,zf6,zf6,zf6,zf6,zf6,zf6,zf6,zf6,zf6,zf6,zf6,zf6] rfl rfl (any_of HT_.out (by kernel_rfl)) (fun _ _ _ h => h) (Or.inl ⟨by rfl, ?_⟩) ?_ ?_
         rotate_left
         ·intro w'
          go_simp
          with_reducible rfl
         rotate_left
         ·simp only [Act.put, zp6a, zp6b, zp6c, i64_w, i32_w]
          rfl
         refine pure_ (i := 3) (N := some 31) (v := ?_) (a' := ?_) #[zt6,zt6,zt6,zt6,zf6,zf6,zf6,zf6,zf6,zf6,zf6,zf6,zf6,zf6,zf6,zf6,zf6] rfl rfl (any_of HT_.out (by kernel_rfl)) (fun _ _ _ h => h) (Or.inl ⟨by rfl, ?_⟩) ?_ ?_
         rotate_left
         ·intro w'
          go_simp
          with_reducible rfl
         rotate_left
         ·simp only [Act.put, zp6a, zp6b, zp6c, i64_w, i32_w]
          rfl
         refine pure_ (i := 4) (N := some 32) (v := ?_) (a' := ?_) #[zt6,zt6,zt6,zt6,zt6,zf6,zf6,zf6,zf6,zf6,zf6,zf6,zf6,zf6,zf6,zf6,zf6] rfl rfl (any_of HT_.out (by kernel_rfl)) (fun _ _ _ h => h) (Or.inl ⟨by rfl, ?_⟩) ?_ ?_
         rotate_left
         ·intro w'
          go_simp
          with_reducible rfl
         rotate_left
         ·simp only [Act.put, zp6a, zp6b, zp6c, i64_w, i32_w]
          rfl
         refine pure_ (i := 6) (N := some 34) (v := ?_) (a' := ?_) #[zt6,zt6,zt6,zt6,zt6,zf6,zt6,zf6,zf6,zf6,zf6,zf6,zf6,zf6,zf6,zf6,zf6] rfl rfl (any_of HT_.out (by kernel_rfl)) (fun _ _ _ h => h) (Or.inl ⟨by rfl, ?_⟩) ?_ ?_
         rotate_left
         ·intro w'
          go_simp
          with_reducible rfl
         rotate_left
         ·simp only [Act.put, zp6a, zp6b, zp6c, i64_w, i32_w]
          rfl
         refine pure_ (i := 7) (N := some 35) (v := ?_) (a' := ?_) #[zt6,zt6,zt6,zt6,zt6,zf6,zt6,zt6,zf6,zf6,zf6,zf6,zf6,zf6,zf6,zf6,zf6] rfl rfl (any_of HT_.out (by kernel_rfl)) (fun _ _ _ h => h) (Or.inl ⟨by rfl, ?_⟩) ?_ ?_
         rotate_left
         ·intro w'
          go_simp
          with_reducible rfl
         rotate_left
         ·simp only [Act.put, zp6a, zp6b, zp6c, i64_w, i32_w]
          rfl
         refine pure_ (i := 8) (N := some 36) (v := ?_) (a' := ?_) #[zt6,zt6,zt6,zt6,zt6,zf6,zt6,zt6,zt6,zf6,zf6,zf6,zf6,zf6,zf6,zf6,zf6] rfl rfl (any_of HT_.out (by kernel_rfl)) (fun _ _ _ h => h) (Or.inl ⟨by rfl, ?_⟩) ?_ ?_
         rotate_left
         ·intro w'
          go_simp
          with_reducible rfl
         rotate_left
         ·simp only [Act.put, zp6a, zp6b, zp6c, i64_w, i32_w]
          rfl
         refine pure_ (i := 9) (N := some 37) (v := ?_) (a' := ?_) #[zt6,zt6,zt6,zt6,zt6,zf6,zt6,zt6,zt6,zt6,zf6,zf6,zf6,zf6,zf6,zf6,zf6] rfl rfl (any_of HT_.out (by kernel_rfl)) (fun _ _ _ h => h) (Or.inl ⟨by rfl, ?_⟩) ?_ ?_
         rotate_left
         ·intro w'
          go_simp
          with_reducible rfl
         rotate_left
         ·simp only [Act.put, zp6a, zp6b, zp6c, i64_w, i32_w]
          rfl
         refine pure_ (i := 10) (N := some 38) (v := ?_) (a' := ?_) #[zt6,zt6,zt6,zt6,zt6,zf6,zt6,zt6,zt6,zt6,zt6,zf6,zf6,zf6,zf6,zf6,zf6] rfl rfl (any_of HT_.out (by kernel_rfl)) (fun _ _ _ h => h) (Or.inl ⟨by rfl, ?_⟩) ?_ ?_
         rotate_left
         ·intro w'
          go_simp
          with_reducible rfl
         rotate_left
         ·simp only [Act.put, zp6a, zp6b, zp6c, i64_w, i32_w]
          rfl
         refine take_ (i := 5) (N := some 33) (v := ?_) (a' := ?_) #[zt6,zt6,zt6,zt6,zt6,zt6,zt6,zt6,zt6,zt6,zt6,zf6,zf6,zf6,zf6,zf6,zf6] rfl rfl (take_ofW HT_.out HW_.out (by kernel_rfl)) (fun _ _ _ h => h) (Or.inl ⟨by rfl, ?_⟩) hHeld ?_ ?_
         rotate_left
         ·rintro w' ⟨s0, s1⟩
          go_simp
          with_reducible rfl
         rotate_left
         ·simp only [Act.put, zp6a, zp6b, zp6c, i64_w, i32_w]
          rfl
         refine take_ (i := 11) (N := some 39) (v := ?_) (a' := ?_) #[zt6,zt6,zt6,zt6,zt6,zt6,zt6,zt6,zt6,zt6,zt6,zt6,zf6,zf6,zf6,zf6,zf6] rfl rfl (take_ofW HT_.out HW_.out (by kernel_rfl)) (fun _ _ _ h => h) (Or.inl ⟨by rfl, ?_⟩) hHeld ?_ ?_
         rotate_left
         ·rintro w' ⟨s0, s1⟩
          go_simp
          with_reducible rfl
         rotate_left
         ·simp only [Act.put, zp6a, zp6b, zp6c, i64_w, i32_w]
          rfl
         refine one_ (i := 12) (N := some 40) #[zt6,zt6,zt6,zt6,zt6,zt6,zt6,zt6,zt6,zt6,zt6,zt6,zt6,zf6,zf6,zf6,zf6] rfl rfl (one_of HT_.out (by kernel_rfl)) (by decide) (fun K hK => ?_)
         refine goes_ Try.func51 (by kernel_rfl) rfl #[.slice A708_0 ((rd_T39 l0 x4_1).f0).length c708_0, .slice A709_0 ((rd_T39 l0 (ji15)).f0).length c709_0] (by rfl) rfl rfl (by (try simp only [zm6a, zm6b, zm6c]); first | done | (simp only [hji15]; rfl) | rfl | (simp only [zm6d, zm6e]; rfl)) ?_
         with_reducible refine (y_g.calls k1 _ _ ((rd_T39 l0 x4_1).f0) _ _ ((rd_T39 l0 (ji15)).f0) t710 _ ?side1 ?side2 ?side3 ?side4 A18.out).mono ?_
         (case side1 => repeat (first | exact (Kd.C_below HR708_0.out HB.out) | (with_reducible refine Kd.C_alloc ?_ _) | (with_reducible refine Kd.C_drewN ?_ _) | (with_reducible refine Kd.C_drew ?_)))
         (case side2 => exact HC708_0.out)
         (case side3 => repeat (first | exact (Kd.C_below HR709_0.out HB.out) | (with_reducible refine Kd.C_alloc ?_ _) | (with_reducible refine Kd.C_drewN ?_ _) | (with_reducible refine Kd.C_drew ?_)))
         (case side4 => exact HC709_0.out)
         rintro e w21 ⟨v711, rfl, ho0, hb⟩
         refine ⟨_, rfl, ?_⟩
         have n0_ := z6a (Kd.S_elder' (by (with_reducible repeat (first | apply Kd.S_alloc | apply Kd.S_drewN | apply Kd.S_drew)); exact HO_3.out) (Kd.R_base ho0) hb)
         have n1_ := z6a (Kd.R_lower ho0 (below_size (by repeat (first | (with_reducible first | exact HB.out | apply z6d | apply z6b | apply z6c) | exact HB.out))))
         have n2_ := z6a (below_step (by repeat (first | (with_reducible first | exact HB.out | apply z6d | apply z6b | apply z6c) | exact HB.out)) hb)
         clear HO_3
         clear HB
         have HO_3 := n0_
         have HO712 := n1_
         have HB := n2_
         clear n0_ n1_ n2_
         (try clear hb)
         (try clear hb2)
         (try clear hk)
         (try clear hi)
         (try clear ho0)
         obtain ⟨Ao22, co22, eo22⟩ := Kd.R_slice HO712.out
         (first | subst eo22 | (injection eo22 with f1_ f2_ f3_; have f4_ := f1_.symm; have f5_ := f3_.symm; clear f1_ f2_ f3_; subst f4_; subst f5_))
         refine hK.out _ _ ⟨((HB.out.cell (z6e w _ hw708_0)).trans hw708_0), ((HB.out.cell (z6e w _ hw709_0)).trans hw709_0)⟩ (fun hHeld => ?_)
         clear hK K
         refine norm_ (a' := ?_) ?_ ?_
         rotate_left
         ·show Act.put _ (some 40) _ = _
          simp only [Act.put, zp6a, zp6b, zp6c, i64_w, i32_w]
          rfl
         refine pure_ (i := 13) (N := some 41) (v := ?_) (a' := ?_) #[zt6,zt6,zt6,zt6,zt6,zt6,zt6,zt6,zt6,zt6,zt6,zt6,zt6,zt6,zf6,zf6,zf6] rfl rfl (any_of HT_.out (by kernel_rfl)) (fun _ _ _ h => h) (Or.inl ⟨by rfl, ?_⟩) ?_ ?_
         rotate_left
         ·intro w'
          go_simp
          with_reducible rfl
         rotate_left
         ·simp only [Act.put, zp6a, zp6b, zp6c, i64_w, i32_w]
          rfl
         refine one_ (i := 14) (N := some 42) #[zt6,zt6,zt6,zt6,zt6,zt6,zt6,zt6,zt6,zt6,zt6,zt6,zt6,zt6,zt6,zf6,zf6] rfl rfl (one_of HT_.out (by kernel_rfl)) (by decide) (fun K hK => ?_)
         refine value_ (w1 := ?_) (v := ?_) (by rfl) rfl ?_ ?_
         rotate_left 2
         ·go_simp
          constructor
          ·rfl
          ·rfl
         refine hK.out _ _ ⟨(World.cell?_alloc_lt _ _ _ (z6e _ _ (((HB.out.cell (z6e w _ hw708_0)).trans hw708_0)))).trans (((HB.out.cell (z6e w _ hw708_0)).trans hw708_0)), (World.cell?_alloc_lt _ _ _ (z6e _ _ (((HB.out.cell (z6e w _ hw709_0)).trans hw709_0)))).trans (((HB.out.cell (z6e w _ hw709_0)).trans hw709_0))⟩ (fun hHeld => ?_)
         clear hK K
         refine norm_ (a' := ?_) ?_ ?_
         rotate_left
         ·show Act.put _ (some 42) _ = _
          simp only [Act.put, zp6a, zp6b, zp6c, i64_w, i32_w]
          rfl
         refine one_ (i := 15) (N := some 43) #[zt6,zt6,zt6,zt6,zt6,zt6,zt6,zt6,zt6,zt6,zt6,zt6,zt6,zt6,zt6,zt6,zf6] rfl rfl (one_of HT_.out (by kernel_rfl)) (by decide) (fun K hK => ?_)
         refine Kd.S_append_step k39 (w0 := w) w.heap.size (by rfl) (.tmp 28) (.tmp 42) 27 39 (.agg #[(.slice none 0 0)]) 24 rfl Try.underlying27 info39 rfl (by decide) (by omega) u3 x3_1 (⟨t710⟩ : S39) [.slice Ao22 t710.length co22] (fun _ => True) (fun k_ => some k_ = (.slice Ao22 t710.length co22 : Value).ownBlock) rfl rfl ?aP (fun k_ hk_ => ((Kd.R_mono (ok' := fun k_ => ((fun _ => True)) k_ ∧ some k_ ≠ (u3 : Value).ownBlock) (Kd.R_apart' (HO712.out) (Kd.S_typed HO_3.out) (by decide)) (fun k_ hk => ⟨trivial, hk.2⟩))).1 k_ hk_.symm) ?aF ?aO ?aB ?aS ?aL ?_
         (case aP => exact k39_mkM _ _ _ (⟨t710⟩ : S39) (Kd.R_mono (Kd.R_tight rfl (Kd.R_mono (ok' := fun k_ => ((fun _ => True)) k_ ∧ some k_ ≠ (u3 : Value).ownBlock) (Kd.R_apart' (HO712.out) (Kd.S_typed HO_3.out) (by decide)) (fun k_ hk => ⟨trivial, hk.2⟩))) (fun _ h_ => h_)))
         (case aB => exact (by repeat (first | (with_reducible first | exact HB.out | apply z6d | apply z6b | apply z6c) | exact HB.out)))
         (case aF => exact (fun _ _ => trivial))
         (case aO => exact (by (with_reducible repeat (first | apply Kd.S_alloc | apply Kd.S_drewN | apply Kd.S_drew)); exact Kd.S_mono HO_3.out (fun k_ hk => ⟨trivial, fun e_ => hk.2 e_⟩)))
         (case aS => exact (below_size (by repeat (first | (with_reducible first | exact HB.out | apply z6d | apply z6b | apply z6c) | exact HB.out))))
         (case aL => have := LMc19.out; omega)
         intro v714 w23 ho hb hg hat
         rw [← Ny713.out] at ho
         have n0_ := z6a (hb)
         have n1_ := z6a (ho)
         clear HB
         clear HO_3
         clear HO712
         have HB := n0_
         have HO715 := n1_
         clear n0_ n1_
         clear ho hb hg hat
         refine hK.out _ _ ⟨((HB.out.cell (z6e w _ hw708_0)).trans hw708_0), ((HB.out.cell (z6e w _ hw709_0)).trans hw709_0)⟩ (fun hHeld => ?_)
         clear hK K
         refine norm_ (a' := ?_) ?_ ?_
         rotate_left
         ·show Act.put _ (some 43) _ = _
          simp only [Act.put, zp6a, zp6b, zp6c, i64_w, i32_w]
          rfl
         refine pure_ (i := 16) (N := some 3) (v := ?_) (a' := ?_) #[zt6,zt6,zt6,zt6,zt6,zt6,zt6,zt6,zt6,zt6,zt6,zt6,zt6,zt6,zt6,zt6,zt6] rfl rfl (any_of HT_.out (by kernel_rfl)) (fun _ _ _ h => h) (Or.inl ⟨by rfl, ?_⟩) ?_ ?_
         rotate_left
         ·intro w'
          go_simp
          with_reducible rfl
         rotate_left
         ·simp only [Act.put, zp6a, zp6b, zp6c, i64_w, i32_w]
          rfl
         refine done_ (done_of HT_.out (by kernel_rfl)) ?_
         try go_wp2
         go_roundg k1
         case measure => have := HK1.out; omega
         case rel => exact ⟨(y713), (wrap64 (x4_1 + 2)), (by first | rfl | (simp; done) | (simp [*]; done)), H', ⟨by have := HK1.out; omega⟩, ⟨by (with_reducible repeat (first | apply Kd.S_alloc | apply Kd.S_drewN | apply Kd.S_drew)); exact HO715.out⟩, ⟨by repeat (first | (with_reducible first | exact HB.out | apply z6d | apply z6b | apply z6c) | exact HB.out)⟩⟩
        ·rw [if_neg c19] at H
         exact absurd H (by simp)
       ·rw [if_neg c17] at H
        exact absurd H (by simp)
      ·rw [if_neg c16] at H
       exact absurd H (by simp)
     ·rw [if_neg c14] at H
      exact absurd H (by simp)
   ·rw [if_neg c4] at H
    have c4b0 : decide (x4_1 < (l0.length : Int)) = false := decide_eq_false c4
    clear c4
    obtain rfl := Option.some.inj H
    go_wp2
    go_ret
    exact ⟨_, by first | rfl | (simp [errW_none, errW_some] <;> rfl) | (simp [*, errW_none, errW_some] <;> rfl), by (with_reducible repeat (first | apply Kd.S_alloc | apply Kd.S_drewN | apply Kd.S_drew)); exact HO_3.out, by repeat (first | (with_reducible first | exact HB.out | apply z6d | apply z6b | apply z6c) | exact HB.out)⟩
def y_cb.l0 : Nat → List (S39) → Int → Option ((List (S71)) × Int × Bool)
 | 0, _, _ => none
 | k + 1, x5, x6 => if (x5.length : Int) > 1 then ((y_r.f k x5).bind fun t720 => (y_cb.l0 k t720 (wrap64 (x6 + 1)))) else (if (x5.length : Int) = 0 then (some ((([] : List (S71))), 0, true)) else ((some (([] : List (S71)) : List (S71))).bind fun y726 => (if 0 < (x5.length : Int) then (if y726.length + ((rd_T39 x5 0).f0).length < 5864062014805 then (some ((y726 ++ ((rd_T39 x5 0).f0)), x6, true)) else (none)) else (none))))
def y_cb.f (k : Nat) (l0 : List (S39)) : Option ((List (S71)) × Int × Bool) := (y_bb.f k l0).bind fun t716 => (if t716 = true then (y_cb.l0 k l0 0) else (some ((([] : List (S71))), 0, false)))
theorem y_cb.calls (k : Nat) (P0_ : Nat → Prop) (A0 : Option Addr) (c0 : Nat) (l0 : List (S39)) (r1 : List (S71)) (r2 : Int) (r3 : Bool) (w : World) (hs0 : Kd.V k39 39 w w.heap.size (fun k_ => P0_ k_) (.slice A0 l0.length c0) l0) (h : y_cb.f k l0 = some (r1, r2, r3)) :
  Calls Try.prog 41 #[.slice A0 l0.length c0] w fun e w' => ∃ v0_ : Value, e = .returned (.tuple #[v0_, .int .i64 r2, .bool r3]) ∧ Kd.R k71 71 w' w.heap.size (fun k_ => (w.heap.size ≤ k_)) v0_ r1 ∧ Below w.heap.size w w' := by
 have HO0 := z6a (show Kd.V k39 39 w w.heap.size (fun k_ => (P0_ k_ ∨ w.heap.size ≤ k_)) (.slice A0 l0.length c0) l0 from Kd.V_mono hs0 (fun k_ hk => .inl hk))
 have HB := z6a (Below.refl w.heap.size w)
 have H := h
 unfold y_cb.f at H
 clear h
 replace H := z6f.mp H
 obtain ⟨t716, A20, H⟩ := H
 have A2 := z6a A20
 clear A20
 by_cases c3 : t716 = true
 ·subst c3
  rw [if_pos rfl] at H
  have H' := z6a H
  clear H
  go_enter Try.func41, Try.ntmps41
  go_wp2_with (first | ((with_reducible refine gate_callee (f := 23) rfl ?_); refine goesL_ (some 8) rfl rfl Try.func23 (by kernel_rfl) rfl #[.slice A0 l0.length c0] rfl (by (try simp only [zm6a, zm6b, zm6c]); first | done | rfl | (simp only [zm6d, zm6e]; rfl)) ?_; (with_reducible refine (y_bb.calls k _ _ l0 true _ ?side1 ?side2 A2.out).mono ?_); (case side1 => repeat (first | exact (Kd.V_reads' HO0.out).2.2 | (with_reducible refine Kd.C_alloc ?_ _) | (with_reducible refine Kd.C_drewN ?_ _) | (with_reducible refine Kd.C_drew ?_))); (case side2 => exact (Kd.V_reads' HO0.out).2.1); rintro e w4 ⟨rfl, hb⟩; refine ⟨_, rfl, ?_⟩; have n0_ := z6a (Kd.V_below (by (with_reducible repeat (first | apply Kd.V_alloc | apply Kd.V_drewN | apply Kd.V_drew)); exact HO0.out) hb); have n1_ := z6a (below_step (by repeat (first | (with_reducible first | exact HB.out | apply z6d | apply z6b | apply z6c) | exact HB.out)) hb); clear HO0; clear HB; have HO0 := n0_; have HB := n1_; clear n0_ n1_; (try clear hb); (try clear hb2); (try clear hk); (try clear hi)))
  go_loopg [5, 6] k (fun kq v5 v6 w' => ∃ (x5_1 : List (S39)) (x6_1 : Int), v6 = .int .i64 x6_1 ∧ Aside0 (y_cb.l0 kq x5_1 x6_1 = some (r1, r2, r3)) ∧ Aside0 (kq ≤ k) ∧ Aside0 (Kd.V k39 39 w' w.heap.size (fun k_ => (P0_ k_ ∨ w.heap.size ≤ k_)) v5 x5_1) ∧ Aside0 (Below w.heap.size w w'))
  case atStart => exact ⟨(l0), (0), (by first | rfl | (simp; done) | (simp [*]; done)), H', ⟨Nat.le_refl _⟩, ⟨by (with_reducible repeat (first | apply Kd.V_alloc | apply Kd.V_drewN | apply Kd.V_drew)); exact HO0.out⟩, ⟨by repeat (first | (with_reducible first | exact HB.out | apply z6d | apply z6b | apply z6c) | exact HB.out)⟩⟩
  case round =>
   clear H'
   try clear c2
   try clear p2
   try clear c3
   try clear c4
   obtain ⟨x5_1, x6_1, rfl, HA, HK1, HO_5, HB⟩ := hrel
   cases gk with
   | zero => exact absurd HA.out (by simp [y_cb.l0])
   | succ k1 =>
    have H := HA.out
    clear HA
    simp only [y_cb.l0] at H
    by_cases c5 : (x5_1.length : Int) > 1
    ·rw [if_pos c5] at H
     have c5b0 : decide (1 < (x5_1.length : Int)) = true := decide_eq_true c5
     have c5b1 : decide (1 < x5_1.length) = true := decide_eq_true (by omega)
     clear c5
     replace H := z6f.mp H
     obtain ⟨t720, A60, H⟩ := H
     have A6 := z6a A60
     clear A60
     have H' := z6a H
     clear H
     obtain ⟨Ao7, co7, eo7⟩ := Kd.V_slice HO_5.out
     subst eo7
     go_wp2_with (first | ((with_reducible refine gate_callee (f := 54) rfl ?_); refine goesL_ (some 16) rfl rfl Try.func54 (by kernel_rfl) rfl #[.slice Ao7 x5_1.length co7] rfl (by (try simp only [zm6a, zm6b, zm6c]); first | done | rfl | (simp only [zm6d, zm6e]; rfl)) ?_; (with_reducible refine (y_r.calls k1 _ _ x5_1 t720 _ ?side1 ?side2 A6.out).mono ?_); (case side1 => repeat (first | exact (Kd.V_reads' HO_5.out).2.2 | (with_reducible refine Kd.C_alloc ?_ _) | (with_reducible refine Kd.C_drewN ?_ _) | (with_reducible refine Kd.C_drew ?_))); (case side2 => exact (Kd.V_reads' HO_5.out).2.1); rintro e w8 ⟨v721, rfl, ho0, hb⟩; refine ⟨_, rfl, ?_⟩; have n0_ := z6a (Kd.V_elder' (by (with_reducible repeat (first | apply Kd.V_alloc | apply Kd.V_drewN | apply Kd.V_drew)); exact HO_5.out) (Kd.S_base ho0) hb); have n1_ := z6a (Kd.S_lower (Kd.S_newM (M := fun k_ => (w.heap.size ≤ k_)) ho0 (below_size (by repeat (first | (with_reducible first | exact HB.out | apply z6d | apply z6b | apply z6c) | exact HB.out))) (fun k_ h_ => h_)) (below_size (by repeat (first | (with_reducible first | exact HB.out | apply z6d | apply z6b | apply z6c) | exact HB.out)))); have n2_ := z6a (below_step (by repeat (first | (with_reducible first | exact HB.out | apply z6d | apply z6b | apply z6c) | exact HB.out)) hb); clear HO_5; clear HB; have HO_5 := n0_; have HO722 := n1_; have HB := n2_; clear n0_ n1_ n2_; (try clear hb); (try clear hb2); (try clear hk); (try clear hi); (try clear ho0)))
     go_roundg k1
     case measure => have := HK1.out; omega
     case rel => exact ⟨(t720), (wrap64 (x6_1 + 1)), (by first | rfl | (simp; done) | (simp [*]; done)), H', ⟨by have := HK1.out; omega⟩, ⟨Kd.V_mono (Kd.S_V (by (with_reducible repeat (first | apply Kd.S_alloc | apply Kd.S_drewN | apply Kd.S_drew)); exact Kd.S_mono HO722.out (fun _ hk => hk.1))) (fun k_ hk => by first | exact ⟨(.inr (hk.1)), hk.2⟩ | exact (.inr (hk)))⟩, ⟨by repeat (first | (with_reducible first | exact HB.out | apply z6d | apply z6b | apply z6c) | exact HB.out)⟩⟩
    ·rw [if_neg c5] at H
     have c5b0 : decide (1 < (x5_1.length : Int)) = false := decide_eq_false c5
     have c5b1 : decide (1 < x5_1.length) = false := decide_eq_false (by omega)
     clear c5
     by_cases c9 : (x5_1.length : Int) = 0
     ·rw [if_pos c9] at H
      have c9b0 : ((x5_1.length : Int) == 0) = true := beq_iff_eq.mpr c9
      have c9b1 : ((x5_1.length : Int) != 0) = false := bne_eq_false_iff_eq.mpr c9
      clear c9
      obtain ⟨y723, hy723⟩ : ∃ y_ : List (S71), y_ = (([] : List (S71))) := ⟨_, rfl⟩
      replace H : (some (y723, 0, true)) = some (r1, r2, r3) := by first | (rw [hy723]; with_reducible exact H) | (have H2_ := (Option.bind_some _ _).symm.trans H; rw [hy723]; with_reducible exact H2_) | (have H2_ := (Option.bind_some _ _).symm.trans H; with_reducible exact H2_) | with_reducible exact H | (rw [hy723]; exact H) | exact H
      have Ny723 := z6a hy723
      clear hy723
      simp only [Option.some.injEq, Prod.mk.injEq] at H
      obtain ⟨rfl, rfl, rfl⟩ := H
      obtain ⟨Ao10, co10, eo10⟩ := Kd.V_slice HO_5.out
      subst eo10
      go_wp2_with (first | ((with_reducible refine gate_dst (N := 22) rfl ?_); refine Kd.R_lit k71 _ 71 ?hg (N := 22) ?hd (xs := ([] : List (S71))) (inner := []) (ok := fun _ => True) (okp := fun _ => True) ?hr ?hp (fun _ hk => hk) trivial (Below.refl _ _) (Nat.le_refl _) (by simp) ?_; (case hd => rfl); (case hg => rfl); (case hr => first | (go_simp; done) | (go_simp; rfl)); (case hp => exact (Reps.none _ _)); intro v724 w11 ho12 hb hg_ hnew_; clear hg_ hnew_; (first | rw [← Ny723.out] at ho12 | (simp only [Int.reduceToNat] at ho12; rw [← Ny723.out] at ho12)); have n0_ := z6a (Kd.V_elder' (by (with_reducible repeat (first | apply Kd.V_alloc | apply Kd.V_drewN | apply Kd.V_drew)); exact HO_5.out) (Kd.R_base ho12) hb); have n1_ := z6a (Kd.R_lower (Kd.R_newM (M := fun k_ => (w.heap.size ≤ k_)) ho12 (below_size (by repeat (first | (with_reducible first | exact HB.out | apply z6d | apply z6b | apply z6c) | exact HB.out))) (fun k_ h_ => h_)) (below_size (by repeat (first | (with_reducible first | exact HB.out | apply z6d | apply z6b | apply z6c) | exact HB.out)))); have n2_ := z6a (below_step (by repeat (first | (with_reducible first | exact HB.out | apply z6d | apply z6b | apply z6c) | exact HB.out)) hb); clear HO_5; clear HB; have HO_5 := n0_; have HO725 := n1_; have HB := n2_; clear n0_ n1_ n2_; clear hb ho12))
      go_ret3
      exact ⟨_, by first | rfl | (simp [errW_none, errW_some] <;> rfl) | (simp [*, errW_none, errW_some] <;> rfl), by (with_reducible repeat (first | apply Kd.R_alloc | apply Kd.R_drewN | apply Kd.R_drew)); exact Kd.R_mono HO725.out (fun _ hk => hk.1), by repeat (first | (with_reducible first | exact HB.out | apply z6d | apply z6b | apply z6c) | exact HB.out)⟩
     ·rw [if_neg c9] at H
      have c9b0 : ((x5_1.length : Int) == 0) = false := beq_eq_false_iff_ne.mpr c9
      have c9b1 : ((x5_1.length : Int) != 0) = true := bne_iff_ne.mpr c9
      have c9b2 : ¬ (x5_1 = []) := fun h_ => c9 (by rw [h_]; rfl)
      obtain ⟨y726, hy726⟩ : ∃ y_ : List (S71), y_ = (([] : List (S71))) := ⟨_, rfl⟩
      replace H : (if 0 < (x5_1.length : Int) then (if y726.length + ((rd_T39 x5_1 0).f0).length < 5864062014805 then (some ((y726 ++ ((rd_T39 x5_1 0).f0)), x6_1, true)) else (none)) else (none)) = some (r1, r2, r3) := by first | (rw [hy726]; with_reducible exact H) | (have H2_ := (Option.bind_some _ _).symm.trans H; rw [hy726]; with_reducible exact H2_) | (have H2_ := (Option.bind_some _ _).symm.trans H; with_reducible exact H2_) | with_reducible exact H | (rw [hy726]; exact H) | exact H
      have Ny726 := z6a hy726
      clear hy726
      by_cases c13 : 0 < (x5_1.length : Int)
      ·rw [if_pos c13] at H
       have c13b0 : decide (0 < (x5_1.length : Int)) = true := decide_eq_true c13
       have c13b1 : decide (0 < x5_1.length) = true := decide_eq_true (by omega)
       clear c13
       by_cases c14 : y726.length + ((rd_T39 x5_1 0).f0).length < 5864062014805
       ·rw [if_pos c14] at H
        have LMc14 := z6a c14
        clear c14
        obtain ⟨y730, hy730⟩ : ∃ y_ : List (S71), y_ = (y726 ++ ((rd_T39 x5_1 0).f0)) := ⟨_, rfl⟩
        replace H : (some (y730, x6_1, true)) = some (r1, r2, r3) := by first | (rw [hy730]; with_reducible exact H) | (have H2_ := (Option.bind_some _ _).symm.trans H; rw [hy730]; with_reducible exact H2_) | (have H2_ := (Option.bind_some _ _).symm.trans H; with_reducible exact H2_) | with_reducible exact H | (rw [hy730]; exact H) | exact H
        have Ny730 := z6a hy730
        clear hy730
        simp only [Option.some.injEq, Prod.mk.injEq] at H
        obtain ⟨rfl, rfl, rfl⟩ := H
        obtain ⟨Ao15, co15, eo15⟩ := Kd.V_slice HO_5.out
        subst eo15
        go_wp2_with (first | ((with_reducible refine gate_dst (N := 23) rfl ?_); refine Kd.R_lit k71 _ 71 ?hg (N := 23) ?hd (xs := ([] : List (S71))) (inner := []) (ok := fun _ => True) (okp := fun _ => True) ?hr ?hp (fun _ hk => hk) trivial (Below.refl _ _) (Nat.le_refl _) (by simp) ?_; (case hd => rfl); (case hg => rfl); (case hr => first | (go_simp; done) | (go_simp; rfl)); (case hp => exact (Reps.none _ _)); intro v727 w16 ho17 hb hg_ hnew_; clear hg_ hnew_; (first | rw [← Ny726.out] at ho17 | (simp only [Int.reduceToNat] at ho17; rw [← Ny726.out] at ho17)); have n0_ := z6a (Kd.V_elder' (by (with_reducible repeat (first | apply Kd.V_alloc | apply Kd.V_drewN | apply Kd.V_drew)); exact HO_5.out) (Kd.R_base ho17) hb); have n1_ := z6a (Kd.R_lower (Kd.R_newM (M := fun k_ => (w.heap.size ≤ k_)) ho17 (below_size (by repeat (first | (with_reducible first | exact HB.out | apply z6d | apply z6b | apply z6c) | exact HB.out))) (fun k_ h_ => h_)) (below_size (by repeat (first | (with_reducible first | exact HB.out | apply z6d | apply z6b | apply z6c) | exact HB.out)))); have n2_ := z6a (below_step (by repeat (first | (with_reducible first | exact HB.out | apply z6d | apply z6b | apply z6c) | exact HB.out)) hb); clear HO_5; clear HB; have HO_5 := n0_; have HO728 := n1_; have HB := n2_; clear n0_ n1_ n2_; clear hb ho17; have p729 : 0 ≤ (0 : Int) := (by omega); have q729 : 0 < (x5_1.length : Int) := of_decide_eq_true (by first | (with_reducible assumption) | assumption); obtain ⟨ad729, A729_0, c729_0, e729, hx729_0, hl729_0, hi729_0⟩ := at_T39 (Kd.V_reads' HO_5.out).2.2 0 p729 q729; cases e729; obtain ⟨ce729, hce729, hMe729, hcc729⟩ := Kd.V_get HO_5.out z39 0 p729 (by first | exact q729 | exact of_decide_eq_true (by first | (with_reducible assumption) | assumption) | (have e_ := (Kd.V_reads' HO_5.out).1; omega)); obtain ⟨ua729_0, uc729_0, rfl, ul729_0, ge729_0⟩ := k39_openF hMe729; have hv729_0 := hcc729 0 _ rfl; rw [Nat.add_zero, show (k39).sz = 1 from rfl, Nat.mul_one] at hv729_0; replace hv729_0 := Option.some.inj (hv729_0.symm.trans hx729_0); injection hv729_0 with hva_ hvn_ hvc_; rw [hva_] at ge729_0; rw [hvc_] at ul729_0; have HL729_0 := z6a (show Kd.V k71 71 _ w.heap.size _ _ ((rd_T39 x5_1 0).f0) from Kd.V_mk ul729_0 ge729_0); clear hva_ hvn_ hvc_ ge729_0 ul729_0; clear hcc729 hce729; have qi729 : (0 < x5_1.length) = True := eq_true (by omega); (try rw [show ((0 : Int)).toNat = 0 from rfl] at hx729_0); (try rw [Addr.add_zero'] at hx729_0); have HR729_0 := z6a hi729_0; have HC729_0 := z6a hl729_0; clear hi729_0 hl729_0; replace p729 := eq_true p729; replace q729 := eq_true q729) | ((with_reducible refine gate_builtin (b := .append) (xs := #[.tmp 23, .tmp 27]) rfl ?_); at_builtin; refine Kd.R_append_rows k71 (w0 := w) w.heap.size rfl (.tmp 23) (.tmp 27) 24 71 (.agg #[(.int .i64 0), (.int .i64 0), (.int .i64 0)]) 24 rfl Try.underlying24 info71 rfl (by decide) (by omega) v727 y726 ((rd_T39 x5_1 0).f0) _ _ _ (fun k_ => (w.heap.size ≤ k_)) (fun _ => False) rfl rfl ?aO ?aR (fun _ _ h => h) (fun _ h => h.elim) ?aF ?aB ?aS ?aL ?_; (case aR => repeat (first | exact (by repeat (first | (with_reducible exact HR729_0.out) | (with_reducible refine Kd.C_alloc ?_ _) | (with_reducible refine Kd.C_drewN ?_ _) | (with_reducible refine Kd.C_drew ?_) | exact HR729_0.out)) | (with_reducible refine Kd.C_alloc ?_ _) | (with_reducible refine Kd.C_drewN ?_ _) | (with_reducible refine Kd.C_drew ?_))); (case aB => exact (by repeat (first | (with_reducible first | exact HB.out | apply z6d | apply z6b | apply z6c) | exact HB.out))); (case aF => exact (fun k_ hk => (Nat.le_trans (below_size (by repeat (first | (with_reducible first | exact HB.out | apply z6d | apply z6b | apply z6c) | exact HB.out))) hk))); (case aO => exact (by (with_reducible repeat (first | apply Kd.R_alloc | apply Kd.R_drewN | apply Kd.R_drew)); exact Kd.R_mono HO728.out (fun _ hk => hk.1))); (case aS => exact (below_size (by repeat (first | (with_reducible first | exact HB.out | apply z6d | apply z6b | apply z6c) | exact HB.out)))); (case aL => have := LMc14.out; omega); intro v731 w18 ho hb hg hat; rw [← Ny730.out] at ho; have n0_ := z6a (Kd.V_afterv (ok := (fun k_ => (P0_ k_ ∨ w.heap.size ≤ k_))) (by (with_reducible repeat (first | apply Kd.V_alloc | apply Kd.V_drewN | apply Kd.V_drew)); exact HO_5.out) hg hat); have n1_ := z6a (Kd.V_afterv (ok := (fun k_ => (P0_ k_ ∨ w.heap.size ≤ k_))) (by (with_reducible repeat (first | apply Kd.V_alloc | apply Kd.V_drewN | apply Kd.V_drew)); exact HL729_0.out) hg hat); have n2_ := z6a (hb); have n3_ := z6a (ho); clear HO_5; clear HL729_0; clear HB; clear HO728; have HO_5 := n0_; have HL729_0 := n1_; have HB := n2_; have HO732 := n3_; clear n0_ n1_ n2_ n3_; clear ho hb hg hat))
        go_ret3
        exact ⟨_, by first | rfl | (simp [errW_none, errW_some] <;> rfl) | (simp [*, errW_none, errW_some] <;> rfl), by (with_reducible repeat (first | apply Kd.R_alloc | apply Kd.R_drewN | apply Kd.R_drew)); exact HO732.out, by repeat (first | (with_reducible first | exact HB.out | apply z6d | apply z6b | apply z6c) | exact HB.out)⟩
       ·rw [if_neg c14] at H
        exact absurd H (by simp)
      ·rw [if_neg c13] at H
       exact absurd H (by simp)
 ·replace c3 := Bool.eq_false_iff.mpr c3
  subst c3
  have H1 : (some ((([] : List (S71))), 0, false)) = some (r1, r2, r3) := by rw [if_neg (show ¬ (false = true) by decide)] at H; exact H
  clear H
  have H := H1
  clear H1
  obtain ⟨y717, hy717⟩ : ∃ y_ : List (S71), y_ = (([] : List (S71))) := ⟨_, rfl⟩
  replace H : (some (y717, 0, false)) = some (r1, r2, r3) := by first | (rw [hy717]; with_reducible exact H) | (have H2_ := (Option.bind_some _ _).symm.trans H; rw [hy717]; with_reducible exact H2_) | (have H2_ := (Option.bind_some _ _).symm.trans H; with_reducible exact H2_) | with_reducible exact H | (rw [hy717]; exact H) | exact H
  have Ny717 := z6a hy717
  clear hy717
  simp only [Option.some.injEq, Prod.mk.injEq] at H
  obtain ⟨rfl, rfl, rfl⟩ := H
  go_enter Try.func41, Try.ntmps41
  go_wp2_with (first | ((with_reducible refine gate_callee (f := 23) rfl ?_); refine goesL_ (some 8) rfl rfl Try.func23 (by kernel_rfl) rfl #[.slice A0 l0.length c0] rfl (by (try simp only [zm6a, zm6b, zm6c]); first | done | rfl | (simp only [zm6d, zm6e]; rfl)) ?_; (with_reducible refine (y_bb.calls k _ _ l0 false _ ?side1 ?side2 A2.out).mono ?_); (case side1 => repeat (first | exact (Kd.V_reads' HO0.out).2.2 | (with_reducible refine Kd.C_alloc ?_ _) | (with_reducible refine Kd.C_drewN ?_ _) | (with_reducible refine Kd.C_drew ?_))); (case side2 => exact (Kd.V_reads' HO0.out).2.1); rintro e w19 ⟨rfl, hb⟩; refine ⟨_, rfl, ?_⟩; have n0_ := z6a (Kd.V_below (by (with_reducible repeat (first | apply Kd.V_alloc | apply Kd.V_drewN | apply Kd.V_drew)); exact HO0.out) hb); have n1_ := z6a (below_step (by repeat (first | (with_reducible first | exact HB.out | apply z6d | apply z6b | apply z6c) | exact HB.out)) hb); clear HO0; clear HB; have HO0 := n0_; have HB := n1_; clear n0_ n1_; (try clear hb); (try clear hb2); (try clear hk); (try clear hi)) | ((with_reducible refine gate_dst (N := 10) rfl ?_); refine Kd.R_lit k71 _ 71 ?hg (N := 10) ?hd (xs := ([] : List (S71))) (inner := []) (ok := fun _ => True) (okp := fun _ => True) ?hr ?hp (fun _ hk => hk) trivial (Below.refl _ _) (Nat.le_refl _) (by simp) ?_; (case hd => rfl); (case hg => rfl); (case hr => first | (go_simp; done) | (go_simp; rfl)); (case hp => exact (Reps.none _ _)); intro v718 w20 ho21 hb hg_ hnew_; clear hg_ hnew_; (first | rw [← Ny717.out] at ho21 | (simp only [Int.reduceToNat] at ho21; rw [← Ny717.out] at ho21)); have n0_ := z6a (Kd.V_elder' (by (with_reducible repeat (first | apply Kd.V_alloc | apply Kd.V_drewN | apply Kd.V_drew)); exact HO0.out) (Kd.R_base ho21) hb); have n1_ := z6a (Kd.R_lower (Kd.R_newM (M := fun k_ => (w.heap.size ≤ k_)) ho21 (below_size (by repeat (first | (with_reducible first | exact HB.out | apply z6d | apply z6b | apply z6c) | exact HB.out))) (fun k_ h_ => h_)) (below_size (by repeat (first | (with_reducible first | exact HB.out | apply z6d | apply z6b | apply z6c) | exact HB.out)))); have n2_ := z6a (below_step (by repeat (first | (with_reducible first | exact HB.out | apply z6d | apply z6b | apply z6c) | exact HB.out)) hb); clear HO0; clear HB; have HO0 := n0_; have HO719 := n1_; have HB := n2_; clear n0_ n1_ n2_; clear hb ho21))
  go_ret3
  exact ⟨_, by first | rfl | (simp [errW_none, errW_some] <;> rfl) | (simp [*, errW_none, errW_some] <;> rfl), by (with_reducible repeat (first | apply Kd.R_alloc | apply Kd.R_drewN | apply Kd.R_drew)); exact Kd.R_mono HO719.out (fun _ hk => hk.1), by repeat (first | (with_reducible first | exact HB.out | apply z6d | apply z6b | apply z6c) | exact HB.out)⟩
def y_pb.f (k : Nat) (l0 : List (S71)) (a1 : Int) : Option ((List (S71)) × Int × Bool) := (y_b.f k l0 a1).bind fun bt733 => (if bt733.2 = true then ((y_cb.f k bt733.1).bind fun bt737 => ((y_v.f k l0).bind fun t742 => (some (bt737.1, wrap64 (t742 * (wrap64 (bt737.2.1 + 1))), true)))) else (some ((([] : List (S71))), 0, false)))
theorem y_pb.calls (k : Nat) (A0 : Option Addr) (c0 : Nat) (l0 : List (S71)) (a1 : Int) (r1 : List (S71)) (r2 : Int) (r3 : Bool) (w : World) (hr0 : Kd.C k71 w A0 l0.length l0) (hc0 : l0.length ≤ c0) (h : y_pb.f k l0 a1 = some (r1, r2, r3)) :
  Calls Try.prog 57 #[.slice A0 l0.length c0, .int .i64 a1] w fun e w' => ∃ v0_ : Value, e = .returned (.tuple #[v0_, .int .i64 r2, .bool r3]) ∧ Kd.R k71 71 w' w.heap.size (fun _ => True) v0_ r1 ∧ Below w.heap.size w w' := by
 have HR0 := z6a hr0
 have HC0 := z6a hc0
 clear hr0 hc0
 have HB := z6a (Below.refl w.heap.size w)
 have H := h
 unfold y_pb.f at H
 clear h
 replace H := z6f.mp H
 obtain ⟨⟨t733, t734⟩, A30, H⟩ := H
 replace H : (if t734 = true then ((y_cb.f k t733).bind fun bt737 => ((y_v.f k l0).bind fun t742 => (some (bt737.1, wrap64 (t742 * (wrap64 (bt737.2.1 + 1))), true)))) else (some ((([] : List (S71))), 0, false))) = some (r1, r2, r3) := H
 have A3 := z6a A30
 clear A30
 by_cases c4 : t734 = true
 ·subst c4
  rw [if_pos rfl] at H
  replace H := z6f.mp H
  obtain ⟨⟨t737, t740, t741⟩, A50, H⟩ := H
  replace H : ((y_v.f k l0).bind fun t742 => (some (t737, wrap64 (t742 * (wrap64 (t740 + 1))), true))) = some (r1, r2, r3) := H
  have A5 := z6a A50
  clear A50
  replace H := z6f.mp H
  obtain ⟨t742, A60, H⟩ := H
  have A6 := z6a A60
  clear A60
  simp only [Option.some.injEq, Prod.mk.injEq] at H
  obtain ⟨rfl, rfl, rfl⟩ := H
  go_enter Try.func57, Try.ntmps57
  go_wp2_with (first | ((with_reducible refine gate_callee (f := 18) rfl ?_); refine goesL_ (some 15) rfl rfl Try.func18 (by kernel_rfl) rfl #[.slice A0 l0.length c0, .int .i64 a1] rfl (by (try simp only [zm6a, zm6b, zm6c]); first | done | rfl | (simp only [zm6d, zm6e]; rfl)) ?_; (with_reducible refine (y_b.calls k _ _ l0 a1 t733 true _ ?side1 ?side2 A3.out).mono ?_); (case side1 => repeat (first | exact HR0.out | (with_reducible refine Kd.C_alloc ?_ _) | (with_reducible refine Kd.C_drewN ?_ _) | (with_reducible refine Kd.C_drew ?_))); (case side2 => exact HC0.out); rintro e w7 ⟨v735, rfl, ho0, hb⟩; refine ⟨_, rfl, ?_⟩; have n0_ := z6a (Kd.S_lower ho0 (below_size (by repeat (first | (with_reducible first | exact HB.out | apply z6d | apply z6b | apply z6c) | exact HB.out)))); have n1_ := z6a (below_step (by repeat (first | (with_reducible first | exact HB.out | apply z6d | apply z6b | apply z6c) | exact HB.out)) hb); clear HB; have HO736 := n0_; have HB := n1_; clear n0_ n1_; (try clear hb); (try clear hb2); (try clear hk); (try clear hi); (try clear ho0); obtain ⟨Ao8, co8, eo8⟩ := Kd.S_slice HO736.out; subst eo8) | ((with_reducible refine gate_callee (f := 41) rfl ?_); refine goesL_ (some 23) rfl rfl Try.func41 (by kernel_rfl) rfl #[.slice Ao8 t733.length co8] rfl (by (try simp only [zm6a, zm6b, zm6c]); first | done | rfl | (simp only [zm6d, zm6e]; rfl)) ?_; (with_reducible refine (y_cb.calls k (fun k_ => True) _ _ t733 t737 t740 t741 _ ?side1 A5.out).mono ?_); (case side1 => exact Kd.S_V (HO736.out)); rintro e w9 ⟨v738, rfl, ho0, hb⟩; refine ⟨_, rfl, ?_⟩; have n0_ := z6a (Kd.S_elder' (by (with_reducible repeat (first | apply Kd.S_alloc | apply Kd.S_drewN | apply Kd.S_drew)); exact HO736.out) (Kd.R_base ho0) hb); have n1_ := z6a (Kd.R_lower (Kd.R_mono (ok' := fun k_ => True) ho0 (fun _ hk_ => trivial)) (below_size (by repeat (first | (with_reducible first | exact HB.out | apply z6d | apply z6b | apply z6c) | exact HB.out)))); have n2_ := z6a (below_step (by repeat (first | (with_reducible first | exact HB.out | apply z6d | apply z6b | apply z6c) | exact HB.out)) hb); clear HO736; clear HB; have HO736 := n0_; have HO739 := n1_; have HB := n2_; clear n0_ n1_ n2_; (try clear hb); (try clear hb2); (try clear hk); (try clear hi); (try clear ho0)) | ((with_reducible refine gate_callee (f := 31) rfl ?_); refine goesL_ (some 29) rfl rfl Try.func31 (by kernel_rfl) rfl #[.slice A0 l0.length c0] rfl (by (try simp only [zm6a, zm6b, zm6c]); first | done | rfl | (simp only [zm6d, zm6e]; rfl)) ?_; (with_reducible refine (y_v.calls k _ _ l0 t742 _ ?side1 ?side2 A6.out).mono ?_); (case side1 => repeat (first | exact (Kd.C_below HR0.out HB.out) | (with_reducible refine Kd.C_alloc ?_ _) | (with_reducible refine Kd.C_drewN ?_ _) | (with_reducible refine Kd.C_drew ?_))); (case side2 => exact HC0.out); rintro e w10 ⟨rfl, hb⟩; refine ⟨_, rfl, ?_⟩; have n0_ := z6a (Kd.S_below (by (with_reducible repeat (first | apply Kd.S_alloc | apply Kd.S_drewN | apply Kd.S_drew)); exact HO736.out) hb); have n1_ := z6a (Kd.R_below (by (with_reducible repeat (first | apply Kd.R_alloc | apply Kd.R_drewN | apply Kd.R_drew)); exact HO739.out) hb); have n2_ := z6a (below_step (by repeat (first | (with_reducible first | exact HB.out | apply z6d | apply z6b | apply z6c) | exact HB.out)) hb); clear HO736; clear HO739; clear HB; have HO736 := n0_; have HO739 := n1_; have HB := n2_; clear n0_ n1_ n2_; (try clear hb); (try clear hb2); (try clear hk); (try clear hi)))
  go_ret3
  exact ⟨_, by first | rfl | (simp [errW_none, errW_some] <;> rfl) | (simp [*, errW_none, errW_some] <;> rfl), by (with_reducible repeat (first | apply Kd.R_alloc | apply Kd.R_drewN | apply Kd.R_drew)); exact HO739.out, by repeat (first | (with_reducible first | exact HB.out | apply z6d | apply z6b | apply z6c) | exact HB.out)⟩
 ·replace c4 := Bool.eq_false_iff.mpr c4
  subst c4
  have H1 : (some ((([] : List (S71))), 0, false)) = some (r1, r2, r3) := by rw [if_neg (show ¬ (false = true) by decide)] at H; exact H
  clear H
  have H := H1
  clear H1
  obtain ⟨y743, hy743⟩ : ∃ y_ : List (S71), y_ = (([] : List (S71))) := ⟨_, rfl⟩
  replace H : (some (y743, 0, false)) = some (r1, r2, r3) := by first | (rw [hy743]; with_reducible exact H) | (have H2_ := (Option.bind_some _ _).symm.trans H; rw [hy743]; with_reducible exact H2_) | (have H2_ := (Option.bind_some _ _).symm.trans H; with_reducible exact H2_) | with_reducible exact H | (rw [hy743]; exact H) | exact H
  have Ny743 := z6a hy743
  clear hy743
  simp only [Option.some.injEq, Prod.mk.injEq] at H
  obtain ⟨rfl, rfl, rfl⟩ := H
  go_enter Try.func57, Try.ntmps57
  go_wp2_with (first | ((with_reducible refine gate_callee (f := 18) rfl ?_); refine goesL_ (some 15) rfl rfl Try.func18 (by kernel_rfl) rfl #[.slice A0 l0.length c0, .int .i64 a1] rfl (by (try simp only [zm6a, zm6b, zm6c]); first | done | rfl | (simp only [zm6d, zm6e]; rfl)) ?_; (with_reducible refine (y_b.calls k _ _ l0 a1 t733 false _ ?side1 ?side2 A3.out).mono ?_); (case side1 => repeat (first | exact HR0.out | (with_reducible refine Kd.C_alloc ?_ _) | (with_reducible refine Kd.C_drewN ?_ _) | (with_reducible refine Kd.C_drew ?_))); (case side2 => exact HC0.out); rintro e w11 ⟨v735, rfl, ho0, hb⟩; refine ⟨_, rfl, ?_⟩; have n0_ := z6a (Kd.S_lower ho0 (below_size (by repeat (first | (with_reducible first | exact HB.out | apply z6d | apply z6b | apply z6c) | exact HB.out)))); have n1_ := z6a (below_step (by repeat (first | (with_reducible first | exact HB.out | apply z6d | apply z6b | apply z6c) | exact HB.out)) hb); clear HB; have HO736 := n0_; have HB := n1_; clear n0_ n1_; (try clear hb); (try clear hb2); (try clear hk); (try clear hi); (try clear ho0)) | ((with_reducible refine gate_dst (N := 20) rfl ?_); refine Kd.R_lit k71 _ 71 ?hg (N := 20) ?hd (xs := ([] : List (S71))) (inner := []) (ok := fun _ => True) (okp := fun _ => True) ?hr ?hp (fun _ hk => hk) trivial (Below.refl _ _) (Nat.le_refl _) (by simp) ?_; (case hd => rfl); (case hg => rfl); (case hr => first | (go_simp; done) | (go_simp; rfl)); (case hp => exact (Reps.none _ _)); intro v744 w12 ho13 hb hg_ hnew_; clear hg_ hnew_; (first | rw [← Ny743.out] at ho13 | (simp only [Int.reduceToNat] at ho13; rw [← Ny743.out] at ho13)); have n0_ := z6a (Kd.S_elder' (by (with_reducible repeat (first | apply Kd.S_alloc | apply Kd.S_drewN | apply Kd.S_drew)); exact HO736.out) (Kd.R_base ho13) hb); have n1_ := z6a (Kd.R_lower ho13 (below_size (by repeat (first | (with_reducible first | exact HB.out | apply z6d | apply z6b | apply z6c) | exact HB.out)))); have n2_ := z6a (below_step (by repeat (first | (with_reducible first | exact HB.out | apply z6d | apply z6b | apply z6c) | exact HB.out)) hb); clear HO736; clear HB; have HO736 := n0_; have HO745 := n1_; have HB := n2_; clear n0_ n1_ n2_; clear hb ho13))
  go_ret3
  exact ⟨_, by first | rfl | (simp [errW_none, errW_some] <;> rfl) | (simp [*, errW_none, errW_some] <;> rfl), by (with_reducible repeat (first | apply Kd.R_alloc | apply Kd.R_drewN | apply Kd.R_drew)); exact HO745.out, by repeat (first | (with_reducible first | exact HB.out | apply z6d | apply z6b | apply z6c) | exact HB.out)⟩
def IsS154 (w0 W : World) (g : Nat) (f0 : List Int) (f1 : Int) (f2 : Int) : Prop := ∃ A0 c0, W.heap[g]? = some (.cells #[.slice A0 f0.length c0, .int .i64 f1, .int .i64 f2] 154 (0, 0)) ∧ w0.heap.size ≤ g ∧ Kd.C (Kd.int .u8) w0 A0 f0.length f0
theorem IsS154.grown {w0 W : World} {g : Nat} {f0 : List Int} {f1 : Int} {f2 : Int} {W1 : World} {row : Option Nat} (h : IsS154 w0 W g f0 f1 f2) (hw : W.grownBy W1 row) (hne : some g ≠ row) : IsS154 w0 W1 g f0 f1 f2 := by
 obtain ⟨A0, c0, hb, hg, hr0⟩ := h
 exact ⟨A0, c0, blk_grown hb hw hne, hg, hr0⟩
theorem IsS154.kept {w0 W : World} {g : Nat} {f0 : List Int} {f1 : Int} {f2 : Int} {W1 : World} {S : Nat → Prop} (h : IsS154 w0 W g f0 f1 f2) (hk : Kept W W1 S) (hne : ¬ S g) : IsS154 w0 W1 g f0 f1 f2 := by
 obtain ⟨A0, c0, hb, hg, hr0⟩ := h
 exact ⟨A0, c0, blk_kept hb hk hne, hg, hr0⟩
theorem IsS154.below {w0 W : World} {g : Nat} {f0 : List Int} {f1 : Int} {f2 : Int} {W1 : World} (h : IsS154 w0 W g f0 f1 f2) (hw : Below W.heap.size W W1) : IsS154 w0 W1 g f0 f1 f2 := h.grown (grown_of_below hw none) (by simp)
theorem IsS154.alloc {w0 W : World} {g : Nat} {f0 : List Int} {f1 : Int} {f2 : Int} (h : IsS154 w0 W g f0 f1 f2) (o : Obj) : IsS154 w0 (W.alloc o) g f0 f1 f2 := h.below (z6d (Below.refl _ _) o)
theorem IsS154.drewN {w0 W : World} {g : Nat} {f0 : List Int} {f1 : Int} {f2 : Int} (h : IsS154 w0 W g f0 f1 f2) (m : Nat) : IsS154 w0 (W.drewN m) g f0 f1 f2 := h
theorem IsS154.drew {w0 W : World} {g : Nat} {f0 : List Int} {f1 : Int} {f2 : Int} (h : IsS154 w0 W g f0 f1 f2) : IsS154 w0 W.drew g f0 f1 f2 := h
theorem IsS154.at_ {w0 W : World} {g : Nat} {f0 : List Int} {f1 : Int} {f2 : Int} {w' : World} {m : Nat} (hq : W.drewN m = w') (h : IsS154 w0 W g f0 f1 f2) : IsS154 w0 w' g f0 f1 f2 := by subst hq; exact IsS154.drewN h m
theorem IsS154.apart {w0 W : World} {g : Nat} {f0 : List Int} {f1 : Int} {f2 : Int} {α : Type} {d : Kd α} {e : Nat} {base : Nat} {ok : Nat → Prop} {v : Value} {xs : List α} (h : IsS154 w0 W g f0 f1 f2) (ho : d.R e W base ok v xs) (ht : ∀ q, q ∈ e :: d.E → q ≠ 154) : d.R e W base (fun k => ok k ∧ k ≠ g) v xs := by
 obtain ⟨A0, c0, hb, hg, hr0⟩ := h
 exact Kd.R_types ho hb ht
theorem IsS154.own_ne {w0 W : World} {g : Nat} {f0 : List Int} {f1 : Int} {f2 : Int} {α : Type} {d : Kd α} {e : Nat} {base : Nat} {ok : Nat → Prop} {v : Value} {xs : List α} (h : IsS154 w0 W g f0 f1 f2) (ho : d.R e W base ok v xs) (ht : e ≠ 154) : some g ≠ v.ownBlock := by
 obtain ⟨A0, c0, hb, hg, hr0⟩ := h
 exact Kd.R_ne ho hb ht
def y_gb.f (a0 : Int) (a1 : Int) : Option (Int) := if a0 < a1 then (some (-1)) else (if a0 > a1 then (some 1) else (some 0))
theorem y_gb.calls (a0 : Int) (a1 : Int) (r : Int) (w : World) (h : y_gb.f a0 a1 = some r) :
  Calls Try.prog 147 #[.int .i64 a0, .int .i64 a1] w fun e w' => e = .returned (.int .i64 r) ∧ Drawn0 w w' := by
 have H : (if a0 < a1 then (some (-1)) else (if a0 > a1 then (some 1) else (some 0))) = some r := h
 clear h
 by_cases c3 : a0 < a1
 ·rw [if_pos c3] at H
  have c3b0 : decide (a0 < a1) = true := decide_eq_true c3
  clear c3
  obtain rfl := Option.some.inj H
  go_enter Try.func147, Try.ntmps147
  go_wp2
  go_ret
  exact ⟨by first | rfl | (simp; done) | (simp [*]; done), by repeat (first | exact Drawn0.refl _ | apply Drawn0.step)⟩
 ·rw [if_neg c3] at H
  have c3b0 : decide (a0 < a1) = false := decide_eq_false c3
  clear c3
  by_cases c4 : a0 > a1
  ·rw [if_pos c4] at H
   have c4b0 : decide (a1 < a0) = true := decide_eq_true c4
   clear c4
   obtain rfl := Option.some.inj H
   go_enter Try.func147, Try.ntmps147
   go_wp2
   go_ret
   exact ⟨by first | rfl | (simp; done) | (simp [*]; done), by repeat (first | exact Drawn0.refl _ | apply Drawn0.step)⟩
  ·rw [if_neg c4] at H
   have c4b0 : decide (a1 < a0) = false := decide_eq_false c4
   clear c4
   obtain rfl := Option.some.inj H
   go_enter Try.func147, Try.ntmps147
   go_wp2
   go_ret
   exact ⟨by first | rfl | (simp; done) | (simp [*]; done), by repeat (first | exact Drawn0.refl _ | apply Drawn0.step)⟩
def y_eb.f (a0_0 : Int) (a0_1 : Int) (a0_2 : Int) (a1_0 : Int) (a1_1 : Int) (a1_2 : Int) : Option (Int) := (y_gb.f a0_0 a1_0).bind fun t233 => (if t233 = 0 then ((y_gb.f a0_1 a1_1).bind fun t234 => (if t234 = 0 then ((y_gb.f a0_2 a1_2).bind fun t235 => (some t235)) else (some t234))) else (some t233))
theorem y_eb.calls (a0_0 : Int) (a0_1 : Int) (a0_2 : Int) (a1_0 : Int) (a1_1 : Int) (a1_2 : Int) (r : Int) (w : World) (h : y_eb.f a0_0 a0_1 a0_2 a1_0 a1_1 a1_2 = some r) :
  Calls Try.prog 122 #[.agg #[.int .i64 a0_0, .int .i64 a0_1, .int .i64 a0_2], .agg #[.int .i64 a1_0, .int .i64 a1_1, .int .i64 a1_2]] w fun e w' => e = .returned (.int .i64 r) ∧ Below w.heap.size w w' := by
 have hu71 := Try.underlying71
 have HB := z6a (Below.refl w.heap.size w)
 have H := h
 unfold y_eb.f at H
 clear h
 replace H := z6f.mp H
 obtain ⟨t233, A30, H⟩ := H
 have A3 := z6a A30
 clear A30
 by_cases c4 : t233 = 0
 ·rw [if_pos c4] at H
  have c4b0 : (t233 == 0) = true := beq_iff_eq.mpr c4
  have c4b1 : (t233 != 0) = false := bne_eq_false_iff_eq.mpr c4
  clear c4
  replace H := z6f.mp H
  obtain ⟨t234, A50, H⟩ := H
  have A5 := z6a A50
  clear A50
  by_cases c6 : t234 = 0
  ·rw [if_pos c6] at H
   have c6b0 : (t234 == 0) = true := beq_iff_eq.mpr c6
   have c6b1 : (t234 != 0) = false := bne_eq_false_iff_eq.mpr c6
   clear c6
   replace H := z6f.mp H
   obtain ⟨t235, A70, H⟩ := H
   have A7 := z6a A70
   clear A70
   obtain rfl := Option.some.inj H
   go_enter Try.func122, Try.ntmps122
   go_wp2_with (first | ((with_reducible refine gate_dst (N := 2) rfl ?_); refine box_event ?hg (N := 2) ?hd (cs := #[.int .i64 a0_0, .int .i64 a0_1, .int .i64 a0_2]) (t := 71) ?hr ?_; (case hd => rfl); (case hg => rfl); (case hr => first | (go_simp; done) | (go_simp; rfl)); intro gb231 hg w8 hbox hb; have n0_ := z6a (below_step (by repeat (first | (with_reducible first | exact HB.out | apply z6d | apply z6b | apply z6c) | exact HB.out)) hb); have n1_ := z6a (hbox); have n2_ := z6a ((by rw [hg]; exact (below_size (by repeat (first | (with_reducible first | exact HB.out | apply z6d | apply z6b | apply z6c) | exact HB.out))) : w.heap.size ≤ gb231)); have n3_ := z6a ((by rw [hg]; exact (below_size (by repeat (first | (with_reducible first | exact HB.out | apply z6d | apply z6b | apply z6c) | exact HB.out))) : w.heap.size ≤ gb231)); clear HB; have HB := n0_; have BK231 := n1_; have GW231 := n2_; have GE231 := n3_; clear n0_ n1_ n2_ n3_; clear hb hbox hg) | ((with_reducible refine gate_dst (N := 3) rfl ?_); refine box_event ?hg (N := 3) ?hd (cs := #[.int .i64 a1_0, .int .i64 a1_1, .int .i64 a1_2]) (t := 71) ?hr ?_; (case hd => rfl); (case hg => rfl); (case hr => first | (go_simp; done) | (go_simp; rfl)); intro gb232 hg w9 hbox hb; have n0_ := z6a (blk_below (g := gb231) (o := .cells #[.int .i64 a0_0, .int .i64 a0_1, .int .i64 a0_2] 71 (0, 0)) (by (with_reducible repeat (first | refine blk_drewN ?_ _ | refine blk_drew ?_ | refine blk_alloc ?_ _)); exact BK231.out) hb); have n1_ := z6a (below_step (by repeat (first | (with_reducible first | exact HB.out | apply z6d | apply z6b | apply z6c | refine below_set ?_ GE231.out) | exact HB.out)) hb); have n2_ := z6a (hbox); have n3_ := z6a ((by rw [hg]; exact (below_size (by repeat (first | (with_reducible first | exact HB.out | apply z6d | apply z6b | apply z6c | refine below_set ?_ GE231.out) | exact HB.out))) : w.heap.size ≤ gb232)); have n4_ := z6a ((by rw [hg]; exact (below_size (by repeat (first | (with_reducible first | exact HB.out | apply z6d | apply z6b | apply z6c | refine below_set ?_ GE231.out) | exact HB.out))) : w.heap.size ≤ gb232)); have n5_ := z6a ((by rw [hg]; exact Nat.ne_of_lt (blk_lt (g := gb231) (o := .cells #[.int .i64 a0_0, .int .i64 a0_1, .int .i64 a0_2] 71 (0, 0)) (by (with_reducible repeat (first | refine blk_drewN ?_ _ | refine blk_drew ?_ | refine blk_alloc ?_ _)); exact BK231.out)) : gb231 ≠ gb232)); have n6_ := z6a ((by rw [hg]; exact Nat.ne_of_gt (blk_lt (g := gb231) (o := .cells #[.int .i64 a0_0, .int .i64 a0_1, .int .i64 a0_2] 71 (0, 0)) (by (with_reducible repeat (first | refine blk_drewN ?_ _ | refine blk_drew ?_ | refine blk_alloc ?_ _)); exact BK231.out)) : gb232 ≠ gb231)); clear BK231; clear HB; have BK231 := n0_; have HB := n1_; have BK232 := n2_; have GW232 := n3_; have GE232 := n4_; have NB231_232 := n5_; have NB232_231 := n6_; clear n0_ n1_ n2_ n3_ n4_ n5_ n6_; clear hb hbox hg; have hnb10 := NB231_232.out; have hnc10 := NB232_231.out; obtain ⟨hcz11_0, hcz11_1, hcz11_2⟩ := cells_3 BK231.out; obtain ⟨hfz11_0, hfz11_1, hfz11_2⟩ := frz_3 BK231.out; obtain ⟨hcz12_0, hcz12_1, hcz12_2⟩ := cells_3 BK232.out; obtain ⟨hfz12_0, hfz12_1, hfz12_2⟩ := frz_3 BK232.out) | ((with_reducible refine gate_callee (f := 147) rfl ?_); refine goesL_ (some 11) rfl rfl Try.func147 (by kernel_rfl) rfl #[.int .i64 a0_0, .int .i64 a1_0] rfl (by (try simp only [zm6a, zm6b, zm6c]); first | done | rfl | (simp only [zm6d, zm6e]; rfl)) ?_; (with_reducible refine (y_gb.calls a0_0 a1_0 t233 _ A3.out).mono ?_); rintro e w' ⟨rfl, ⟨nd, rfl⟩⟩; refine ⟨_, rfl, ?_⟩) | ((with_reducible refine gate_callee (f := 147) rfl ?_); refine goesL_ (some 19) rfl rfl Try.func147 (by kernel_rfl) rfl #[.int .i64 a0_1, .int .i64 a1_1] rfl (by (try simp only [zm6a, zm6b, zm6c]); first | done | rfl | (simp only [zm6d, zm6e]; rfl)) ?_; (with_reducible refine (y_gb.calls a0_1 a1_1 t234 _ A5.out).mono ?_); rintro e w' ⟨rfl, ⟨nd, rfl⟩⟩; refine ⟨_, rfl, ?_⟩) | ((with_reducible refine gate_callee (f := 147) rfl ?_); refine goesL_ (some 27) rfl rfl Try.func147 (by kernel_rfl) rfl #[.int .i64 a0_2, .int .i64 a1_2] rfl (by (try simp only [zm6a, zm6b, zm6c]); first | done | rfl | (simp only [zm6d, zm6e]; rfl)) ?_; (with_reducible refine (y_gb.calls a0_2 a1_2 t235 _ A7.out).mono ?_); rintro e w' ⟨rfl, ⟨nd, rfl⟩⟩; refine ⟨_, rfl, ?_⟩))
   go_ret
   exact ⟨by first | rfl | (simp [errW_none, errW_some] <;> rfl) | (simp [*, errW_none, errW_some] <;> rfl), by repeat (first | (with_reducible first | exact HB.out | apply z6d | apply z6b | apply z6c | refine below_set ?_ GE231.out | refine below_set ?_ GE232.out) | exact HB.out)⟩
  ·rw [if_neg c6] at H
   have c6b0 : (t234 == 0) = false := beq_eq_false_iff_ne.mpr c6
   have c6b1 : (t234 != 0) = true := bne_iff_ne.mpr c6
   obtain rfl := Option.some.inj H
   go_enter Try.func122, Try.ntmps122
   go_wp2_with (first | ((with_reducible refine gate_dst (N := 2) rfl ?_); refine box_event ?hg (N := 2) ?hd (cs := #[.int .i64 a0_0, .int .i64 a0_1, .int .i64 a0_2]) (t := 71) ?hr ?_; (case hd => rfl); (case hg => rfl); (case hr => first | (go_simp; done) | (go_simp; rfl)); intro gb231 hg w13 hbox hb; have n0_ := z6a (below_step (by repeat (first | (with_reducible first | exact HB.out | apply z6d | apply z6b | apply z6c) | exact HB.out)) hb); have n1_ := z6a (hbox); have n2_ := z6a ((by rw [hg]; exact (below_size (by repeat (first | (with_reducible first | exact HB.out | apply z6d | apply z6b | apply z6c) | exact HB.out))) : w.heap.size ≤ gb231)); have n3_ := z6a ((by rw [hg]; exact (below_size (by repeat (first | (with_reducible first | exact HB.out | apply z6d | apply z6b | apply z6c) | exact HB.out))) : w.heap.size ≤ gb231)); clear HB; have HB := n0_; have BK231 := n1_; have GW231 := n2_; have GE231 := n3_; clear n0_ n1_ n2_ n3_; clear hb hbox hg) | ((with_reducible refine gate_dst (N := 3) rfl ?_); refine box_event ?hg (N := 3) ?hd (cs := #[.int .i64 a1_0, .int .i64 a1_1, .int .i64 a1_2]) (t := 71) ?hr ?_; (case hd => rfl); (case hg => rfl); (case hr => first | (go_simp; done) | (go_simp; rfl)); intro gb232 hg w14 hbox hb; have n0_ := z6a (blk_below (g := gb231) (o := .cells #[.int .i64 a0_0, .int .i64 a0_1, .int .i64 a0_2] 71 (0, 0)) (by (with_reducible repeat (first | refine blk_drewN ?_ _ | refine blk_drew ?_ | refine blk_alloc ?_ _)); exact BK231.out) hb); have n1_ := z6a (below_step (by repeat (first | (with_reducible first | exact HB.out | apply z6d | apply z6b | apply z6c | refine below_set ?_ GE231.out) | exact HB.out)) hb); have n2_ := z6a (hbox); have n3_ := z6a ((by rw [hg]; exact (below_size (by repeat (first | (with_reducible first | exact HB.out | apply z6d | apply z6b | apply z6c | refine below_set ?_ GE231.out) | exact HB.out))) : w.heap.size ≤ gb232)); have n4_ := z6a ((by rw [hg]; exact (below_size (by repeat (first | (with_reducible first | exact HB.out | apply z6d | apply z6b | apply z6c | refine below_set ?_ GE231.out) | exact HB.out))) : w.heap.size ≤ gb232)); have n5_ := z6a ((by rw [hg]; exact Nat.ne_of_lt (blk_lt (g := gb231) (o := .cells #[.int .i64 a0_0, .int .i64 a0_1, .int .i64 a0_2] 71 (0, 0)) (by (with_reducible repeat (first | refine blk_drewN ?_ _ | refine blk_drew ?_ | refine blk_alloc ?_ _)); exact BK231.out)) : gb231 ≠ gb232)); have n6_ := z6a ((by rw [hg]; exact Nat.ne_of_gt (blk_lt (g := gb231) (o := .cells #[.int .i64 a0_0, .int .i64 a0_1, .int .i64 a0_2] 71 (0, 0)) (by (with_reducible repeat (first | refine blk_drewN ?_ _ | refine blk_drew ?_ | refine blk_alloc ?_ _)); exact BK231.out)) : gb232 ≠ gb231)); clear BK231; clear HB; have BK231 := n0_; have HB := n1_; have BK232 := n2_; have GW232 := n3_; have GE232 := n4_; have NB231_232 := n5_; have NB232_231 := n6_; clear n0_ n1_ n2_ n3_ n4_ n5_ n6_; clear hb hbox hg; have hnb15 := NB231_232.out; have hnc15 := NB232_231.out; obtain ⟨hcz16_0, hcz16_1, hcz16_2⟩ := cells_3 BK231.out; obtain ⟨hfz16_0, hfz16_1, hfz16_2⟩ := frz_3 BK231.out; obtain ⟨hcz17_0, hcz17_1, hcz17_2⟩ := cells_3 BK232.out; obtain ⟨hfz17_0, hfz17_1, hfz17_2⟩ := frz_3 BK232.out) | ((with_reducible refine gate_callee (f := 147) rfl ?_); refine goesL_ (some 11) rfl rfl Try.func147 (by kernel_rfl) rfl #[.int .i64 a0_0, .int .i64 a1_0] rfl (by (try simp only [zm6a, zm6b, zm6c]); first | done | rfl | (simp only [zm6d, zm6e]; rfl)) ?_; (with_reducible refine (y_gb.calls a0_0 a1_0 t233 _ A3.out).mono ?_); rintro e w' ⟨rfl, ⟨nd, rfl⟩⟩; refine ⟨_, rfl, ?_⟩) | ((with_reducible refine gate_callee (f := 147) rfl ?_); refine goesL_ (some 19) rfl rfl Try.func147 (by kernel_rfl) rfl #[.int .i64 a0_1, .int .i64 a1_1] rfl (by (try simp only [zm6a, zm6b, zm6c]); first | done | rfl | (simp only [zm6d, zm6e]; rfl)) ?_; (with_reducible refine (y_gb.calls a0_1 a1_1 t234 _ A5.out).mono ?_); rintro e w' ⟨rfl, ⟨nd, rfl⟩⟩; refine ⟨_, rfl, ?_⟩))
   go_ret
   exact ⟨by first | rfl | (simp [errW_none, errW_some] <;> rfl) | (simp [*, errW_none, errW_some] <;> rfl), by repeat (first | (with_reducible first | exact HB.out | apply z6d | apply z6b | apply z6c | refine below_set ?_ GE231.out | refine below_set ?_ GE232.out) | exact HB.out)⟩
 ·rw [if_neg c4] at H
  have c4b0 : (t233 == 0) = false := beq_eq_false_iff_ne.mpr c4
  have c4b1 : (t233 != 0) = true := bne_iff_ne.mpr c4
  obtain rfl := Option.some.inj H
  go_enter Try.func122, Try.ntmps122
  go_wp2_with (first | ((with_reducible refine gate_dst (N := 2) rfl ?_); refine box_event ?hg (N := 2) ?hd (cs := #[.int .i64 a0_0, .int .i64 a0_1, .int .i64 a0_2]) (t := 71) ?hr ?_; (case hd => rfl); (case hg => rfl); (case hr => first | (go_simp; done) | (go_simp; rfl)); intro gb231 hg w18 hbox hb; have n0_ := z6a (below_step (by repeat (first | (with_reducible first | exact HB.out | apply z6d | apply z6b | apply z6c) | exact HB.out)) hb); have n1_ := z6a (hbox); have n2_ := z6a ((by rw [hg]; exact (below_size (by repeat (first | (with_reducible first | exact HB.out | apply z6d | apply z6b | apply z6c) | exact HB.out))) : w.heap.size ≤ gb231)); have n3_ := z6a ((by rw [hg]; exact (below_size (by repeat (first | (with_reducible first | exact HB.out | apply z6d | apply z6b | apply z6c) | exact HB.out))) : w.heap.size ≤ gb231)); clear HB; have HB := n0_; have BK231 := n1_; have GW231 := n2_; have GE231 := n3_; clear n0_ n1_ n2_ n3_; clear hb hbox hg) | ((with_reducible refine gate_dst (N := 3) rfl ?_); refine box_event ?hg (N := 3) ?hd (cs := #[.int .i64 a1_0, .int .i64 a1_1, .int .i64 a1_2]) (t := 71) ?hr ?_; (case hd => rfl); (case hg => rfl); (case hr => first | (go_simp; done) | (go_simp; rfl)); intro gb232 hg w19 hbox hb; have n0_ := z6a (blk_below (g := gb231) (o := .cells #[.int .i64 a0_0, .int .i64 a0_1, .int .i64 a0_2] 71 (0, 0)) (by (with_reducible repeat (first | refine blk_drewN ?_ _ | refine blk_drew ?_ | refine blk_alloc ?_ _)); exact BK231.out) hb); have n1_ := z6a (below_step (by repeat (first | (with_reducible first | exact HB.out | apply z6d | apply z6b | apply z6c | refine below_set ?_ GE231.out) | exact HB.out)) hb); have n2_ := z6a (hbox); have n3_ := z6a ((by rw [hg]; exact (below_size (by repeat (first | (with_reducible first | exact HB.out | apply z6d | apply z6b | apply z6c | refine below_set ?_ GE231.out) | exact HB.out))) : w.heap.size ≤ gb232)); have n4_ := z6a ((by rw [hg]; exact (below_size (by repeat (first | (with_reducible first | exact HB.out | apply z6d | apply z6b | apply z6c | refine below_set ?_ GE231.out) | exact HB.out))) : w.heap.size ≤ gb232)); have n5_ := z6a ((by rw [hg]; exact Nat.ne_of_lt (blk_lt (g := gb231) (o := .cells #[.int .i64 a0_0, .int .i64 a0_1, .int .i64 a0_2] 71 (0, 0)) (by (with_reducible repeat (first | refine blk_drewN ?_ _ | refine blk_drew ?_ | refine blk_alloc ?_ _)); exact BK231.out)) : gb231 ≠ gb232)); have n6_ := z6a ((by rw [hg]; exact Nat.ne_of_gt (blk_lt (g := gb231) (o := .cells #[.int .i64 a0_0, .int .i64 a0_1, .int .i64 a0_2] 71 (0, 0)) (by (with_reducible repeat (first | refine blk_drewN ?_ _ | refine blk_drew ?_ | refine blk_alloc ?_ _)); exact BK231.out)) : gb232 ≠ gb231)); clear BK231; clear HB; have BK231 := n0_; have HB := n1_; have BK232 := n2_; have GW232 := n3_; have GE232 := n4_; have NB231_232 := n5_; have NB232_231 := n6_; clear n0_ n1_ n2_ n3_ n4_ n5_ n6_; clear hb hbox hg; have hnb20 := NB231_232.out; have hnc20 := NB232_231.out; obtain ⟨hcz21_0, hcz21_1, hcz21_2⟩ := cells_3 BK231.out; obtain ⟨hfz21_0, hfz21_1, hfz21_2⟩ := frz_3 BK231.out; obtain ⟨hcz22_0, hcz22_1, hcz22_2⟩ := cells_3 BK232.out; obtain ⟨hfz22_0, hfz22_1, hfz22_2⟩ := frz_3 BK232.out) | ((with_reducible refine gate_callee (f := 147) rfl ?_); refine goesL_ (some 11) rfl rfl Try.func147 (by kernel_rfl) rfl #[.int .i64 a0_0, .int .i64 a1_0] rfl (by (try simp only [zm6a, zm6b, zm6c]); first | done | rfl | (simp only [zm6d, zm6e]; rfl)) ?_; (with_reducible refine (y_gb.calls a0_0 a1_0 t233 _ A3.out).mono ?_); rintro e w' ⟨rfl, ⟨nd, rfl⟩⟩; refine ⟨_, rfl, ?_⟩))
  go_ret
  exact ⟨by first | rfl | (simp [errW_none, errW_some] <;> rfl) | (simp [*, errW_none, errW_some] <;> rfl), by repeat (first | (with_reducible first | exact HB.out | apply z6d | apply z6b | apply z6c | refine below_set ?_ GE231.out | refine below_set ?_ GE232.out) | exact HB.out)⟩
end Go.Proofs.Ytkcicbigpbdjpaa.P
end
