-- merged by pack.py out of Px32 Px33 Px34 Base Row Cost Cmp Srt SortS (words: printed by the kit's print.sh; what this claim does not use is left out)

import Derived.Test.YtkcicbigpbdjpaaKFnExternalSort1
import Derived.Test.YtkcicbigpbdjpaaKFnExternalSort2
import Derived.Test.YtkcicbigpbdjpaaKFnExternalSort3
import Derived.Test.YtkcicbigpbdjpaaKFnExternalSort4
import Derived.Test.YtkcicbigpbdjpaaKFnExternalSort5
import Derived.Test.YtkcicbigpbdjpaaKFnExternalSort7
import Derived.Test.YtkcicbigpbdjpaaKFnExternalSort9
import Derived.Test.YtkcicbigpbdjpaaKFnExternalSort10
import Derived.Test.YtkcicbigpbdjpaaKFnExternalSort11
import Derived.Test.YtkcicbigpbdjpaaKFnExternalSort12
import Derived.Test.YtkcicbigpbdjpaaKFnExternalSort13
namespace Go.Proofs.Ytkcicbigpbdjpaa
abbrev zt14 : Bool := true
abbrev zf14 : Bool := false
section
open Go.RowKit Go.Proofs.YtkcicbigpbdjpaaW.PrintWords Go.Proofs.YtkcicbigpbdjpaaW.PrintLast Go.Proofs.YtkcicbigpbdjpaaW.PrintMore
abbrev z14a := @Aside0.mk
abbrev z14b := @pw_below_drewN
abbrev z14c := @below_drew1
abbrev z14d := @below_alloc
abbrev z14e := @World.block_lt_of_cell?
abbrev z14f := @Option.bind_eq_some_iff
abbrev z14g := @Kd.R_alloc
abbrev z14h := @Kd.R_drewN
abbrev z14i := @Kd.C_alloc
abbrev z14j := @Kd.C_drewN
end
theorem zm14a {α β : Type} (f : α → β) (l : List α) : l.toArray.map f = (l.map f).toArray := by simp
theorem zm14b {α β : Type} (f : α → β) (a : α) (l : List α) : (a :: l).map f = f a :: l.map f := rfl
theorem zm14c {α β : Type} (f : α → β) : ([] : List α).map f = [] := rfl
theorem zm14d {α : Type} (n : Nat) (l : List α) : (l.drop n).length = l.length - n := List.length_drop
theorem zm14e {α : Type} (n : Nat) (l : List α) : (l.take n).length = min n l.length := List.length_take
theorem zp14a {α : Type} (l : List α) (i : Nat) (a : α) : l.toArray.setIfInBounds i a = (l.set i a).toArray := List.setIfInBounds_toArray l i a
theorem zp14b {α : Type} (x : α) (l : List α) (a : α) : (x :: l).set 0 a = a :: l := List.set_cons_zero
theorem zp14c {α : Type} (x : α) (l : List α) (n : Nat) (a : α) : (x :: l).set (n + 1) a = x :: l.set n a := List.set_cons_succ
end Go.Proofs.Ytkcicbigpbdjpaa
set_option maxHeartbeats 8000000
set_option maxRecDepth 100000
section
namespace Go.Proofs.Ytkcicbigpbdjpaa.P
open Go.RowKit Go.Proofs.YtkcicbigpbdjpaaW.PrintWords Go.Proofs.YtkcicbigpbdjpaaW.PrintLast Go.Proofs.YtkcicbigpbdjpaaW.PrintMore
attribute [local go_sem] max2_int min2_int max_two min_two max_three min_three max_four min_four
set_option linter.unusedVariables false
set_option linter.unusedSimpArgs false
def y_n.l0 : Nat → List (S39) → List (S39) → Int → Option ((List (S39)))
 | 0, _, _, _ => none
 | k + 1, x0, x3, x4 => if x4 < (x0.length : Int) then (if (wrap64 (x4 + 1)) = (x0.length : Int) then (if 0 ≤ x4 then ((y_mb.f ((rd_T39 x0 x4).f0)).bind fun t792 => (if x3.length < 5864062014805 then (y_n.l0 k x0 (x3 ++ [(⟨t792⟩ : S39)]) (wrap64 (x4 + 2))) else (none))) else (none)) else (if 0 ≤ x4 then (if 0 ≤ (wrap64 (x4 + 1)) then (if (wrap64 (x4 + 1)) < (x0.length : Int) then ((y_d.f k ((rd_T39 x0 x4).f0) ((rd_T39 x0 (wrap64 (x4 + 1))).f0)).bind fun t800 => (if x3.length < 5864062014805 then (y_n.l0 k x0 (x3 ++ [(⟨t800⟩ : S39)]) (wrap64 (x4 + 2))) else (none))) else (none)) else (none)) else (none))) else (some x3)
def y_n.f (k : Nat) (l0 : List (S39)) : Option ((List (S39))) := y_n.l0 k l0 (([] : List (S39))) 0
def y_n.T7 : Bool × List (List Nat × List Nat) := (true, [([], []), ([], []), ([], []), ([1, 2], [1, 2]), ([3], [3]), ([4], [4]), ([], []), ([], []), ([7], [7]), ([6, 8], [6, 8]), ([9], [9]), ([10], [10]), ([5, 11], [5, 11]), ([12], [12]), ([13], [13]), ([0, 14, 12], [0, 14]), ([15, 15, 0, 1, 2, 3, 4, 5, 6, 7, 8, 9, 10, 11, 12, 13, 14, 15], [0, 15])])
def y_n.B7 : List Nat := [0, 0, 0, 6, 14, 30, 0, 0, 128, 448, 960, 1984, 4094, 8190, 16382, 32767, 65535]
theorem y_n.tab7 : rtab .any (opsOf Try.f49 7) = y_n.T7 := by kernel_rfl
theorem y_n.bits7 : waitsOk y_n.T7.2 y_n.B7 = true := by kernel_rfl
theorem y_n.calls (k : Nat) (A0 : Option Addr) (c0 : Nat) (l0 : List (S39)) (r : List (S39)) (w : World) (hr0 : Kd.C k39 w A0 l0.length l0) (hc0 : l0.length ≤ c0) (h : y_n.f k l0 = some r) :
  Calls Try.prog 49 #[.slice A0 l0.length c0] w fun e w' => ∃ v0_ : Value, e = .returned (v0_) ∧ Kd.S k39 39 w' w.heap.size (fun _ => True) v0_ r ∧ Below w.heap.size w w' := by
 have hu39 := Try.underlying39
 have HR0 := z14a hr0
 have HC0 := z14a hc0
 clear hr0 hc0
 have HB := z14a (Below.refl w.heap.size w)
 have H : (y_n.l0 k l0 (([] : List (S39))) 0) = some r := h
 clear h
 obtain ⟨y788, hy788⟩ : ∃ y_ : List (S39), y_ = (([] : List (S39))) := ⟨_, rfl⟩
 replace H : (y_n.l0 k l0 y788 0) = some r := by first | (rw [hy788]; with_reducible exact H) | (have H2_ := (Option.bind_some _ _).symm.trans H; rw [hy788]; with_reducible exact H2_) | (have H2_ := (Option.bind_some _ _).symm.trans H; with_reducible exact H2_) | with_reducible exact H | (rw [hy788]; exact H) | exact H
 have Ny788 := z14a hy788
 clear hy788
 have H' := z14a H
 clear H
 go_enter Try.func49, Try.ntmps49
 go_wp2_with (first | ((with_reducible refine gate_dst (N := 5) rfl ?_); refine Kd.S_lit k39 _ 39 ?hg (N := 5) ?hd (xs := ([] : List (S39))) (inner := []) (ok := fun _ => True) (okp := fun _ => True) ?hr ?hp (fun _ hk => hk) trivial (Below.refl _ _) (Nat.le_refl _) (by simp) ?_; (case hd => rfl); (case hg => rfl); (case hr => first | (go_simp; done) | (go_simp; rfl)); (case hp => exact (Reps.none _ _)); intro v789 w2 ho3 hb hg_ hnew_; clear hg_ hnew_; (first | rw [← Ny788.out] at ho3 | (simp only [Int.reduceToNat] at ho3; rw [← Ny788.out] at ho3)); have n0_ := z14a (Kd.S_lower ho3 (below_size (by repeat (first | (with_reducible first | exact HB.out | apply z14d | apply z14b | apply z14c) | exact HB.out)))); have n1_ := z14a (below_step (by repeat (first | (with_reducible first | exact HB.out | apply z14d | apply z14b | apply z14c) | exact HB.out)) hb); clear HB; have HO790 := n0_; have HB := n1_; clear n0_ n1_; clear hb ho3))
 go_loopg [3, 4] k (fun kq v3 v4 w' => ∃ (x3_1 : List (S39)) (x4_1 : Int), v4 = .int .i64 x4_1 ∧ Aside0 (y_n.l0 kq l0 x3_1 x4_1 = some r) ∧ Aside0 (kq ≤ k) ∧ Aside0 (Kd.S k39 39 w' w.heap.size (fun _ => True) v3 x3_1) ∧ Aside0 (Below w.heap.size w w'))
 case atStart => exact ⟨(y788), (0), (by first | rfl | (simp; done) | (simp [*]; done)), H', ⟨Nat.le_refl _⟩, ⟨by (with_reducible repeat (first | apply Kd.S_alloc | apply Kd.S_drewN | apply Kd.S_drew)); exact HO790.out⟩, ⟨by repeat (first | (with_reducible first | exact HB.out | apply z14d | apply z14b | apply z14c) | exact HB.out)⟩⟩
 case round =>
  clear H'
  try clear p2
  obtain ⟨x3_1, x4_1, rfl, HA, HK1, HO_3, HB⟩ := hrel
  cases gk with
  | zero => exact absurd HA.out (by simp [y_n.l0])
  | succ k1 =>
   have H := HA.out
   clear HA
   simp only [y_n.l0] at H
   by_cases c4 : x4_1 < (l0.length : Int)
   ·rw [if_pos c4] at H
    have c4b0 : decide (x4_1 < (l0.length : Int)) = true := decide_eq_true c4
    clear c4
    by_cases c5 : (wrap64 (x4_1 + 1)) = (l0.length : Int)
    ·rw [if_pos c5] at H
     have c5b0 : ((wrap64 (x4_1 + 1)) == (l0.length : Int)) = true := beq_iff_eq.mpr c5
     have c5b1 : ((wrap64 (x4_1 + 1)) != (l0.length : Int)) = false := bne_eq_false_iff_eq.mpr c5
     clear c5
     by_cases c6 : 0 ≤ x4_1
     ·rw [if_pos c6] at H
      have c6b0 : decide (0 ≤ x4_1) = true := decide_eq_true c6
      clear c6
      replace H := z14f.mp H
      obtain ⟨t792, A70, H⟩ := H
      have A7 := z14a A70
      clear A70
      by_cases c8 : x3_1.length < 5864062014805
      ·rw [if_pos c8] at H
       have LMc8 := z14a c8
       clear c8
       obtain ⟨y795, hy795⟩ : ∃ y_ : List (S39), y_ = (x3_1 ++ [(⟨t792⟩ : S39)]) := ⟨_, rfl⟩
       replace H : (y_n.l0 k1 l0 y795 (wrap64 (x4_1 + 2))) = some r := by first | (rw [hy795]; with_reducible exact H) | (have H2_ := (Option.bind_some _ _).symm.trans H; rw [hy795]; with_reducible exact H2_) | (have H2_ := (Option.bind_some _ _).symm.trans H; with_reducible exact H2_) | with_reducible exact H | (rw [hy795]; exact H) | exact H
       have Ny795 := z14a hy795
       clear hy795
       have H' := z14a H
       clear H
       have p791 : 0 ≤ (x4_1 : Int) := of_decide_eq_true (by first | (with_reducible assumption) | assumption)
       have q791 : x4_1 < (l0.length : Int) := of_decide_eq_true (by first | (with_reducible assumption) | assumption)
       obtain ⟨ad791, A791_0, c791_0, e791, hx791_0, hl791_0, hi791_0⟩ := at_T39 HR0.out x4_1 p791 q791
       cases e791
       replace hx791_0 := (HB.out.cell (z14e w _ hx791_0)).trans hx791_0
       have HR791_0 := z14a hi791_0
       have HC791_0 := z14a hl791_0
       clear hi791_0 hl791_0
       replace p791 := eq_true p791
       replace q791 := eq_true q791
       go_wp2_with (first | ((with_reducible refine gate_callee (f := 130) rfl ?_); refine goesL_ (some 23) rfl rfl Try.func130 (by kernel_rfl) rfl #[.slice A791_0 ((rd_T39 l0 x4_1).f0).length c791_0] rfl (by (try simp only [zm14a, zm14b, zm14c]); first | done | rfl | (simp only [zm14d, zm14e]; rfl)) ?_; (with_reducible refine (y_mb.calls _ _ ((rd_T39 l0 x4_1).f0) t792 _ ?side1 ?side2 A7.out).mono ?_); (case side1 => repeat (first | exact (Kd.C_below HR791_0.out HB.out) | (with_reducible refine z14i ?_ _) | (with_reducible refine z14j ?_ _) | (with_reducible refine Kd.C_drew ?_))); (case side2 => exact HC791_0.out); rintro e w9 ⟨v793, rfl, ho0, hb⟩; refine ⟨_, rfl, ?_⟩; have n0_ := z14a (Kd.S_elder' (by (with_reducible repeat (first | apply Kd.S_alloc | apply Kd.S_drewN | apply Kd.S_drew)); exact HO_3.out) (Kd.R_base ho0) hb); have n1_ := z14a (Kd.R_lower ho0 (below_size (by repeat (first | (with_reducible first | exact HB.out | apply z14d | apply z14b | apply z14c) | exact HB.out)))); have n2_ := z14a (below_step (by repeat (first | (with_reducible first | exact HB.out | apply z14d | apply z14b | apply z14c) | exact HB.out)) hb); clear HO_3; clear HB; have HO_3 := n0_; have HO794 := n1_; have HB := n2_; clear n0_ n1_ n2_; (try clear hb); (try clear hb2); (try clear hk); (try clear hi); (try clear ho0); obtain ⟨Ao10, co10, eo10⟩ := Kd.R_slice HO794.out; subst eo10) | ((with_reducible refine gate_builtin (b := .append) (xs := #[.tmp 17, .tmp 25]) rfl ?_); at_builtin; refine Kd.S_append k39 (w0 := w) w.heap.size rfl (.tmp 17) (.tmp 25) 27 39 (.agg #[(.slice none 0 0)]) 24 rfl Try.underlying27 info39 rfl (by decide) (by omega) u3 x3_1 (⟨t792⟩ : S39) [.slice Ao10 t792.length co10] (fun _ => True) (fun k_ => some k_ = (.slice Ao10 t792.length co10 : Value).ownBlock) rfl rfl ?aP (fun k_ hk_ => ((Kd.R_mono (ok' := fun k_ => ((fun _ => True)) k_ ∧ some k_ ≠ (u3 : Value).ownBlock) (Kd.R_apart' (HO794.out) (Kd.S_typed HO_3.out) (by decide)) (fun k_ hk => ⟨trivial, hk.2⟩))).1 k_ hk_.symm) ?aF ?aO ?aB ?aS ?aL ?_; (case aP => exact k39_mkM _ _ _ (⟨t792⟩ : S39) (Kd.R_mono (Kd.R_tight rfl (Kd.R_mono (ok' := fun k_ => ((fun _ => True)) k_ ∧ some k_ ≠ (u3 : Value).ownBlock) (Kd.R_apart' (HO794.out) (Kd.S_typed HO_3.out) (by decide)) (fun k_ hk => ⟨trivial, hk.2⟩))) (fun _ h_ => h_))); (case aB => exact (by repeat (first | (with_reducible first | exact HB.out | apply z14d | apply z14b | apply z14c) | exact HB.out))); (case aF => exact (fun _ _ => trivial)); (case aO => exact (by (with_reducible repeat (first | apply Kd.S_alloc | apply Kd.S_drewN | apply Kd.S_drew)); exact Kd.S_mono HO_3.out (fun k_ hk => ⟨trivial, fun e_ => hk.2 e_⟩))); (case aS => exact (below_size (by repeat (first | (with_reducible first | exact HB.out | apply z14d | apply z14b | apply z14c) | exact HB.out)))); (case aL => have := LMc8.out; omega); intro v796 w11 ho hb hg hat; rw [← Ny795.out] at ho; have n0_ := z14a (hb); have n1_ := z14a (ho); clear HB; clear HO_3; clear HO794; have HB := n0_; have HO797 := n1_; clear n0_ n1_; clear ho hb hg hat))
       go_roundg k1
       case measure => have := HK1.out; omega
       case rel => exact ⟨(y795), (wrap64 (x4_1 + 2)), (by first | rfl | (simp; done) | (simp [*]; done)), H', ⟨by have := HK1.out; omega⟩, ⟨by (with_reducible repeat (first | apply Kd.S_alloc | apply Kd.S_drewN | apply Kd.S_drew)); exact HO797.out⟩, ⟨by repeat (first | (with_reducible first | exact HB.out | apply z14d | apply z14b | apply z14c) | exact HB.out)⟩⟩
      ·rw [if_neg c8] at H
       exact absurd H (by simp)
     ·rw [if_neg c6] at H
      exact absurd H (by simp)
    ·rw [if_neg c5] at H
     have c5b0 : ((wrap64 (x4_1 + 1)) == (l0.length : Int)) = false := beq_eq_false_iff_ne.mpr c5
     have c5b1 : ((wrap64 (x4_1 + 1)) != (l0.length : Int)) = true := bne_iff_ne.mpr c5
     by_cases c12 : 0 ≤ x4_1
     ·rw [if_pos c12] at H
      have c12b0 : decide (0 ≤ x4_1) = true := decide_eq_true c12
      clear c12
      obtain ⟨ji13, hji13⟩ : ∃ j_ : Int, (wrap64 (x4_1 + 1)) = j_ := ⟨_, rfl⟩
      replace H : (if 0 ≤ (ji13) then (if (ji13) < (l0.length : Int) then ((y_d.f k1 ((rd_T39 l0 x4_1).f0) ((rd_T39 l0 (ji13)).f0)).bind fun t800 => (if x3_1.length < 5864062014805 then (y_n.l0 k1 l0 (x3_1 ++ [(⟨t800⟩ : S39)]) (wrap64 (x4_1 + 2))) else (none))) else (none)) else (none)) = some r := by first | (rw [hji13] at H; exact H) | (simp only [hji13] at H ⊢; exact H)
      (try rw [hji13] at c5b0)
      (try rw [hji13] at c5b1)
      have hji13w : (IntKind.i64.wrap (x4_1 + 1)) = ji13 := (i64_w _).trans hji13
      by_cases c14 : 0 ≤ (ji13)
      ·rw [if_pos c14] at H
       have c14b0 : decide (0 ≤ (ji13)) = true := decide_eq_true c14
       clear c14
       by_cases c15 : (ji13) < (l0.length : Int)
       ·rw [if_pos c15] at H
        have c15b0 : decide ((ji13) < (l0.length : Int)) = true := decide_eq_true c15
        clear c15
        replace H := z14f.mp H
        obtain ⟨t800, A160, H⟩ := H
        have A16 := z14a A160
        clear A160
        by_cases c17 : x3_1.length < 5864062014805
        ·rw [if_pos c17] at H
         have LMc17 := z14a c17
         clear c17
         obtain ⟨y803, hy803⟩ : ∃ y_ : List (S39), y_ = (x3_1 ++ [(⟨t800⟩ : S39)]) := ⟨_, rfl⟩
         replace H : (y_n.l0 k1 l0 y803 (wrap64 (x4_1 + 2))) = some r := by first | (rw [hy803]; with_reducible exact H) | (have H2_ := (Option.bind_some _ _).symm.trans H; rw [hy803]; with_reducible exact H2_) | (have H2_ := (Option.bind_some _ _).symm.trans H; with_reducible exact H2_) | with_reducible exact H | (rw [hy803]; exact H) | exact H
         have Ny803 := z14a hy803
         clear hy803
         have H' := z14a H
         clear H
         try go_wp2
         have n0_ := z14a (Kd.S_drew HO_3.out)
         have n1_ := z14a (z14c HB.out)
         clear HO_3
         clear HB
         have HO_3 := n0_
         have HB := n1_
         clear n0_ n1_
         have p798 : 0 ≤ (x4_1 : Int) := of_decide_eq_true (by first | (with_reducible assumption) | assumption)
         have q798 : x4_1 < (l0.length : Int) := of_decide_eq_true (by first | (with_reducible assumption) | assumption)
         obtain ⟨ad798, A798_0, c798_0, e798, hx798_0, hl798_0, hi798_0⟩ := at_T39 HR0.out x4_1 p798 q798
         have hw798_0 := hx798_0
         cases e798
         replace hx798_0 := (HB.out.cell (z14e w _ hx798_0)).trans hx798_0
         have HR798_0 := z14a hi798_0
         have HC798_0 := z14a hl798_0
         clear hi798_0 hl798_0
         replace p798 := eq_true p798
         replace q798 := eq_true q798
         have p799 : 0 ≤ ((ji13) : Int) := of_decide_eq_true (by first | (with_reducible assumption) | assumption)
         have q799 : (ji13) < (l0.length : Int) := of_decide_eq_true (by first | (with_reducible assumption) | assumption)
         obtain ⟨ad799, A799_0, c799_0, e799, hx799_0, hl799_0, hi799_0⟩ := at_T39 HR0.out (ji13) p799 q799
         have hw799_0 := hx799_0
         obtain rfl : ad798 = ad799 := (by injection e799)
         replace hx799_0 := (HB.out.cell (z14e w _ hx799_0)).trans hx799_0
         have HR799_0 := z14a hi799_0
         have HC799_0 := z14a hl799_0
         clear hi799_0 hl799_0
         replace p799 := eq_true p799
         replace q799 := eq_true q799
         refine start_ (n := 17) (S := fun w' => w'.cell? (ad798.add (x4_1).toNat) = some (.slice A798_0 ((rd_T39 l0 x4_1).f0).length c798_0) ∧ w'.cell? (ad798.add ((ji13)).toNat) = some (.slice A799_0 ((rd_T39 l0 (ji13)).f0).length c799_0)) (ds := []) #[zf14,zf14,zf14,zf14,zf14,zf14,zf14,zf14,zf14,zf14,zf14,zf14,zf14,zf14,zf14,zf14,zf14] (by kernel_rfl) rfl rfl ⟨((HB.out.cell (z14e w _ hw798_0)).trans hw798_0), ((HB.out.cell (z14e w _ hw799_0)).trans hw799_0)⟩ (fun hHeld => ?_); refine with_tabW y_n.tab7 y_n.bits7 (fun HT_ HW_ => ?_)
         generalize wr.drew = w18 at HO_3 HB HR798_0 HR799_0 hx798_0 hx799_0 hHeld ⊢
         refine pure_ (i := 0) (N := some 27) (v := ?_) (a' := ?_) #[zt14,zf14,zf14,zf14,zf14,zf14,zf14,zf14,zf14,zf14,zf14,zf14,zf14,zf14,zf14,zf14,zf14] rfl rfl (any_of HT_.out (by kernel_rfl)) (fun _ _ _ h => h) (Or.inl ⟨by rfl, ?_⟩) ?_ ?_
         rotate_left
         ·intro w'
          go_simp
          with_reducible rfl
         rotate_left
         ·simp only [Act.put, zp14a, zp14b, zp14c, i64_w, i32_w]
          rfl
         refine pure_ (i := 1) (N := some 28) (v := ?_) (a' := ?_) #[zt14,zt14,zf14,zf14,zf14,zf14,zf14,zf14,zf14,zf14,zf14,zf14,zf14,zf14,zf14,zf14,zf14] rfl rfl (any_of HT_.out (by kernel_rfl)) (fun _ _ _ h => h) (Or.inl ⟨by rfl, ?_⟩) ?_ ?_
         rotate_left
         ·intro w'
          go_simp
          with_reducible rfl
         rotate_left
         ·simp only [Act.put, zp14a, zp14b, zp14c, i64_w, i32_w]
          rfl
         refine pure_ (i := 2) (N := some 29) (v := ?_) (a' := ?_) #[zt14,zt14,zt14,zf14,zf14,zf14,zf14,zf14,zf14,zf14,zf14,zf14,zf14,zf14,zf14,zf14,zf14] rfl rfl (any_of HT_.out (by kernel_rfl)) (fun _ _ _ h => h) (Or.inl ⟨by rfl, ?_⟩) ?_ ?_
         rotate_left
         ·intro w'
          go_simp
          with_reducible rfl
         rotate_left
         ·simp only [Act.put, zp14a, zp14b, zp14c, i64_w, i32_w]
          rfl
         refine pure_ (i := 3) (N := some 30) (v := ?_) (a' := ?_) #[zt14,zt14,zt14,zt14,zf14,zf14,zf14,zf14,zf14,zf14,zf14,zf14,zf14,zf14,zf14,zf14,zf14] rfl rfl (any_of HT_.out (by kernel_rfl)) (fun _ _ _ h => h) (Or.inl ⟨by rfl, ?_⟩) ?_ ?_
         rotate_left
         ·intro w'
          go_simp
          with_reducible rfl
         rotate_left
         ·simp only [Act.put, zp14a, zp14b, zp14c, i64_w, i32_w]
          rfl
         refine pure_ (i := 4) (N := some 31) (v := ?_) (a' := ?_) #[zt14,zt14,zt14,zt14,zt14,zf14,zf14,zf14,zf14,zf14,zf14,zf14,zf14,zf14,zf14,zf14,zf14] rfl rfl (any_of HT_.out (by kernel_rfl)) (fun _ _ _ h => h) (Or.inl ⟨by rfl, ?_⟩) ?_ ?_
         rotate_left
         ·intro w'
          go_simp
          with_reducible rfl
         rotate_left
         ·simp only [Act.put, zp14a, zp14b, zp14c, i64_w, i32_w]
          rfl
         refine pure_ (i := 6) (N := some 33) (v := ?_) (a' := ?_) #[zt14,zt14,zt14,zt14,zt14,zf14,zt14,zf14,zf14,zf14,zf14,zf14,zf14,zf14,zf14,zf14,zf14] rfl rfl (any_of HT_.out (by kernel_rfl)) (fun _ _ _ h => h) (Or.inl ⟨by rfl, ?_⟩) ?_ ?_
         rotate_left
         ·intro w'
          go_simp
          with_reducible rfl
         rotate_left
         ·simp only [Act.put, zp14a, zp14b, zp14c, i64_w, i32_w]
          rfl
         refine pure_ (i := 7) (N := some 34) (v := ?_) (a' := ?_) #[zt14,zt14,zt14,zt14,zt14,zf14,zt14,zt14,zf14,zf14,zf14,zf14,zf14,zf14,zf14,zf14,zf14] rfl rfl (any_of HT_.out (by kernel_rfl)) (fun _ _ _ h => h) (Or.inl ⟨by rfl, ?_⟩) ?_ ?_
         rotate_left
         ·intro w'
          go_simp
          with_reducible rfl
         rotate_left
         ·simp only [Act.put, zp14a, zp14b, zp14c, i64_w, i32_w]
          rfl
         refine pure_ (i := 8) (N := some 35) (v := ?_) (a' := ?_) #[zt14,zt14,zt14,zt14,zt14,zf14,zt14,zt14,zt14,zf14,zf14,zf14,zf14,zf14,zf14,zf14,zf14] rfl rfl (any_of HT_.out (by kernel_rfl)) (fun _ _ _ h => h) (Or.inl ⟨by rfl, ?_⟩) ?_ ?_
         rotate_left
         ·intro w'
          go_simp
          with_reducible rfl
         rotate_left
         ·simp only [Act.put, zp14a, zp14b, zp14c, i64_w, i32_w]
          rfl
         refine pure_ (i := 9) (N := some 36) (v := ?_) (a' := ?_) #[zt14,zt14,zt14,zt14,zt14,zf14,zt14,zt14,zt14,zt14,zf14,zf14,zf14,zf14,zf14,zf14,zf14] rfl rfl (any_of HT_.out (by kernel_rfl)) (fun _ _ _ h => h) (Or.inl ⟨by rfl, ?_⟩) ?_ ?_
         rotate_left
         ·intro w'
          go_simp
          with_reducible rfl
         rotate_left
         ·simp only [Act.put, zp14a, zp14b, zp14c, i64_w, i32_w]
          rfl
         refine pure_ (i := 10) (N := some 37) (v := ?_) (a' := ?_) #[zt14,zt14,zt14,zt14,zt14,zf14,zt14,zt14,zt14,zt14,zt14,zf14,zf14,zf14,zf14,zf14,zf14] rfl rfl (any_of HT_.out (by kernel_rfl)) (fun _ _ _ h => h) (Or.inl ⟨by rfl, ?_⟩) ?_ ?_
         rotate_left
         ·intro w'
          go_simp
          with_reducible rfl
         rotate_left
         ·simp only [Act.put, zp14a, zp14b, zp14c, i64_w, i32_w]
          rfl
         refine take_ (i := 5) (N := some 32) (v := ?_) (a' := ?_) #[zt14,zt14,zt14,zt14,zt14,zt14,zt14,zt14,zt14,zt14,zt14,zf14,zf14,zf14,zf14,zf14,zf14] rfl rfl (take_ofW HT_.out HW_.out (by kernel_rfl)) (fun _ _ _ h => h) (Or.inl ⟨by rfl, ?_⟩) hHeld ?_ ?_
         rotate_left
         ·rintro w' ⟨s0, s1⟩
          go_simp
          with_reducible rfl
         rotate_left
         ·simp only [Act.put, zp14a, zp14b, zp14c, i64_w, i32_w]
          rfl
         refine take_ (i := 11) (N := some 38) (v := ?_) (a' := ?_) #[zt14,zt14,zt14,zt14,zt14,zt14,zt14,zt14,zt14,zt14,zt14,zt14,zf14,zf14,zf14,zf14,zf14] rfl rfl (take_ofW HT_.out HW_.out (by kernel_rfl)) (fun _ _ _ h => h) (Or.inl ⟨by rfl, ?_⟩) hHeld ?_ ?_
         rotate_left
         ·rintro w' ⟨s0, s1⟩
          go_simp
          with_reducible rfl
         rotate_left
         ·simp only [Act.put, zp14a, zp14b, zp14c, i64_w, i32_w]
          rfl
         refine one_ (i := 12) (N := some 39) #[zt14,zt14,zt14,zt14,zt14,zt14,zt14,zt14,zt14,zt14,zt14,zt14,zt14,zf14,zf14,zf14,zf14] rfl rfl (one_of HT_.out (by kernel_rfl)) (by decide) (fun K hK => ?_)
         refine goes_ Try.func46 (by kernel_rfl) rfl #[.slice A798_0 ((rd_T39 l0 x4_1).f0).length c798_0, .slice A799_0 ((rd_T39 l0 (ji13)).f0).length c799_0] (by rfl) rfl rfl (by (try simp only [zm14a, zm14b, zm14c]); first | done | (simp only [hji13]; rfl) | rfl | (simp only [zm14d, zm14e]; rfl)) ?_
         with_reducible refine (y_d.calls k1 (fun k_ => k_ < w.heap.size) _ _ ((rd_T39 l0 x4_1).f0) (fun k_ => k_ < w.heap.size) _ _ ((rd_T39 l0 (ji13)).f0) t800 _ ?side1 ?side2 A16.out).mono ?_
         (case side1 => exact Kd.V_mk HC798_0.out (Kd.F_below (Kd.C_F k71_heap HR798_0.out) (by repeat (first | (with_reducible first | exact HB.out | apply z14d | apply z14b | apply z14c) | exact HB.out))))
         (case side2 => exact Kd.V_mk HC799_0.out (Kd.F_below (Kd.C_F k71_heap HR799_0.out) (by repeat (first | (with_reducible first | exact HB.out | apply z14d | apply z14b | apply z14c) | exact HB.out))))
         rintro e w19 ⟨v801, rfl, ho0, hb⟩
         refine ⟨_, rfl, ?_⟩
         have n0_ := z14a (Kd.S_elder' (by (with_reducible repeat (first | apply Kd.S_alloc | apply Kd.S_drewN | apply Kd.S_drew)); exact HO_3.out) (Kd.R_base ho0) hb)
         have n1_ := z14a (Kd.R_lower (Kd.R_mono (ok' := fun k_ => True) ho0 (fun _ hk_ => trivial)) (below_size (by repeat (first | (with_reducible first | exact HB.out | apply z14d | apply z14b | apply z14c) | exact HB.out))))
         have n2_ := z14a (below_step (by repeat (first | (with_reducible first | exact HB.out | apply z14d | apply z14b | apply z14c) | exact HB.out)) hb)
         clear HO_3
         clear HB
         have HO_3 := n0_
         have HO802 := n1_
         have HB := n2_
         clear n0_ n1_ n2_
         (try clear hb)
         (try clear hb2)
         (try clear hk)
         (try clear hi)
         (try clear ho0)
         obtain ⟨Ao20, co20, eo20⟩ := Kd.R_slice HO802.out
         (first | subst eo20 | (injection eo20 with f1_ f2_ f3_; have f4_ := f1_.symm; have f5_ := f3_.symm; clear f1_ f2_ f3_; subst f4_; subst f5_))
         refine hK.out _ _ ⟨((HB.out.cell (z14e w _ hw798_0)).trans hw798_0), ((HB.out.cell (z14e w _ hw799_0)).trans hw799_0)⟩ (fun hHeld => ?_)
         clear hK K
         refine norm_ (a' := ?_) ?_ ?_
         rotate_left
         ·show Act.put _ (some 39) _ = _
          simp only [Act.put, zp14a, zp14b, zp14c, i64_w, i32_w]
          rfl
         refine pure_ (i := 13) (N := some 40) (v := ?_) (a' := ?_) #[zt14,zt14,zt14,zt14,zt14,zt14,zt14,zt14,zt14,zt14,zt14,zt14,zt14,zt14,zf14,zf14,zf14] rfl rfl (any_of HT_.out (by kernel_rfl)) (fun _ _ _ h => h) (Or.inl ⟨by rfl, ?_⟩) ?_ ?_
         rotate_left
         ·intro w'
          go_simp
          with_reducible rfl
         rotate_left
         ·simp only [Act.put, zp14a, zp14b, zp14c, i64_w, i32_w]
          rfl
         refine one_ (i := 14) (N := some 41) #[zt14,zt14,zt14,zt14,zt14,zt14,zt14,zt14,zt14,zt14,zt14,zt14,zt14,zt14,zt14,zf14,zf14] rfl rfl (one_of HT_.out (by kernel_rfl)) (by decide) (fun K hK => ?_)
         refine value_ (w1 := ?_) (v := ?_) (by rfl) rfl ?_ ?_
         rotate_left 2
         ·go_simp
          constructor
          ·rfl
          ·rfl
         refine hK.out _ _ ⟨(World.cell?_alloc_lt _ _ _ (z14e _ _ (((HB.out.cell (z14e w _ hw798_0)).trans hw798_0)))).trans (((HB.out.cell (z14e w _ hw798_0)).trans hw798_0)), (World.cell?_alloc_lt _ _ _ (z14e _ _ (((HB.out.cell (z14e w _ hw799_0)).trans hw799_0)))).trans (((HB.out.cell (z14e w _ hw799_0)).trans hw799_0))⟩ (fun hHeld => ?_)
         clear hK K
         refine norm_ (a' := ?_) ?_ ?_
         rotate_left
         ·show Act.put _ (some 41) _ = _
          simp only [Act.put, zp14a, zp14b, zp14c, i64_w, i32_w]
          rfl
         refine one_ (i := 15) (N := some 42) #[zt14,zt14,zt14,zt14,zt14,zt14,zt14,zt14,zt14,zt14,zt14,zt14,zt14,zt14,zt14,zt14,zf14] rfl rfl (one_of HT_.out (by kernel_rfl)) (by decide) (fun K hK => ?_)
         refine Kd.S_append_step k39 (w0 := w) w.heap.size (by rfl) (.tmp 27) (.tmp 41) 27 39 (.agg #[(.slice none 0 0)]) 24 rfl Try.underlying27 info39 rfl (by decide) (by omega) u3 x3_1 (⟨t800⟩ : S39) [.slice Ao20 t800.length co20] (fun _ => True) (fun k_ => some k_ = (.slice Ao20 t800.length co20 : Value).ownBlock) rfl rfl ?aP (fun k_ hk_ => ((Kd.R_mono (ok' := fun k_ => ((fun _ => True)) k_ ∧ some k_ ≠ (u3 : Value).ownBlock) (Kd.R_apart' (HO802.out) (Kd.S_typed HO_3.out) (by decide)) (fun k_ hk => ⟨trivial, hk.2⟩))).1 k_ hk_.symm) ?aF ?aO ?aB ?aS ?aL ?_
         (case aP => exact k39_mkM _ _ _ (⟨t800⟩ : S39) (Kd.R_mono (Kd.R_tight rfl (Kd.R_mono (ok' := fun k_ => ((fun _ => True)) k_ ∧ some k_ ≠ (u3 : Value).ownBlock) (Kd.R_apart' (HO802.out) (Kd.S_typed HO_3.out) (by decide)) (fun k_ hk => ⟨trivial, hk.2⟩))) (fun _ h_ => h_)))
         (case aB => exact (by repeat (first | (with_reducible first | exact HB.out | apply z14d | apply z14b | apply z14c) | exact HB.out)))
         (case aF => exact (fun _ _ => trivial))
         (case aO => exact (by (with_reducible repeat (first | apply Kd.S_alloc | apply Kd.S_drewN | apply Kd.S_drew)); exact Kd.S_mono HO_3.out (fun k_ hk => ⟨trivial, fun e_ => hk.2 e_⟩)))
         (case aS => exact (below_size (by repeat (first | (with_reducible first | exact HB.out | apply z14d | apply z14b | apply z14c) | exact HB.out))))
         (case aL => have := LMc17.out; omega)
         intro v804 w21 ho hb hg hat
         rw [← Ny803.out] at ho
         have n0_ := z14a (hb)
         have n1_ := z14a (ho)
         clear HB
         clear HO_3
         clear HO802
         have HB := n0_
         have HO805 := n1_
         clear n0_ n1_
         clear ho hb hg hat
         refine hK.out _ _ ⟨((HB.out.cell (z14e w _ hw798_0)).trans hw798_0), ((HB.out.cell (z14e w _ hw799_0)).trans hw799_0)⟩ (fun hHeld => ?_)
         clear hK K
         refine norm_ (a' := ?_) ?_ ?_
         rotate_left
         ·show Act.put _ (some 42) _ = _
          simp only [Act.put, zp14a, zp14b, zp14c, i64_w, i32_w]
          rfl
         refine pure_ (i := 16) (N := some 3) (v := ?_) (a' := ?_) #[zt14,zt14,zt14,zt14,zt14,zt14,zt14,zt14,zt14,zt14,zt14,zt14,zt14,zt14,zt14,zt14,zt14] rfl rfl (any_of HT_.out (by kernel_rfl)) (fun _ _ _ h => h) (Or.inl ⟨by rfl, ?_⟩) ?_ ?_
         rotate_left
         ·intro w'
          go_simp
          with_reducible rfl
         rotate_left
         ·simp only [Act.put, zp14a, zp14b, zp14c, i64_w, i32_w]
          rfl
         refine done_ (done_of HT_.out (by kernel_rfl)) ?_
         try go_wp2
         go_roundg k1
         case measure => have := HK1.out; omega
         case rel => exact ⟨(y803), (wrap64 (x4_1 + 2)), (by first | rfl | (simp; done) | (simp [*]; done)), H', ⟨by have := HK1.out; omega⟩, ⟨by (with_reducible repeat (first | apply Kd.S_alloc | apply Kd.S_drewN | apply Kd.S_drew)); exact HO805.out⟩, ⟨by repeat (first | (with_reducible first | exact HB.out | apply z14d | apply z14b | apply z14c) | exact HB.out)⟩⟩
        ·rw [if_neg c17] at H
         exact absurd H (by simp)
       ·rw [if_neg c15] at H
        exact absurd H (by simp)
      ·rw [if_neg c14] at H
       exact absurd H (by simp)
     ·rw [if_neg c12] at H
      exact absurd H (by simp)
   ·rw [if_neg c4] at H
    have c4b0 : decide (x4_1 < (l0.length : Int)) = false := decide_eq_false c4
    clear c4
    obtain rfl := Option.some.inj H
    go_wp2
    go_ret
    exact ⟨_, by first | rfl | (simp [errW_none, errW_some] <;> rfl) | (simp [*, errW_none, errW_some] <;> rfl), by (with_reducible repeat (first | apply Kd.S_alloc | apply Kd.S_drewN | apply Kd.S_drew)); exact HO_3.out, by repeat (first | (with_reducible first | exact HB.out | apply z14d | apply z14b | apply z14c) | exact HB.out)⟩
def y_x.l0 : Nat → List (S39) → Int → Option ((List (S71)) × Int × Bool)
 | 0, _, _ => none
 | k + 1, x0, x5 => if (x0.length : Int) > 1 then ((y_n.f k x0).bind fun t810 => (y_x.l0 k t810 (wrap64 (x5 + 1)))) else ((y_fb.f k x0).bind fun t813 => (some (t813, x5, true)))
def y_x.f (k : Nat) (l0 : List (S39)) : Option ((List (S71)) × Int × Bool) := (y_z.f k l0).bind fun t806 => (if t806 = true then ((y_r.f k l0).bind fun t807 => (y_x.l0 k t807 0)) else (some (([] : List (S71)), 0, false)))
theorem y_x.calls (k : Nat) (A0 : Option Addr) (c0 : Nat) (l0 : List (S39)) (r1 : List (S71)) (r2 : Int) (r3 : Bool) (w : World) (hr0 : Kd.C k39 w A0 l0.length l0) (hc0 : l0.length ≤ c0) (h : y_x.f k l0 = some (r1, r2, r3)) :
  Calls Try.prog 43 #[.slice A0 l0.length c0] w fun e w' => ∃ v0_ : Value, e = .returned (.tuple #[v0_, .int .i64 r2, .bool r3]) ∧ Kd.R k71 71 w' w.heap.size (fun _ => True) v0_ r1 ∧ Below w.heap.size w w' := by
 have HR0 := z14a hr0
 have HC0 := z14a hc0
 clear hr0 hc0
 have HB := z14a (Below.refl w.heap.size w)
 have H := h
 unfold y_x.f at H
 clear h
 replace H := z14f.mp H
 obtain ⟨t806, A20, H⟩ := H
 have A2 := z14a A20
 clear A20
 by_cases c3 : t806 = true
 ·subst c3
  rw [if_pos rfl] at H
  replace H := z14f.mp H
  obtain ⟨t807, A40, H⟩ := H
  have A4 := z14a A40
  clear A40
  have H' := z14a H
  clear H
  go_enter Try.func43, Try.ntmps43
  go_wp2_with (first | ((with_reducible refine gate_callee (f := 22) rfl ?_); refine goesL_ (some 7) rfl rfl Try.func22 (by kernel_rfl) rfl #[.slice A0 l0.length c0] rfl (by (try simp only [zm14a, zm14b, zm14c]); first | done | rfl | (simp only [zm14d, zm14e]; rfl)) ?_; (with_reducible refine (y_z.calls k _ _ l0 true _ ?side1 ?side2 A2.out).mono ?_); (case side1 => repeat (first | exact HR0.out | (with_reducible refine z14i ?_ _) | (with_reducible refine z14j ?_ _) | (with_reducible refine Kd.C_drew ?_))); (case side2 => exact HC0.out); rintro e w5 ⟨rfl, hb⟩; refine ⟨_, rfl, ?_⟩; have n0_ := z14a (below_step (by repeat (first | (with_reducible first | exact HB.out | apply z14d | apply z14b | apply z14c) | exact HB.out)) hb); clear HB; have HB := n0_; clear n0_; (try clear hb); (try clear hb2); (try clear hk); (try clear hi)) | ((with_reducible refine gate_callee (f := 113) rfl ?_); refine goesL_ (some 10) rfl rfl Try.func113 (by kernel_rfl) rfl #[.slice A0 l0.length c0] rfl (by (try simp only [zm14a, zm14b, zm14c]); first | done | rfl | (simp only [zm14d, zm14e]; rfl)) ?_; (with_reducible refine (y_r.calls k _ _ l0 t807 _ ?side1 ?side2 A4.out).mono ?_); (case side1 => repeat (first | exact (Kd.C_below HR0.out HB.out) | (with_reducible refine z14i ?_ _) | (with_reducible refine z14j ?_ _) | (with_reducible refine Kd.C_drew ?_))); (case side2 => exact HC0.out); rintro e w6 ⟨v808, rfl, ho0, hb⟩; refine ⟨_, rfl, ?_⟩; have n0_ := z14a (Kd.S_lower ho0 (below_size (by repeat (first | (with_reducible first | exact HB.out | apply z14d | apply z14b | apply z14c) | exact HB.out)))); have n1_ := z14a (below_step (by repeat (first | (with_reducible first | exact HB.out | apply z14d | apply z14b | apply z14c) | exact HB.out)) hb); clear HB; have HO809 := n0_; have HB := n1_; clear n0_ n1_; (try clear hb); (try clear hb2); (try clear hk); (try clear hi); (try clear ho0)))
  go_loopg [0, 5] k (fun kq v0 v5 w' => ∃ (x0_1 : List (S39)) (x5_1 : Int), v5 = .int .i64 x5_1 ∧ Aside0 (y_x.l0 kq x0_1 x5_1 = some (r1, r2, r3)) ∧ Aside0 (kq ≤ k) ∧ Aside0 (Kd.S k39 39 w' w.heap.size (fun _ => True) v0 x0_1) ∧ Aside0 (Below w.heap.size w w'))
  case atStart => exact ⟨(t807), (0), (by first | rfl | (simp; done) | (simp [*]; done)), H', ⟨Nat.le_refl _⟩, ⟨by (with_reducible repeat (first | apply Kd.S_alloc | apply Kd.S_drewN | apply Kd.S_drew)); exact HO809.out⟩, ⟨by repeat (first | (with_reducible first | exact HB.out | apply z14d | apply z14b | apply z14c) | exact HB.out)⟩⟩
  case round =>
   clear H'
   try clear c1
   try clear c2
   try clear p2
   try clear c3
   try clear c4
   obtain ⟨x0_1, x5_1, rfl, HA, HK1, HO_0, HB⟩ := hrel
   cases gk with
   | zero => exact absurd HA.out (by simp [y_x.l0])
   | succ k1 =>
    have H := HA.out
    clear HA
    simp only [y_x.l0] at H
    by_cases c7 : (x0_1.length : Int) > 1
    ·rw [if_pos c7] at H
     have c7b0 : decide (1 < (x0_1.length : Int)) = true := decide_eq_true c7
     have c7b1 : decide (1 < x0_1.length) = true := decide_eq_true (by omega)
     clear c7
     replace H := z14f.mp H
     obtain ⟨t810, A80, H⟩ := H
     have A8 := z14a A80
     clear A80
     have H' := z14a H
     clear H
     obtain ⟨Ao9, co9, eo9⟩ := Kd.S_slice HO_0.out
     subst eo9
     go_wp2_with (first | ((with_reducible refine gate_callee (f := 49) rfl ?_); refine goesL_ (some 15) rfl rfl Try.func49 (by kernel_rfl) rfl #[.slice Ao9 x0_1.length co9] rfl (by (try simp only [zm14a, zm14b, zm14c]); first | done | rfl | (simp only [zm14d, zm14e]; rfl)) ?_; (with_reducible refine (y_n.calls k1 _ _ x0_1 t810 _ ?side1 ?side2 A8.out).mono ?_); (case side1 => repeat (first | exact (Kd.S_reads' HO_0.out).2.2 | (with_reducible refine z14i ?_ _) | (with_reducible refine z14j ?_ _) | (with_reducible refine Kd.C_drew ?_))); (case side2 => exact (Kd.S_reads' HO_0.out).2.1); rintro e w10 ⟨v811, rfl, ho0, hb⟩; refine ⟨_, rfl, ?_⟩; have n0_ := z14a (Kd.S_elder' (by (with_reducible repeat (first | apply Kd.S_alloc | apply Kd.S_drewN | apply Kd.S_drew)); exact HO_0.out) (Kd.S_base ho0) hb); have n1_ := z14a (Kd.S_lower (Kd.S_new' ho0 (Kd.S_lt (by (with_reducible repeat (first | apply Kd.S_alloc | apply Kd.S_drewN | apply Kd.S_drew)); exact HO_0.out))) (below_size (by repeat (first | (with_reducible first | exact HB.out | apply z14d | apply z14b | apply z14c) | exact HB.out)))); have n2_ := z14a (below_step (by repeat (first | (with_reducible first | exact HB.out | apply z14d | apply z14b | apply z14c) | exact HB.out)) hb); clear HO_0; clear HB; have HO_0 := n0_; have HO812 := n1_; have HB := n2_; clear n0_ n1_ n2_; (try clear hb); (try clear hb2); (try clear hk); (try clear hi); (try clear ho0)))
     go_roundg k1
     case measure => have := HK1.out; omega
     case rel => exact ⟨(t810), (wrap64 (x5_1 + 1)), (by first | rfl | (simp; done) | (simp [*]; done)), H', ⟨by have := HK1.out; omega⟩, ⟨by (with_reducible repeat (first | apply Kd.S_alloc | apply Kd.S_drewN | apply Kd.S_drew)); exact Kd.S_mono HO812.out (fun _ hk => trivial)⟩, ⟨by repeat (first | (with_reducible first | exact HB.out | apply z14d | apply z14b | apply z14c) | exact HB.out)⟩⟩
    ·rw [if_neg c7] at H
     have c7b0 : decide (1 < (x0_1.length : Int)) = false := decide_eq_false c7
     have c7b1 : decide (1 < x0_1.length) = false := decide_eq_false (by omega)
     clear c7
     replace H := z14f.mp H
     obtain ⟨t813, A110, H⟩ := H
     have A11 := z14a A110
     clear A110
     simp only [Option.some.injEq, Prod.mk.injEq] at H
     obtain ⟨rfl, rfl, rfl⟩ := H
     obtain ⟨Ao12, co12, eo12⟩ := Kd.S_slice HO_0.out
     subst eo12
     go_wp2_with (first | ((with_reducible refine gate_callee (f := 29) rfl ?_); refine goesL_ (some 19) rfl rfl Try.func29 (by kernel_rfl) rfl #[.slice Ao12 x0_1.length co12] rfl (by (try simp only [zm14a, zm14b, zm14c]); first | done | rfl | (simp only [zm14d, zm14e]; rfl)) ?_; (with_reducible refine (y_fb.calls k1 _ _ x0_1 t813 _ ?side1 ?side2 A11.out).mono ?_); (case side1 => repeat (first | exact (Kd.S_reads' HO_0.out).2.2 | (with_reducible refine z14i ?_ _) | (with_reducible refine z14j ?_ _) | (with_reducible refine Kd.C_drew ?_))); (case side2 => exact (Kd.S_reads' HO_0.out).2.1); rintro e w13 ⟨v814, rfl, ho0, hb⟩; refine ⟨_, rfl, ?_⟩; have n0_ := z14a (Kd.S_elder' (by (with_reducible repeat (first | apply Kd.S_alloc | apply Kd.S_drewN | apply Kd.S_drew)); exact HO_0.out) (Kd.R_base ho0) hb); have n1_ := z14a (Kd.R_lower ho0 (below_size (by repeat (first | (with_reducible first | exact HB.out | apply z14d | apply z14b | apply z14c) | exact HB.out)))); have n2_ := z14a (below_step (by repeat (first | (with_reducible first | exact HB.out | apply z14d | apply z14b | apply z14c) | exact HB.out)) hb); clear HO_0; clear HB; have HO_0 := n0_; have HO815 := n1_; have HB := n2_; clear n0_ n1_ n2_; (try clear hb); (try clear hb2); (try clear hk); (try clear hi); (try clear ho0)))
     go_ret3
     exact ⟨_, by first | rfl | (simp [errW_none, errW_some] <;> rfl) | (simp [*, errW_none, errW_some] <;> rfl), by (with_reducible repeat (first | apply z14g | apply z14h | apply Kd.R_drew)); exact HO815.out, by repeat (first | (with_reducible first | exact HB.out | apply z14d | apply z14b | apply z14c) | exact HB.out)⟩
 ·replace c3 := Bool.eq_false_iff.mpr c3
  subst c3
  have H1 : (some (([] : List (S71)), 0, false)) = some (r1, r2, r3) := by rw [if_neg (show ¬ (false = true) by decide)] at H; exact H
  clear H
  have H := H1
  clear H1
  simp only [Option.some.injEq, Prod.mk.injEq] at H
  obtain ⟨rfl, rfl, rfl⟩ := H
  go_enter Try.func43, Try.ntmps43
  go_wp2_with (first | ((with_reducible refine gate_callee (f := 22) rfl ?_); refine goesL_ (some 7) rfl rfl Try.func22 (by kernel_rfl) rfl #[.slice A0 l0.length c0] rfl (by (try simp only [zm14a, zm14b, zm14c]); first | done | rfl | (simp only [zm14d, zm14e]; rfl)) ?_; (with_reducible refine (y_z.calls k _ _ l0 false _ ?side1 ?side2 A2.out).mono ?_); (case side1 => repeat (first | exact HR0.out | (with_reducible refine z14i ?_ _) | (with_reducible refine z14j ?_ _) | (with_reducible refine Kd.C_drew ?_))); (case side2 => exact HC0.out); rintro e w14 ⟨rfl, hb⟩; refine ⟨_, rfl, ?_⟩; have n0_ := z14a (below_step (by repeat (first | (with_reducible first | exact HB.out | apply z14d | apply z14b | apply z14c) | exact HB.out)) hb); clear HB; have HB := n0_; clear n0_; (try clear hb); (try clear hb2); (try clear hk); (try clear hi)))
  go_ret3
  exact ⟨_, by first | rfl | (simp [errW_none, errW_some] <;> rfl) | (simp [*, errW_none, errW_some] <;> rfl), by first | exact Kd.R_nil _ _ _ _ _ | exact Kd.N_nil _ _ _ _ _ | exact Kd.V_nil _ _ _ _ _ | exact Kd.Q_nil _ _ _ _ _ | exact Kd.S_nil _ _ _ _ _, by repeat (first | (with_reducible first | exact HB.out | apply z14d | apply z14b | apply z14c) | exact HB.out)⟩
def y_tb.f (k : Nat) (l0 : List (S71)) (a1 : Int) : Option ((List (S71)) × Int × Bool) := (y_b.f k l0 a1).bind fun bt816 => (if bt816.2 = true then ((y_x.f k bt816.1).bind fun bt820 => (if bt820.2.2 = true then ((y_p.f k l0).bind fun t825 => (some (bt820.1, wrap64 (t825 * (wrap64 (bt820.2.1 + 1))), true))) else (some (([] : List (S71)), 0, false)))) else (some (([] : List (S71)), 0, false)))
theorem y_tb.calls (k : Nat) (A0 : Option Addr) (c0 : Nat) (l0 : List (S71)) (a1 : Int) (r1 : List (S71)) (r2 : Int) (r3 : Bool) (w : World) (hr0 : Kd.C k71 w A0 l0.length l0) (hc0 : l0.length ≤ c0) (h : y_tb.f k l0 a1 = some (r1, r2, r3)) :
  Calls Try.prog 58 #[.slice A0 l0.length c0, .int .i64 a1] w fun e w' => ∃ v0_ : Value, e = .returned (.tuple #[v0_, .int .i64 r2, .bool r3]) ∧ Kd.R k71 71 w' w.heap.size (fun _ => True) v0_ r1 ∧ Below w.heap.size w w' := by
 have HR0 := z14a hr0
 have HC0 := z14a hc0
 clear hr0 hc0
 have HB := z14a (Below.refl w.heap.size w)
 have H := h
 unfold y_tb.f at H
 clear h
 replace H := z14f.mp H
 obtain ⟨⟨t816, t817⟩, A30, H⟩ := H
 replace H : (if t817 = true then ((y_x.f k t816).bind fun bt820 => (if bt820.2.2 = true then ((y_p.f k l0).bind fun t825 => (some (bt820.1, wrap64 (t825 * (wrap64 (bt820.2.1 + 1))), true))) else (some (([] : List (S71)), 0, false)))) else (some (([] : List (S71)), 0, false))) = some (r1, r2, r3) := H
 have A3 := z14a A30
 clear A30
 by_cases c4 : t817 = true
 ·subst c4
  rw [if_pos rfl] at H
  replace H := z14f.mp H
  obtain ⟨⟨t820, t821, t822⟩, A50, H⟩ := H
  replace H : (if t822 = true then ((y_p.f k l0).bind fun t825 => (some (t820, wrap64 (t825 * (wrap64 (t821 + 1))), true))) else (some (([] : List (S71)), 0, false))) = some (r1, r2, r3) := H
  have A5 := z14a A50
  clear A50
  by_cases c6 : t822 = true
  ·subst c6
   rw [if_pos rfl] at H
   replace H := z14f.mp H
   obtain ⟨t825, A70, H⟩ := H
   have A7 := z14a A70
   clear A70
   simp only [Option.some.injEq, Prod.mk.injEq] at H
   obtain ⟨rfl, rfl, rfl⟩ := H
   go_enter Try.func58, Try.ntmps58
   go_wp2_with (first | ((with_reducible refine gate_callee (f := 17) rfl ?_); refine goesL_ (some 14) rfl rfl Try.func17 (by kernel_rfl) rfl #[.slice A0 l0.length c0, .int .i64 a1] rfl (by (try simp only [zm14a, zm14b, zm14c]); first | done | rfl | (simp only [zm14d, zm14e]; rfl)) ?_; (with_reducible refine (y_b.calls k _ _ l0 a1 t816 true _ ?side1 ?side2 A3.out).mono ?_); (case side1 => repeat (first | exact HR0.out | (with_reducible refine z14i ?_ _) | (with_reducible refine z14j ?_ _) | (with_reducible refine Kd.C_drew ?_))); (case side2 => exact HC0.out); rintro e w8 ⟨v818, rfl, ho0, hb⟩; refine ⟨_, rfl, ?_⟩; have n0_ := z14a (Kd.S_lower ho0 (below_size (by repeat (first | (with_reducible first | exact HB.out | apply z14d | apply z14b | apply z14c) | exact HB.out)))); have n1_ := z14a (below_step (by repeat (first | (with_reducible first | exact HB.out | apply z14d | apply z14b | apply z14c) | exact HB.out)) hb); clear HB; have HO819 := n0_; have HB := n1_; clear n0_ n1_; (try clear hb); (try clear hb2); (try clear hk); (try clear hi); (try clear ho0); obtain ⟨Ao9, co9, eo9⟩ := Kd.S_slice HO819.out; subst eo9) | ((with_reducible refine gate_callee (f := 43) rfl ?_); refine goesL_ (some 21) rfl rfl Try.func43 (by kernel_rfl) rfl #[.slice Ao9 t816.length co9] rfl (by (try simp only [zm14a, zm14b, zm14c]); first | done | rfl | (simp only [zm14d, zm14e]; rfl)) ?_; (with_reducible refine (y_x.calls k _ _ t816 t820 t821 true _ ?side1 ?side2 A5.out).mono ?_); (case side1 => repeat (first | exact (Kd.S_reads' HO819.out).2.2 | (with_reducible refine z14i ?_ _) | (with_reducible refine z14j ?_ _) | (with_reducible refine Kd.C_drew ?_))); (case side2 => exact (Kd.S_reads' HO819.out).2.1); rintro e w10 ⟨v823, rfl, ho0, hb⟩; refine ⟨_, rfl, ?_⟩; have n0_ := z14a (Kd.S_elder' (by (with_reducible repeat (first | apply Kd.S_alloc | apply Kd.S_drewN | apply Kd.S_drew)); exact HO819.out) (Kd.R_base ho0) hb); have n1_ := z14a (Kd.R_lower ho0 (below_size (by repeat (first | (with_reducible first | exact HB.out | apply z14d | apply z14b | apply z14c) | exact HB.out)))); have n2_ := z14a (below_step (by repeat (first | (with_reducible first | exact HB.out | apply z14d | apply z14b | apply z14c) | exact HB.out)) hb); clear HO819; clear HB; have HO819 := n0_; have HO824 := n1_; have HB := n2_; clear n0_ n1_ n2_; (try clear hb); (try clear hb2); (try clear hk); (try clear hi); (try clear ho0)) | ((with_reducible refine gate_callee (f := 109) rfl ?_); refine goesL_ (some 29) rfl rfl Try.func109 (by kernel_rfl) rfl #[.slice A0 l0.length c0] rfl (by (try simp only [zm14a, zm14b, zm14c]); first | done | rfl | (simp only [zm14d, zm14e]; rfl)) ?_; (with_reducible refine (y_p.calls k _ _ l0 t825 _ ?side1 ?side2 A7.out).mono ?_); (case side1 => repeat (first | exact (Kd.C_below HR0.out HB.out) | (with_reducible refine z14i ?_ _) | (with_reducible refine z14j ?_ _) | (with_reducible refine Kd.C_drew ?_))); (case side2 => exact HC0.out); rintro e w11 ⟨rfl, hb⟩; refine ⟨_, rfl, ?_⟩; have n0_ := z14a (Kd.S_below (by (with_reducible repeat (first | apply Kd.S_alloc | apply Kd.S_drewN | apply Kd.S_drew)); exact HO819.out) hb); have n1_ := z14a (Kd.R_below (by (with_reducible repeat (first | apply z14g | apply z14h | apply Kd.R_drew)); exact HO824.out) hb); have n2_ := z14a (below_step (by repeat (first | (with_reducible first | exact HB.out | apply z14d | apply z14b | apply z14c) | exact HB.out)) hb); clear HO819; clear HO824; clear HB; have HO819 := n0_; have HO824 := n1_; have HB := n2_; clear n0_ n1_ n2_; (try clear hb); (try clear hb2); (try clear hk); (try clear hi)))
   go_ret3
   exact ⟨_, by first | rfl | (simp [errW_none, errW_some] <;> rfl) | (simp [*, errW_none, errW_some] <;> rfl), by (with_reducible repeat (first | apply z14g | apply z14h | apply Kd.R_drew)); exact HO824.out, by repeat (first | (with_reducible first | exact HB.out | apply z14d | apply z14b | apply z14c) | exact HB.out)⟩
  ·replace c6 := Bool.eq_false_iff.mpr c6
   subst c6
   have H1 : (some (([] : List (S71)), 0, false)) = some (r1, r2, r3) := by rw [if_neg (show ¬ (false = true) by decide)] at H; exact H
   clear H
   have H := H1
   clear H1
   simp only [Option.some.injEq, Prod.mk.injEq] at H
   obtain ⟨rfl, rfl, rfl⟩ := H
   go_enter Try.func58, Try.ntmps58
   go_wp2_with (first | ((with_reducible refine gate_callee (f := 17) rfl ?_); refine goesL_ (some 14) rfl rfl Try.func17 (by kernel_rfl) rfl #[.slice A0 l0.length c0, .int .i64 a1] rfl (by (try simp only [zm14a, zm14b, zm14c]); first | done | rfl | (simp only [zm14d, zm14e]; rfl)) ?_; (with_reducible refine (y_b.calls k _ _ l0 a1 t816 true _ ?side1 ?side2 A3.out).mono ?_); (case side1 => repeat (first | exact HR0.out | (with_reducible refine z14i ?_ _) | (with_reducible refine z14j ?_ _) | (with_reducible refine Kd.C_drew ?_))); (case side2 => exact HC0.out); rintro e w12 ⟨v818, rfl, ho0, hb⟩; refine ⟨_, rfl, ?_⟩; have n0_ := z14a (Kd.S_lower ho0 (below_size (by repeat (first | (with_reducible first | exact HB.out | apply z14d | apply z14b | apply z14c) | exact HB.out)))); have n1_ := z14a (below_step (by repeat (first | (with_reducible first | exact HB.out | apply z14d | apply z14b | apply z14c) | exact HB.out)) hb); clear HB; have HO819 := n0_; have HB := n1_; clear n0_ n1_; (try clear hb); (try clear hb2); (try clear hk); (try clear hi); (try clear ho0); obtain ⟨Ao13, co13, eo13⟩ := Kd.S_slice HO819.out; subst eo13) | ((with_reducible refine gate_callee (f := 43) rfl ?_); refine goesL_ (some 21) rfl rfl Try.func43 (by kernel_rfl) rfl #[.slice Ao13 t816.length co13] rfl (by (try simp only [zm14a, zm14b, zm14c]); first | done | rfl | (simp only [zm14d, zm14e]; rfl)) ?_; (with_reducible refine (y_x.calls k _ _ t816 t820 t821 false _ ?side1 ?side2 A5.out).mono ?_); (case side1 => repeat (first | exact (Kd.S_reads' HO819.out).2.2 | (with_reducible refine z14i ?_ _) | (with_reducible refine z14j ?_ _) | (with_reducible refine Kd.C_drew ?_))); (case side2 => exact (Kd.S_reads' HO819.out).2.1); rintro e w14 ⟨v823, rfl, ho0, hb⟩; refine ⟨_, rfl, ?_⟩; have n0_ := z14a (Kd.S_elder' (by (with_reducible repeat (first | apply Kd.S_alloc | apply Kd.S_drewN | apply Kd.S_drew)); exact HO819.out) (Kd.R_base ho0) hb); have n1_ := z14a (Kd.R_lower ho0 (below_size (by repeat (first | (with_reducible first | exact HB.out | apply z14d | apply z14b | apply z14c) | exact HB.out)))); have n2_ := z14a (below_step (by repeat (first | (with_reducible first | exact HB.out | apply z14d | apply z14b | apply z14c) | exact HB.out)) hb); clear HO819; clear HB; have HO819 := n0_; have HO824 := n1_; have HB := n2_; clear n0_ n1_ n2_; (try clear hb); (try clear hb2); (try clear hk); (try clear hi); (try clear ho0)))
   go_ret3
   exact ⟨_, by first | rfl | (simp [errW_none, errW_some] <;> rfl) | (simp [*, errW_none, errW_some] <;> rfl), by first | exact Kd.R_nil _ _ _ _ _ | exact Kd.N_nil _ _ _ _ _ | exact Kd.V_nil _ _ _ _ _ | exact Kd.Q_nil _ _ _ _ _ | exact Kd.S_nil _ _ _ _ _, by repeat (first | (with_reducible first | exact HB.out | apply z14d | apply z14b | apply z14c) | exact HB.out)⟩
 ·replace c4 := Bool.eq_false_iff.mpr c4
  subst c4
  have H1 : (some (([] : List (S71)), 0, false)) = some (r1, r2, r3) := by rw [if_neg (show ¬ (false = true) by decide)] at H; exact H
  clear H
  have H := H1
  clear H1
  simp only [Option.some.injEq, Prod.mk.injEq] at H
  obtain ⟨rfl, rfl, rfl⟩ := H
  go_enter Try.func58, Try.ntmps58
  go_wp2_with (first | ((with_reducible refine gate_callee (f := 17) rfl ?_); refine goesL_ (some 14) rfl rfl Try.func17 (by kernel_rfl) rfl #[.slice A0 l0.length c0, .int .i64 a1] rfl (by (try simp only [zm14a, zm14b, zm14c]); first | done | rfl | (simp only [zm14d, zm14e]; rfl)) ?_; (with_reducible refine (y_b.calls k _ _ l0 a1 t816 false _ ?side1 ?side2 A3.out).mono ?_); (case side1 => repeat (first | exact HR0.out | (with_reducible refine z14i ?_ _) | (with_reducible refine z14j ?_ _) | (with_reducible refine Kd.C_drew ?_))); (case side2 => exact HC0.out); rintro e w15 ⟨v818, rfl, ho0, hb⟩; refine ⟨_, rfl, ?_⟩; have n0_ := z14a (Kd.S_lower ho0 (below_size (by repeat (first | (with_reducible first | exact HB.out | apply z14d | apply z14b | apply z14c) | exact HB.out)))); have n1_ := z14a (below_step (by repeat (first | (with_reducible first | exact HB.out | apply z14d | apply z14b | apply z14c) | exact HB.out)) hb); clear HB; have HO819 := n0_; have HB := n1_; clear n0_ n1_; (try clear hb); (try clear hb2); (try clear hk); (try clear hi); (try clear ho0)))
  go_ret3
  exact ⟨_, by first | rfl | (simp [errW_none, errW_some] <;> rfl) | (simp [*, errW_none, errW_some] <;> rfl), by first | exact Kd.R_nil _ _ _ _ _ | exact Kd.N_nil _ _ _ _ _ | exact Kd.V_nil _ _ _ _ _ | exact Kd.Q_nil _ _ _ _ _ | exact Kd.S_nil _ _ _ _ _, by repeat (first | (with_reducible first | exact HB.out | apply z14d | apply z14b | apply z14c) | exact HB.out)⟩
def y_xb.f (k : Nat) (l0 : List Int) : Option ((List (S71)) × Int) := (y_cc.f k l0).bind fun bt826 => (some (bt826.1, bt826.2))
theorem y_xb.calls (k : Nat) (A0 : Option Addr) (c0 : Nat) (l0 : List Int) (r1 : List (S71)) (r2 : Int) (w : World) (hr0 : Kd.C (Kd.int .u8) w A0 l0.length l0) (hc0 : l0.length ≤ c0) (h : y_xb.f k l0 = some (r1, r2)) :
  Calls Try.prog 59 #[.slice A0 l0.length c0] w fun e w' => ∃ v0_ : Value, e = .returned (.tuple #[v0_, .int .i64 r2]) ∧ Kd.R k71 71 w' w.heap.size (fun _ => True) v0_ r1 ∧ Below w.heap.size w w' := by
 have HR0 := z14a hr0
 have HC0 := z14a hc0
 clear hr0 hc0
 have HB := z14a (Below.refl w.heap.size w)
 have H : ((y_cc.f k l0).bind fun bt826 => (some (bt826.1, bt826.2))) = some (r1, r2) := h
 clear h
 replace H := z14f.mp H
 obtain ⟨⟨t826, t827⟩, A20, H⟩ := H
 replace H : (some (t826, t827)) = some (r1, r2) := H
 have A2 := z14a A20
 clear A20
 simp only [Option.some.injEq, Prod.mk.injEq] at H
 obtain ⟨rfl, rfl⟩ := H
 go_enter Try.func59, Try.ntmps59
 go_wp2_with (first | ((with_reducible refine gate_callee (f := 16) rfl ?_); refine goesL_ (some 5) rfl rfl Try.func16 (by kernel_rfl) rfl #[.slice A0 l0.length c0] rfl (by (try simp only [zm14a, zm14b, zm14c]); first | done | rfl | (simp only [zm14d, zm14e]; rfl)) ?_; (with_reducible refine (y_cc.calls k _ _ l0 t826 t827 _ ?side1 ?side2 A2.out).mono ?_); (case side1 => repeat (first | exact HR0.out | (with_reducible refine z14i ?_ _) | (with_reducible refine z14j ?_ _) | (with_reducible refine Kd.C_drew ?_))); (case side2 => exact HC0.out); rintro e w3 ⟨v828, rfl, ho0, hb⟩; refine ⟨_, rfl, ?_⟩; have n0_ := z14a (Kd.R_lower ho0 (below_size (by repeat (first | (with_reducible first | exact HB.out | apply z14d | apply z14b | apply z14c) | exact HB.out)))); have n1_ := z14a (below_step (by repeat (first | (with_reducible first | exact HB.out | apply z14d | apply z14b | apply z14c) | exact HB.out)) hb); clear HB; have HO829 := n0_; have HB := n1_; clear n0_ n1_; (try clear hb); (try clear hb2); (try clear hk); (try clear hi); (try clear ho0)))
 go_ret2
 exact ⟨_, by first | rfl | (simp [errW_none, errW_some] <;> rfl) | (simp [*, errW_none, errW_some] <;> rfl), by (with_reducible repeat (first | apply z14g | apply z14h | apply Kd.R_drew)); exact HO829.out, by repeat (first | (with_reducible first | exact HB.out | apply z14d | apply z14b | apply z14c) | exact HB.out)⟩
def y_gb.l0 : Nat → Int → Int → Int → Option (Int)
 | 0, _, _, _ => none
 | k + 1, x0, x3, x4 => if x4 < x0 then (if x3 < 40 then (y_gb.l0 k x0 (wrap64 (x3 + 1)) (wrap64 (x4 * 2))) else (some x3)) else (some x3)
def y_gb.f (k : Nat) (a0 : Int) : Option (Int) := y_gb.l0 k a0 0 1
theorem y_gb.calls (k : Nat) (a0 : Int) (r : Int) (w : World) (h : y_gb.f k a0 = some r) :
  Calls Try.prog 55 #[.int .i64 a0] w fun e w' => e = .returned (.int .i64 r) ∧ Drawn0 w w' := by
 have H : (y_gb.l0 k a0 0 1) = some r := h
 clear h
 have H' := z14a H
 clear H
 go_enter Try.func55, Try.ntmps55
 go_wp2
 go_loopg [3, 4] k (fun kq v3 v4 w' => ∃ (x3_1 : Int) (x4_1 : Int), v3 = .int .i64 x3_1 ∧ v4 = .int .i64 x4_1 ∧ Aside0 (y_gb.l0 kq a0 x3_1 x4_1 = some r) ∧ Aside0 (kq ≤ k) ∧ Drawn0 w w')
 case atStart => exact ⟨(0), (1), (by first | rfl | (simp; done) | (simp [*]; done)), (by first | rfl | (simp; done) | (simp [*]; done)), H', ⟨Nat.le_refl _⟩, by repeat (first | exact Drawn0.refl _ | apply Drawn0.step)⟩
 case round =>
  clear H'
  obtain ⟨x3_1, x4_1, rfl, rfl, HA, HK1, ⟨m1, rfl⟩⟩ := hrel
  cases gk with
  | zero => exact absurd HA.out (by simp [y_gb.l0])
  | succ k1 =>
   have H := HA.out
   clear HA
   simp only [y_gb.l0] at H
   by_cases c2 : x4_1 < a0
   ·rw [if_pos c2] at H
    have c2b0 : decide (x4_1 < a0) = true := decide_eq_true c2
    clear c2
    by_cases c3 : x3_1 < 40
    ·rw [if_pos c3] at H
     have c3b0 : decide (x3_1 < 40) = true := decide_eq_true c3
     clear c3
     have H' := z14a H
     clear H
     go_wp2
     go_roundg k1
     case measure => have := HK1.out; omega
     case rel => exact ⟨(wrap64 (x3_1 + 1)), (wrap64 (x4_1 * 2)), (by first | rfl | (simp; done) | (simp [*]; done)), (by first | rfl | (simp; done) | (simp [*]; done)), H', ⟨by have := HK1.out; omega⟩, by repeat (first | exact Drawn0.refl _ | apply Drawn0.step)⟩
    ·rw [if_neg c3] at H
     have c3b0 : decide (x3_1 < 40) = false := decide_eq_false c3
     clear c3
     obtain rfl := Option.some.inj H
     go_wp2
     go_ret
     exact ⟨by first | rfl | (simp; done) | (simp [*]; done), by repeat (first | exact Drawn0.refl _ | apply Drawn0.step)⟩
   ·rw [if_neg c2] at H
    have c2b0 : decide (x4_1 < a0) = false := decide_eq_false c2
    clear c2
    obtain rfl := Option.some.inj H
    go_wp2
    go_ret
    exact ⟨by first | rfl | (simp; done) | (simp [*]; done), by repeat (first | exact Drawn0.refl _ | apply Drawn0.step)⟩
def y_pb.f (k : Nat) (l0 : List (S71)) : Option (Int) := (y_p.f k l0).bind fun t830 => ((y_gb.f k (l0.length : Int)).bind fun t831 => (some (wrap64 (t830 * (wrap64 (t831 + 2))))))
theorem y_pb.calls (k : Nat) (A0 : Option Addr) (c0 : Nat) (l0 : List (S71)) (r : Int) (w : World) (hr0 : Kd.C k71 w A0 l0.length l0) (hc0 : l0.length ≤ c0) (h : y_pb.f k l0 = some r) :
  Calls Try.prog 61 #[.slice A0 l0.length c0] w fun e w' => e = .returned (.int .i64 r) ∧ Below w.heap.size w w' := by
 have HR0 := z14a hr0
 have HC0 := z14a hc0
 clear hr0 hc0
 have HB := z14a (Below.refl w.heap.size w)
 have H := h
 unfold y_pb.f at H
 clear h
 replace H := z14f.mp H
 obtain ⟨t830, A20, H⟩ := H
 have A2 := z14a A20
 clear A20
 replace H := z14f.mp H
 obtain ⟨t831, A30, H⟩ := H
 have A3 := z14a A30
 clear A30
 obtain rfl := Option.some.inj H
 go_enter Try.func61, Try.ntmps61
 go_wp2_with (first | ((with_reducible refine gate_callee (f := 109) rfl ?_); refine goesL_ (some 4) rfl rfl Try.func109 (by kernel_rfl) rfl #[.slice A0 l0.length c0] rfl (by (try simp only [zm14a, zm14b, zm14c]); first | done | rfl | (simp only [zm14d, zm14e]; rfl)) ?_; (with_reducible refine (y_p.calls k _ _ l0 t830 _ ?side1 ?side2 A2.out).mono ?_); (case side1 => repeat (first | exact HR0.out | (with_reducible refine z14i ?_ _) | (with_reducible refine z14j ?_ _) | (with_reducible refine Kd.C_drew ?_))); (case side2 => exact HC0.out); rintro e w4 ⟨rfl, hb⟩; refine ⟨_, rfl, ?_⟩; have n0_ := z14a (below_step (by repeat (first | (with_reducible first | exact HB.out | apply z14d | apply z14b | apply z14c) | exact HB.out)) hb); clear HB; have HB := n0_; clear n0_; (try clear hb); (try clear hb2); (try clear hk); (try clear hi)) | ((with_reducible refine gate_callee (f := 55) rfl ?_); refine goesL_ (some 7) rfl rfl Try.func55 (by kernel_rfl) rfl #[.int .i64 (l0.length : Int)] rfl (by (try simp only [zm14a, zm14b, zm14c]); first | done | rfl | (simp only [zm14d, zm14e]; rfl)) ?_; (with_reducible refine (y_gb.calls k (l0.length : Int) t831 _ A3.out).mono ?_); rintro e w' ⟨rfl, ⟨nd, rfl⟩⟩; refine ⟨_, rfl, ?_⟩))
 go_ret
 exact ⟨by first | rfl | (simp [errW_none, errW_some] <;> rfl) | (simp [*, errW_none, errW_some] <;> rfl), by repeat (first | (with_reducible first | exact HB.out | apply z14d | apply z14b | apply z14c) | exact HB.out)⟩
def y_j.j0 : Nat → List (S71) → List (S71) → Int → Bool → Bool → Option (Bool)
 | 0, _, _, _, _, _ => none
 | k + 1, x3, x5, x6, x7, x45 => if x45 = true then (some false) else (if x7 = true then ((y_c.f k x3).bind fun t848 => ((y_s.f k x5 t848).bind fun t851 => (if t851 = true then ((y_k.f k x3).bind fun t852 => (if x6 ≥ t852 then ((y_pb.f k x3).bind fun t853 => (some (decide (x6 ≤ t853)))) else (some false))) else (some false)))) else (some true))
def y_j.f (k : Nat) (l0 : List Int) : Option (Bool) := (y_bc.f l0).bind fun t832 => (if t832 = true then (some true) else ((y_xb.f k l0).bind fun bt833 => ((y_tb.f k bt833.1 bt833.2).bind fun bt837 => ((y_qb.f k bt833.1 bt833.2).bind fun bt842 => (if (bt837.2.2 != bt842.2.2) = true then (y_j.j0 k bt833.1 bt837.1 bt837.2.1 bt837.2.2 true) else (if bt837.2.1 = bt842.2.1 then ((y_s.f k bt837.1 bt842.1).bind fun t847 => (y_j.j0 k bt833.1 bt837.1 bt837.2.1 bt837.2.2 (!t847))) else (y_j.j0 k bt833.1 bt837.1 bt837.2.1 bt837.2.2 true)))))))
theorem y_j.calls (k : Nat) (A0 : Option Addr) (c0 : Nat) (l0 : List Int) (r : Bool) (w : World) (hr0 : Kd.C (Kd.int .u8) w A0 l0.length l0) (hc0 : l0.length ≤ c0) (h : y_j.f k l0 = some r) (hr_ : r = true) :
  Calls Try.prog 8 #[.slice A0 l0.length c0] w fun e w' => e = .returned (.bool r) ∧ Below w.heap.size w w' := by
 have HR0 := z14a hr0
 have HC0 := z14a hc0
 clear hr0 hc0
 have HB := z14a (Below.refl w.heap.size w)
 have HR_ := z14a hr_
 clear hr_
 have H := h
 unfold y_j.f at H
 clear h
 replace H := z14f.mp H
 obtain ⟨t832, A20, H⟩ := H
 have A2 := z14a A20
 clear A20
 by_cases c3 : t832 = true
 ·subst c3
  rw [if_pos rfl] at H
  obtain rfl := Option.some.inj H
  go_enter Try.func8, Try.ntmps8
  go_wp2_with (first | ((with_reducible refine gate_callee (f := 15) rfl ?_); refine goesL_ (some 12) rfl rfl Try.func15 (by kernel_rfl) rfl #[.slice A0 l0.length c0] rfl (by (try simp only [zm14a, zm14b, zm14c]); first | done | rfl | (simp only [zm14d, zm14e]; rfl)) ?_; (with_reducible refine (y_bc.calls _ _ l0 true _ ?side1 ?side2 A2.out).mono ?_); (case side1 => repeat (first | exact HR0.out | (with_reducible refine z14i ?_ _) | (with_reducible refine z14j ?_ _) | (with_reducible refine Kd.C_drew ?_))); (case side2 => exact HC0.out); rintro e w' ⟨rfl, ⟨nd, rfl⟩⟩; refine ⟨_, rfl, ?_⟩))
  go_ret
  exact ⟨by first | rfl | (simp [errW_none, errW_some] <;> rfl) | (simp [*, errW_none, errW_some] <;> rfl), by repeat (first | (with_reducible first | exact HB.out | apply z14d | apply z14b | apply z14c) | exact HB.out)⟩
 ·replace c3 := Bool.eq_false_iff.mpr c3
  subst c3
  have H1 : ((y_xb.f k l0).bind fun bt833 => ((y_tb.f k bt833.1 bt833.2).bind fun bt837 => ((y_qb.f k bt833.1 bt833.2).bind fun bt842 => (if (bt837.2.2 != bt842.2.2) = true then (y_j.j0 k bt833.1 bt837.1 bt837.2.1 bt837.2.2 true) else (if bt837.2.1 = bt842.2.1 then ((y_s.f k bt837.1 bt842.1).bind fun t847 => (y_j.j0 k bt833.1 bt837.1 bt837.2.1 bt837.2.2 (!t847))) else (y_j.j0 k bt833.1 bt837.1 bt837.2.1 bt837.2.2 true)))))) = some r := by rw [if_neg (show ¬ (false = true) by decide)] at H; exact H
  clear H
  have H := H1
  clear H1
  replace H := z14f.mp H
  obtain ⟨⟨t833, t834⟩, A40, H⟩ := H
  replace H : ((y_tb.f k t833 t834).bind fun bt837 => ((y_qb.f k t833 t834).bind fun bt842 => (if (bt837.2.2 != bt842.2.2) = true then (y_j.j0 k t833 bt837.1 bt837.2.1 bt837.2.2 true) else (if bt837.2.1 = bt842.2.1 then ((y_s.f k bt837.1 bt842.1).bind fun t847 => (y_j.j0 k t833 bt837.1 bt837.2.1 bt837.2.2 (!t847))) else (y_j.j0 k t833 bt837.1 bt837.2.1 bt837.2.2 true))))) = some r := H
  have A4 := z14a A40
  clear A40
  replace H := z14f.mp H
  obtain ⟨⟨t837, t838, t839⟩, A50, H⟩ := H
  replace H : ((y_qb.f k t833 t834).bind fun bt842 => (if (t839 != bt842.2.2) = true then (y_j.j0 k t833 t837 t838 t839 true) else (if t838 = bt842.2.1 then ((y_s.f k t837 bt842.1).bind fun t847 => (y_j.j0 k t833 t837 t838 t839 (!t847))) else (y_j.j0 k t833 t837 t838 t839 true)))) = some r := H
  have A5 := z14a A50
  clear A50
  replace H := z14f.mp H
  obtain ⟨⟨t842, t843, t844⟩, A60, H⟩ := H
  replace H : (if (t839 != t844) = true then (y_j.j0 k t833 t837 t838 t839 true) else (if t838 = t843 then ((y_s.f k t837 t842).bind fun t847 => (y_j.j0 k t833 t837 t838 t839 (!t847))) else (y_j.j0 k t833 t837 t838 t839 true))) = some r := H
  have A6 := z14a A60
  clear A60
  have HC7 := z14a H
  clear H
  go_enter Try.func8, Try.ntmps8
  go_upto_region 6 with (first | ((with_reducible refine gate_callee (f := 15) rfl ?_); refine goesL_ (some 12) rfl rfl Try.func15 (by kernel_rfl) rfl #[.slice A0 l0.length c0] rfl (by (try simp only [zm14a, zm14b, zm14c]); first | done | rfl | (simp only [zm14d, zm14e]; rfl)) ?_; (with_reducible refine (y_bc.calls _ _ l0 false _ ?side1 ?side2 A2.out).mono ?_); (case side1 => repeat (first | exact HR0.out | (with_reducible refine z14i ?_ _) | (with_reducible refine z14j ?_ _) | (with_reducible refine Kd.C_drew ?_))); (case side2 => exact HC0.out); rintro e w' ⟨rfl, ⟨nd, rfl⟩⟩; refine ⟨_, rfl, ?_⟩) | ((with_reducible refine gate_callee (f := 59) rfl ?_); refine goesL_ (some 15) rfl rfl Try.func59 (by kernel_rfl) rfl #[.slice A0 l0.length c0] rfl (by (try simp only [zm14a, zm14b, zm14c]); first | done | rfl | (simp only [zm14d, zm14e]; rfl)) ?_; (with_reducible refine (y_xb.calls k _ _ l0 t833 t834 _ ?side1 ?side2 A4.out).mono ?_); (case side1 => repeat (first | exact HR0.out | (with_reducible refine z14i ?_ _) | (with_reducible refine z14j ?_ _) | (with_reducible refine Kd.C_drew ?_))); (case side2 => exact HC0.out); rintro e w8 ⟨v835, rfl, ho0, hb⟩; refine ⟨_, rfl, ?_⟩; have n0_ := z14a (Kd.R_lower ho0 (below_size (by repeat (first | (with_reducible first | exact HB.out | apply z14d | apply z14b | apply z14c) | exact HB.out)))); have n1_ := z14a (below_step (by repeat (first | (with_reducible first | exact HB.out | apply z14d | apply z14b | apply z14c) | exact HB.out)) hb); clear HB; have HO836 := n0_; have HB := n1_; clear n0_ n1_; (try clear hb); (try clear hb2); (try clear hk); (try clear hi); (try clear ho0); obtain ⟨Ao9, co9, eo9⟩ := Kd.R_slice HO836.out; subst eo9) | ((with_reducible refine gate_callee (f := 58) rfl ?_); refine goesL_ (some 21) rfl rfl Try.func58 (by kernel_rfl) rfl #[.slice Ao9 t833.length co9, .int .i64 t834] rfl (by (try simp only [zm14a, zm14b, zm14c]); first | done | rfl | (simp only [zm14d, zm14e]; rfl)) ?_; (with_reducible refine (y_tb.calls k _ _ t833 t834 t837 t838 t839 _ ?side1 ?side2 A5.out).mono ?_); (case side1 => repeat (first | exact (Kd.R_reads' HO836.out).2.2 | (with_reducible refine z14i ?_ _) | (with_reducible refine z14j ?_ _) | (with_reducible refine Kd.C_drew ?_))); (case side2 => exact (Kd.R_reads' HO836.out).2.1); rintro e w10 ⟨v840, rfl, ho0, hb⟩; refine ⟨_, rfl, ?_⟩; have n0_ := z14a (Kd.R_elder' (by (with_reducible repeat (first | apply z14g | apply z14h | apply Kd.R_drew)); exact HO836.out) (Kd.R_base ho0) hb); have n1_ := z14a (Kd.R_lower (Kd.R_new' ho0 (Kd.R_lt (by (with_reducible repeat (first | apply z14g | apply z14h | apply Kd.R_drew)); exact HO836.out))) (below_size (by repeat (first | (with_reducible first | exact HB.out | apply z14d | apply z14b | apply z14c) | exact HB.out)))); have n2_ := z14a (below_step (by repeat (first | (with_reducible first | exact HB.out | apply z14d | apply z14b | apply z14c) | exact HB.out)) hb); clear HO836; clear HB; have HO836 := n0_; have HO841 := n1_; have HB := n2_; clear n0_ n1_ n2_; (try clear hb); (try clear hb2); (try clear hk); (try clear hi); (try clear ho0)) | ((with_reducible refine gate_callee (f := 57) rfl ?_); refine goesL_ (some 28) rfl rfl Try.func57 (by kernel_rfl) rfl #[.slice Ao9 t833.length co9, .int .i64 t834] rfl (by (try simp only [zm14a, zm14b, zm14c]); first | done | rfl | (simp only [zm14d, zm14e]; rfl)) ?_; (with_reducible refine (y_qb.calls k _ _ t833 t834 t842 t843 t844 _ ?side1 ?side2 A6.out).mono ?_); (case side1 => repeat (first | exact (Kd.R_reads' HO836.out).2.2 | (with_reducible refine z14i ?_ _) | (with_reducible refine z14j ?_ _) | (with_reducible refine Kd.C_drew ?_))); (case side2 => exact (Kd.R_reads' HO836.out).2.1); rintro e w11 ⟨v845, rfl, ho0, hb⟩; refine ⟨_, rfl, ?_⟩; have n0_ := z14a (Kd.R_elder' (by (with_reducible repeat (first | apply z14g | apply z14h | apply Kd.R_drew)); exact HO836.out) (Kd.R_base ho0) hb); have n1_ := z14a (Kd.R_elder' (by (with_reducible repeat (first | apply z14g | apply z14h | apply Kd.R_drew)); exact HO841.out) (Kd.R_base ho0) hb); have n2_ := z14a (Kd.R_lower (Kd.R_new' (Kd.R_new' ho0 (Kd.R_lt (by (with_reducible repeat (first | apply z14g | apply z14h | apply Kd.R_drew)); exact HO836.out))) (Kd.R_lt (by (with_reducible repeat (first | apply z14g | apply z14h | apply Kd.R_drew)); exact HO841.out))) (below_size (by repeat (first | (with_reducible first | exact HB.out | apply z14d | apply z14b | apply z14c) | exact HB.out)))); have n3_ := z14a (below_step (by repeat (first | (with_reducible first | exact HB.out | apply z14d | apply z14b | apply z14c) | exact HB.out)) hb); clear HO836; clear HO841; clear HB; have HO836 := n0_; have HO841 := n1_; have HO846 := n2_; have HB := n3_; clear n0_ n1_ n2_ n3_; (try clear hb); (try clear hb2); (try clear hk); (try clear hi); (try clear ho0)))
  (try simp only [Act.put, zp14a, zp14b, zp14c])
  go_cut [45] (fun v45 wc => ∃ (kq : Nat) (x45_6 : Bool), v45 = .bool x45_6 ∧ Aside0 (y_j.j0 kq t833 t837 t838 t839 x45_6 = some r) ∧ Aside0 (kq ≤ k) ∧ Aside0 (Kd.R k71 71 wc w.heap.size (fun k_ => some k_ ≠ (v840 : Value).ownBlock) (.slice Ao9 t833.length co9) t833) ∧ Aside0 (Kd.R k71 71 wc w.heap.size (fun k_ => some k_ ≠ ((.slice Ao9 t833.length co9) : Value).ownBlock) v840 t837) ∧ Aside0 (Below w.heap.size w wc))
  case first =>
   have H := HC7.out
   clear HC7
   by_cases c12 : (t839 != t844) = true
   ·rw [if_pos c12] at H
    have c12b0 : (t839 != t844) = true := c12
    (try (have c12b1 : decide (t839 = t844) = false := by simpa using c12))
    (try (have c12b2 : (t839 == t844) = false := by simpa using c12))
    (try (have c12b3 : ¬ (t839 = t844) := by simpa using c12))
    clear c12
    (first | rw [c12b0] | (simp only [i64_w, i32_w]; rw [c12b0]) | skip)
    have H' := z14a H
    clear H
    go_wp2
    go_meet
    case rel => exact ⟨_, (true), (by first | rfl | (simp; done) | (simp [*]; done)), H', ⟨by first | omega | exact Nat.le_refl _⟩, ⟨by (with_reducible repeat (first | apply z14g | apply z14h | apply Kd.R_drew)); exact Kd.R_mono HO836.out (fun _ hk => hk.1.2)⟩, ⟨by (with_reducible repeat (first | apply z14g | apply z14h | apply Kd.R_drew)); exact Kd.R_mono HO841.out (fun _ hk => hk.1.2)⟩, ⟨by repeat (first | (with_reducible first | exact HB.out | apply z14d | apply z14b | apply z14c) | exact HB.out)⟩⟩
   ·rw [if_neg c12] at H
    have c12b0 : (t839 != t844) = false := by simpa using c12
    (try (have c12b1 : decide (t839 = t844) = true := by simpa using c12))
    (try (have c12b2 : (t839 == t844) = true := by simpa using c12))
    clear c12
    (first | rw [c12b0] | (simp only [i64_w, i32_w]; rw [c12b0]) | skip)
    by_cases c13 : t838 = t843
    ·rw [if_pos c13] at H
     have c13b0 : (t838 == t843) = true := beq_iff_eq.mpr c13
     have c13b1 : (t838 != t843) = false := bne_eq_false_iff_eq.mpr c13
     clear c13
     replace H := z14f.mp H
     obtain ⟨t847, A140, H⟩ := H
     have A14 := z14a A140
     clear A140
     have H' := z14a H
     clear H
     obtain ⟨Ao15, co15, eo15⟩ := Kd.R_slice HO841.out
     subst eo15
     obtain ⟨Ao16, co16, eo16⟩ := Kd.R_slice HO846.out
     subst eo16
     go_wp2_with (first | (go_at_call 28; (with_reducible refine (y_s.calls k _ _ t837 _ _ t842 t847 _ ?side1 ?side2 ?side3 ?side4 A14.out).mono ?_); (case side1 => repeat (first | exact (Kd.R_reads' HO841.out).2.2 | (with_reducible refine z14i ?_ _) | (with_reducible refine z14j ?_ _) | (with_reducible refine Kd.C_drew ?_))); (case side2 => exact (Kd.R_reads' HO841.out).2.1); (case side3 => repeat (first | exact (Kd.R_reads' HO846.out).2.2 | (with_reducible refine z14i ?_ _) | (with_reducible refine z14j ?_ _) | (with_reducible refine Kd.C_drew ?_))); (case side4 => exact (Kd.R_reads' HO846.out).2.1); rintro e w' ⟨rfl, ⟨nd, rfl⟩⟩))
     go_meet
     case rel => exact ⟨_, (!t847), (by first | rfl | (simp; done) | (simp [*]; done)), H', ⟨by first | omega | exact Nat.le_refl _⟩, ⟨by (with_reducible repeat (first | apply z14g | apply z14h | apply Kd.R_drew)); exact Kd.R_mono HO836.out (fun _ hk => hk.1.2)⟩, ⟨by (with_reducible repeat (first | apply z14g | apply z14h | apply Kd.R_drew)); exact Kd.R_mono HO841.out (fun _ hk => hk.1.2)⟩, ⟨by repeat (first | (with_reducible first | exact HB.out | apply z14d | apply z14b | apply z14c) | exact HB.out)⟩⟩
    ·rw [if_neg c13] at H
     have c13b0 : (t838 == t843) = false := beq_eq_false_iff_ne.mpr c13
     have c13b1 : (t838 != t843) = true := bne_iff_ne.mpr c13
     have H' := z14a H
     clear H
     go_wp2
     go_meet
     case rel => exact ⟨_, (true), (by first | rfl | (simp; done) | (simp [*]; done)), H', ⟨by first | omega | exact Nat.le_refl _⟩, ⟨by (with_reducible repeat (first | apply z14g | apply z14h | apply Kd.R_drew)); exact Kd.R_mono HO836.out (fun _ hk => hk.1.2)⟩, ⟨by (with_reducible repeat (first | apply z14g | apply z14h | apply Kd.R_drew)); exact Kd.R_mono HO841.out (fun _ hk => hk.1.2)⟩, ⟨by repeat (first | (with_reducible first | exact HB.out | apply z14d | apply z14b | apply z14c) | exact HB.out)⟩⟩
  case rest =>
   clear HC7
   try clear c1
   try clear p2
   try clear c3
   try clear c5
   try clear c8
   try clear c12
   try clear c12b0
   try clear c12b1
   try clear c12b2
   try clear c13
   try clear c13b0
   try clear c13b1
   try clear c15
   obtain ⟨kq, x45_6, rfl, HA, HJ6, HO_3, HO_5, HB⟩ := hcut
   cases kq with
   | zero => exact absurd HA.out (by simp [y_j.j0])
   | succ kj6 =>
    have H := HA.out
    clear HA
    simp only [y_j.j0] at H
    by_cases c17 : x45_6 = true
    ·subst c17
     rw [if_pos rfl] at H
     obtain rfl := Option.some.inj H
     exact absurd HR_.out (by decide)
    ·replace c17 := Bool.eq_false_iff.mpr c17
     subst c17
     have H1 : (if t839 = true then ((y_c.f kj6 t833).bind fun t848 => ((y_s.f kj6 t837 t848).bind fun t851 => (if t851 = true then ((y_k.f kj6 t833).bind fun t852 => (if t838 ≥ t852 then ((y_pb.f kj6 t833).bind fun t853 => (some (decide (t838 ≤ t853)))) else (some false))) else (some false)))) else (some true)) = some r := by rw [if_neg (show ¬ (false = true) by decide)] at H; exact H
     clear H
     have H := H1
     clear H1
     by_cases c18 : t839 = true
     ·subst c18
      rw [if_pos rfl] at H
      replace H := z14f.mp H
      obtain ⟨t848, A190, H⟩ := H
      have A19 := z14a A190
      clear A190
      replace H := z14f.mp H
      obtain ⟨t851, A200, H⟩ := H
      have A20 := z14a A200
      clear A200
      by_cases c21 : t851 = true
      ·subst c21
       rw [if_pos rfl] at H
       replace H := z14f.mp H
       obtain ⟨t852, A220, H⟩ := H
       have A22 := z14a A220
       clear A220
       by_cases c23 : t838 ≥ t852
       ·rw [if_pos c23] at H
        have c23b0 : decide (t852 ≤ t838) = true := decide_eq_true c23
        clear c23
        replace H := z14f.mp H
        obtain ⟨t853, A240, H⟩ := H
        have A24 := z14a A240
        clear A240
        obtain rfl := Option.some.inj H
        go_wp2_with (first | (go_at_call 60; (with_reducible refine (y_c.calls kj6 _ _ t833 t848 _ ?side1 ?side2 A19.out).mono ?_); (case side1 => repeat (first | exact (Kd.R_reads' HO_3.out).2.2 | (with_reducible refine z14i ?_ _) | (with_reducible refine z14j ?_ _) | (with_reducible refine Kd.C_drew ?_))); (case side2 => exact (Kd.R_reads' HO_3.out).2.1); rintro e w25 ⟨v849, rfl, ho0, hb⟩; have n0_ := z14a (Kd.R_elder' (by (with_reducible repeat (first | apply z14g | apply z14h | apply Kd.R_drew)); exact HO_3.out) (Kd.R_base ho0) hb); have n1_ := z14a (Kd.R_elder' (by (with_reducible repeat (first | apply z14g | apply z14h | apply Kd.R_drew)); exact HO_5.out) (Kd.R_base ho0) hb); have n2_ := z14a (Kd.R_lower (Kd.R_new' (Kd.R_new' ho0 (Kd.R_lt (by (with_reducible repeat (first | apply z14g | apply z14h | apply Kd.R_drew)); exact HO_3.out))) (Kd.R_lt (by (with_reducible repeat (first | apply z14g | apply z14h | apply Kd.R_drew)); exact HO_5.out))) (below_size (by repeat (first | (with_reducible first | exact HB.out | apply z14d | apply z14b | apply z14c) | exact HB.out)))); have n3_ := z14a (below_step (by repeat (first | (with_reducible first | exact HB.out | apply z14d | apply z14b | apply z14c) | exact HB.out)) hb); clear HO_3; clear HO_5; clear HB; have HO_3 := n0_; have HO_5 := n1_; have HO850 := n2_; have HB := n3_; clear n0_ n1_ n2_ n3_; (try clear hb); (try clear hb2); (try clear hk); (try clear hi); (try clear ho0); obtain ⟨Ao26, co26, eo26⟩ := Kd.R_slice HO_5.out; subst eo26; obtain ⟨Ao27, co27, eo27⟩ := Kd.R_slice HO850.out; subst eo27) | (go_at_call 28; (with_reducible refine (y_s.calls kj6 _ _ t837 _ _ t848 true _ ?side1 ?side2 ?side3 ?side4 A20.out).mono ?_); (case side1 => repeat (first | exact (Kd.R_reads' HO_5.out).2.2 | (with_reducible refine z14i ?_ _) | (with_reducible refine z14j ?_ _) | (with_reducible refine Kd.C_drew ?_))); (case side2 => exact (Kd.R_reads' HO_5.out).2.1); (case side3 => repeat (first | exact (Kd.R_reads' HO850.out).2.2 | (with_reducible refine z14i ?_ _) | (with_reducible refine z14j ?_ _) | (with_reducible refine Kd.C_drew ?_))); (case side4 => exact (Kd.R_reads' HO850.out).2.1); rintro e w' ⟨rfl, ⟨nd, rfl⟩⟩) | (go_at_call 31; (with_reducible refine (y_k.calls kj6 _ _ t833 t852 _ ?side1 ?side2 A22.out).mono ?_); (case side1 => repeat (first | exact (Kd.R_reads' HO_3.out).2.2 | (with_reducible refine z14i ?_ _) | (with_reducible refine z14j ?_ _) | (with_reducible refine Kd.C_drew ?_))); (case side2 => exact (Kd.R_reads' HO_3.out).2.1); rintro e w28 ⟨rfl, hb⟩; have n0_ := z14a (Kd.R_below (by (with_reducible repeat (first | apply z14g | apply z14h | apply Kd.R_drew)); exact HO_3.out) hb); have n1_ := z14a (Kd.R_below (by (with_reducible repeat (first | apply z14g | apply z14h | apply Kd.R_drew)); exact HO_5.out) hb); have n2_ := z14a (Kd.R_below (by (with_reducible repeat (first | apply z14g | apply z14h | apply Kd.R_drew)); exact HO850.out) hb); have n3_ := z14a (below_step (by repeat (first | (with_reducible first | exact HB.out | apply z14d | apply z14b | apply z14c) | exact HB.out)) hb); clear HO_3; clear HO_5; clear HO850; clear HB; have HO_3 := n0_; have HO_5 := n1_; have HO850 := n2_; have HB := n3_; clear n0_ n1_ n2_ n3_; (try clear hb); (try clear hb2); (try clear hk); (try clear hi)) | (go_at_call 61; (with_reducible refine (y_pb.calls kj6 _ _ t833 t853 _ ?side1 ?side2 A24.out).mono ?_); (case side1 => repeat (first | exact (Kd.R_reads' HO_3.out).2.2 | (with_reducible refine z14i ?_ _) | (with_reducible refine z14j ?_ _) | (with_reducible refine Kd.C_drew ?_))); (case side2 => exact (Kd.R_reads' HO_3.out).2.1); rintro e w29 ⟨rfl, hb⟩; have n0_ := z14a (Kd.R_below (by (with_reducible repeat (first | apply z14g | apply z14h | apply Kd.R_drew)); exact HO_3.out) hb); have n1_ := z14a (Kd.R_below (by (with_reducible repeat (first | apply z14g | apply z14h | apply Kd.R_drew)); exact HO_5.out) hb); have n2_ := z14a (Kd.R_below (by (with_reducible repeat (first | apply z14g | apply z14h | apply Kd.R_drew)); exact HO850.out) hb); have n3_ := z14a (below_step (by repeat (first | (with_reducible first | exact HB.out | apply z14d | apply z14b | apply z14c) | exact HB.out)) hb); clear HO_3; clear HO_5; clear HO850; clear HB; have HO_3 := n0_; have HO_5 := n1_; have HO850 := n2_; have HB := n3_; clear n0_ n1_ n2_ n3_; (try clear hb); (try clear hb2); (try clear hk); (try clear hi)))
        go_ret
        exact ⟨by first | rfl | (simp [errW_none, errW_some] <;> rfl) | (simp [*, errW_none, errW_some] <;> rfl), by repeat (first | (with_reducible first | exact HB.out | apply z14d | apply z14b | apply z14c) | exact HB.out)⟩
       ·rw [if_neg c23] at H
        have c23b0 : decide (t852 ≤ t838) = false := decide_eq_false c23
        clear c23
        obtain rfl := Option.some.inj H
        exact absurd HR_.out (by decide)
      ·replace c21 := Bool.eq_false_iff.mpr c21
       subst c21
       have H1 : (some false) = some r := by rw [if_neg (show ¬ (false = true) by decide)] at H; exact H
       clear H
       have H := H1
       clear H1
       obtain rfl := Option.some.inj H
       exact absurd HR_.out (by decide)
     ·replace c18 := Bool.eq_false_iff.mpr c18
      subst c18
      have H1 : (some true) = some r := by rw [if_neg (show ¬ (false = true) by decide)] at H; exact H
      clear H
      have H := H1
      clear H1
      obtain rfl := Option.some.inj H
      go_wp2
      go_ret
      exact ⟨by first | rfl | (simp [errW_none, errW_some] <;> rfl) | (simp [*, errW_none, errW_some] <;> rfl), by repeat (first | (with_reducible first | exact HB.out | apply z14d | apply z14b | apply z14c) | exact HB.out)⟩
def y_j.Pure : Prop := ∀ (l0 : List Int), l0.length ≤ maxLen → l0.length * 1 ≤ 140737488351232 → (∀ x ∈ l0, (Lit.int .u8 x).wf = true) → ∃ k, y_j.f k l0 = some true
theorem y_j.walk (P : y_j.Pure) (a0 : Option Addr) (len0 cap0 : Nat) (z0 : List Int) (w : World) (w0 : (a0 = none ∧ len0 = 0 ∧ cap0 = 0 ∧ z0 = []) ∨ ∃ x, a0 = some x ∧ len0 ≤ cap0 ∧ cap0 ≤ maxLen ∧ z0.length = cap0 ∧ (∀ i, i < z0.length → w.cell? (x.add i) = some (.int .u8 (z0.getD i 0))) ∧ ∀ n ∈ z0, (Lit.int .u8 n).wf = true) (y0 : len0 * 1 ≤ 140737488351232) :
  Calls Try.prog 8 #[.slice a0 len0 cap0] w fun e w' => e = .returned (.bool true) ∧ Below w.heap.size w w' := by
 obtain ⟨l0, rfl, hr0, hm0, hw0, hc0⟩ := ReadsInt.ofRowC w0
 obtain ⟨k, h⟩ := P l0 hm0 y0 hw0
 refine (y_j.calls k _ _ l0 true w (Kd.C_of_reads (d := (0 : Int)) (h1 := fun _ => rfl) hr0) hc0 h rfl).mono ?_
 rintro e w' ⟨rfl, hd⟩
 exact ⟨rfl, hd⟩
end Go.Proofs.Ytkcicbigpbdjpaa.P
end
section
namespace Go.Proofs.Ytkcicbigpbdjpaa.Pure
open Go.RowKit Go.Proofs.YtkcicbigpbdjpaaW.PrintWords Go.Proofs.YtkcicbigpbdjpaaW.PrintLast
theorem wrap_succ {i : Int} {n : Nat} (h0 : 0 ≤ i) (h : i < (n : Int)) (hn : n ≤ 9223372036854775807) : wrap64 (i + 1) = i + 1 := by
 unfold wrap64
 omega
theorem wrap_id {x : Int} (h1 : -9223372036854775808 ≤ x) (h2 : x ≤ 9223372036854775807) : wrap64 x = x := by
 unfold wrap64
 omega
theorem drop_getD {α : Type} (l : List α) (z : α) (i : Int) (h0 : 0 ≤ i) (h : i < (l.length : Int)) : l.drop i.toNat = l.getD i.toNat z :: l.drop (i + 1).toNat := by
 have hi : i.toNat < l.length := by omega
 rw [List.drop_eq_getElem_cons hi, List.getD_eq_getElem?_getD, List.getElem?_eq_getElem hi, show (i + 1).toNat = i.toNat + 1 by omega]
 rfl
theorem getD_mem {α : Type} (l : List α) (z : α) (i : Int) (h0 : 0 ≤ i) (h : i < (l.length : Int)) : l.getD i.toNat z ∈ l := by
 have hi : i.toNat < l.length := by omega
 rw [List.getD_eq_getElem?_getD, List.getElem?_eq_getElem hi]
 exact List.getElem_mem hi
theorem drop_end {α : Type} (l : List α) (i : Int) (h : (l.length : Int) ≤ i) : l.drop i.toNat = [] := List.drop_eq_nil_of_le (by omega)
end Go.Proofs.Ytkcicbigpbdjpaa.Pure
end
section
namespace Go.Proofs.Ytkcicbigpbdjpaa.Pure
open Go.RowKit Go.Proofs.Ytkcicbigpbdjpaa.P Go.Proofs.YtkcicbigpbdjpaaW.PrintWords Go.Proofs.YtkcicbigpbdjpaaW.PrintLast
theorem within_in (a b c : Int) : y_u.f a b c = some (decide (b ≤ a ∧ a ≤ c)) := by
 unfold y_u.f
 by_cases h : a ≥ b
 ·rw [if_pos h]
  simp [h]
 ·rw [if_neg h]
  simp [h]
theorem l1In_in (a b c : Int) : y_t.f a b c = some (decide (b ≤ a ∧ a ≤ c)) := by
 unfold y_t.f
 by_cases h : a ≥ b
 ·rw [if_pos h]
  simp [h]
 ·rw [if_neg h]
  simp [h]
def vRow (x : S71) : Bool := decide (0 ≤ x.f0 ∧ x.f0 ≤ 9 ∧ 0 ≤ x.f1 ∧ x.f1 ≤ 99 ∧ 0 ≤ x.f2 ∧ x.f2 ≤ 3)
theorem vRow_impl (x : S71) : y_ob.f x.f0 x.f1 x.f2 = some (vRow x) := by
 unfold y_ob.f vRow
 simp only [within_in, Option.bind_some, decide_eq_true_eq]
 repeat' split
 all_goals (congr 1; simp only [Bool.false_eq, decide_eq_false_iff_not, decide_eq_decide]; omega)
theorem vRow_spec (x : S71) : y_rb.f x.f0 x.f1 x.f2 = some (vRow x) := by
 unfold y_rb.f vRow
 simp only [l1In_in, Option.bind_some, decide_eq_true_eq]
 repeat' split
 all_goals (congr 1; simp only [Bool.false_eq, decide_eq_false_iff_not, decide_eq_decide]; omega)
theorem vRow_iff (x : S71) : vRow x = true ↔ (0 ≤ x.f0 ∧ x.f0 ≤ 9 ∧ 0 ≤ x.f1 ∧ x.f1 ≤ 99 ∧ 0 ≤ x.f2 ∧ x.f2 ≤ 3) := by
 unfold vRow
 exact decide_eq_true_iff
def cost (x : S71) : Int := if vRow x = true then 1 + x.f2 else 0
theorem cost_bd (x : S71) : 0 ≤ cost x ∧ cost x ≤ 4 := by
 unfold cost
 split
 ·have := (vRow_iff x).1 ‹_›
  omega
 ·omega
theorem cost_impl (x : S71) : y_ub.f x.f0 x.f1 x.f2 = some (cost x) := by
 unfold y_ub.f cost
 rw [vRow_impl]
 simp only [Option.bind_some]
 split
 ·have := (vRow_iff x).1 ‹_›
  rw [wrap_id (by omega) (by omega)]
 ·rfl
theorem cost_spec (x : S71) : y_sb.f x.f0 x.f1 x.f2 = some (cost x) := by
 unfold y_sb.f cost
 rw [vRow_spec]
 simp only [Option.bind_some]
 split
 ·have := (vRow_iff x).1 ‹_›
  rw [wrap_id (by omega) (by omega)]
 ·rfl
def tot : List S71 → Int
 | [] => 0
 | x :: l => cost x + tot l
theorem tot_bd (l : List S71) : 0 ≤ tot l ∧ tot l ≤ 4 * l.length := by
 induction l with
 | nil => simp [tot]
 | cons x l ih =>
  have := cost_bd x
  simp only [tot, List.length_cons]
  omega
theorem tot_append (a b : List S71) : tot (a ++ b) = tot a + tot b := by
 induction a with
 | nil => simp [tot]
 | cons x a ih =>
  simp only [List.cons_append, tot, ih]
  omega
theorem tot_spec_go (l : List S71) (hl : l.length ≤ 1000000000000) (d : Nat) : ∀ (k : Nat) (acc i : Int), 0 ≤ i → i ≤ l.length → 0 ≤ acc → acc ≤ 4 * i → (l.length : Int) - i = d → d < k →
  y_k.l0 k l acc i = some (acc + tot (l.drop i.toNat)) := by
 induction d with
 | zero =>
  intro k acc i h0 h1 ha ha2 hd hk
  obtain ⟨k, rfl⟩ : ∃ m, k = m + 1 := ⟨k - 1, by omega⟩
  simp only [y_k.l0]
  rw [if_neg (by omega), drop_end l i (by omega)]
  simp [tot]
 | succ d ih =>
  intro k acc i h0 h1 ha ha2 hd hk
  obtain ⟨k, rfl⟩ : ∃ m, k = m + 1 := ⟨k - 1, by omega⟩
  have hc := cost_bd (rd_T71 l i)
  simp only [y_k.l0]
  rw [if_pos (by omega), if_pos h0, cost_spec]
  simp only [Option.bind_some]
  rw [wrap_succ h0 (n := l.length) (by omega) (by omega), wrap_id (by omega) (by omega), ih k _ (i + 1) (by omega) (by omega) (by omega) (by omega) (by omega) (by omega), drop_getD l z71 i h0 (by omega)]
  simp only [tot]
  congr 1
  show acc + cost (rd_T71 l i) + _ = acc + (cost (rd_T71 l i) + _)
  omega
theorem tot_impl_go (l : List S71) (hl : l.length ≤ 1000000000000) (d : Nat) : ∀ (k : Nat) (acc i : Int), 0 ≤ i → i ≤ l.length → 0 ≤ acc → acc ≤ 4 * i → (l.length : Int) - i = d → d < k →
  y_p.l0 k acc l (l.length : Int) i = some (acc + tot (l.drop i.toNat)) := by
 induction d with
 | zero =>
  intro k acc i h0 h1 ha ha2 hd hk
  obtain ⟨k, rfl⟩ : ∃ m, k = m + 1 := ⟨k - 1, by omega⟩
  simp only [y_p.l0]
  rw [if_neg (by omega), drop_end l i (by omega)]
  simp [tot]
 | succ d ih =>
  intro k acc i h0 h1 ha ha2 hd hk
  obtain ⟨k, rfl⟩ : ∃ m, k = m + 1 := ⟨k - 1, by omega⟩
  have hc := cost_bd (rd_T71 l i)
  simp only [y_p.l0]
  rw [if_pos (by omega), if_pos h0, if_pos (by omega), cost_impl]
  simp only [Option.bind_some]
  rw [wrap_succ h0 (n := l.length) (by omega) (by omega), wrap_id (by omega) (by omega), ih k _ (i + 1) (by omega) (by omega) (by omega) (by omega) (by omega) (by omega), drop_getD l z71 i h0 (by omega)]
  simp only [tot]
  congr 1
  show acc + cost (rd_T71 l i) + _ = acc + (cost (rd_T71 l i) + _)
  omega
theorem tot_spec (l : List S71) (hl : l.length ≤ 1000000000000) (k : Nat) (hk : l.length < k) : y_k.f k l = some (tot l) := by
 unfold y_k.f
 rw [tot_spec_go l hl l.length k 0 0 (by omega) (by omega) (by omega) (by omega) (by omega) hk]
 simp
theorem tot_impl (l : List S71) (hl : l.length ≤ 1000000000000) (k : Nat) (hk : l.length < k) : y_p.f k l = some (tot l) := by
 unfold y_p.f
 rw [tot_impl_go l hl l.length k 0 0 (by omega) (by omega) (by omega) (by omega) (by omega) hk]
 simp
def cmpI (a b : Int) : Int := if a < b then -1 else if a > b then 1 else 0
def cmpR (x y : S71) : Int :=
 if cmpI x.f0 y.f0 = 0 then (if cmpI x.f1 y.f1 = 0 then cmpI x.f2 y.f2 else cmpI x.f1 y.f1) else cmpI x.f0 y.f0
theorem order_eq (a b : Int) : y_eb.f a b = some (cmpI a b) := by
 unfold y_eb.f cmpI
 repeat' split
 all_goals rfl
theorem cmp_impl (x y : S71) : y_cb.f x.f0 x.f1 x.f2 y.f0 y.f1 y.f2 = some (cmpR x y) := by
 unfold y_cb.f cmpR
 simp only [order_eq, Option.bind_some]
 repeat' split
 all_goals rfl
theorem cmp_spec (x y : S71) (k : Nat) (hk : 4 ≤ k) : y_f.f k x.f0 x.f1 x.f2 y.f0 y.f1 y.f2 = some (cmpR x y) := by
 obtain ⟨m, rfl⟩ : ∃ m, k = m + 4 := ⟨k - 4, by omega⟩
 have w0 : wrap64 (0 + 1) = 1 := by unfold wrap64; omega
 have w1 : wrap64 (1 + 1) = 2 := by unfold wrap64; omega
 have w2 : wrap64 (2 + 1) = 3 := by unfold wrap64; omega
 have r0 : ∀ a b c : Int, rd [a, b, c] 0 = a := fun _ _ _ => rfl
 have r1 : ∀ a b c : Int, rd [a, b, c] 1 = b := fun _ _ _ => rfl
 have r2 : ∀ a b c : Int, rd [a, b, c] 2 = c := fun _ _ _ => rfl
 unfold y_f.f cmpR cmpI
 simp only [y_f.l0, w0, w1, w2, r0, r1, r2, List.length_cons, List.length_nil]
 by_cases a : x.f0 < y.f0
 ·simp [a]
 by_cases b : x.f0 > y.f0
 ·simp [a, b]
 by_cases c : x.f1 < y.f1
 ·simp [a, b, c]
 by_cases d : x.f1 > y.f1
 ·simp [a, b, c, d]
 by_cases e : x.f2 < y.f2
 ·simp [a, b, c, d, e]
 by_cases f : x.f2 > y.f2
 ·simp [a, b, c, d, e, f]
 ·simp [a, b, c, d, e, f]
theorem cmpI_anti (a b : Int) : cmpI b a = -cmpI a b := by
 unfold cmpI
 repeat' split
 all_goals omega
theorem cmpI_zero (a b : Int) (h : cmpI a b = 0) : a = b := by
 unfold cmpI at h
 repeat' split at h
 all_goals omega
theorem cmpI_self (a : Int) : cmpI a a = 0 := by
 unfold cmpI
 rw [if_neg (by omega), if_neg (by omega)]
theorem cmpR_anti (x y : S71) : cmpR y x = -cmpR x y := by
 unfold cmpR
 simp only [cmpI_anti x.f0 y.f0, cmpI_anti x.f1 y.f1, cmpI_anti x.f2 y.f2]
 repeat' split
 all_goals omega
theorem cmpR_zero (x y : S71) (h : cmpR x y = 0) : x = y := by
 unfold cmpR at h
 split at h
 ·split at h
  ·obtain ⟨a, b, c⟩ := x
   obtain ⟨d, e, f⟩ := y
   simp only at *
   have h0 := cmpI_zero a d ‹_›
   have h1 := cmpI_zero b e ‹_›
   have h2 := cmpI_zero c f h
   subst h0 h1 h2
   rfl
  ·contradiction
 ·contradiction
theorem cmpR_self (x : S71) : cmpR x x = 0 := by
 unfold cmpR
 rw [if_pos (cmpI_self _), if_pos (cmpI_self _), cmpI_self]
theorem cmpI_eq (a b : Int) : cmpI a b = 0 ↔ a = b := ⟨cmpI_zero a b, fun h => h ▸ cmpI_self a⟩
theorem cmpI_le (a b : Int) : cmpI a b ≤ 0 ↔ a ≤ b := by
 unfold cmpI
 repeat' split
 all_goals omega
theorem cmpR_le (x y : S71) : cmpR x y ≤ 0 ↔ (x.f0 < y.f0 ∨ (x.f0 = y.f0 ∧ (x.f1 < y.f1 ∨ (x.f1 = y.f1 ∧ x.f2 ≤ y.f2)))) := by
 unfold cmpR
 have a0 := cmpI_eq x.f0 y.f0
 have a1 := cmpI_eq x.f1 y.f1
 have l0 := cmpI_le x.f0 y.f0
 have l1 := cmpI_le x.f1 y.f1
 have l2 := cmpI_le x.f2 y.f2
 split
 ·split
  ·omega
  ·omega
 ·omega
theorem cmpR_trans (x y z : S71) (h1 : cmpR x y ≤ 0) (h2 : cmpR y z ≤ 0) : cmpR x z ≤ 0 := by
 rw [cmpR_le] at *
 omega
theorem cmpR_total (x y : S71) : cmpR x y ≤ 0 ∨ cmpR y x ≤ 0 := by
 have := cmpR_anti x y
 omega
def srtd : List S71 → Bool
 | [] => true
 | [_] => true
 | x :: y :: l => decide (cmpR x y ≤ 0) && srtd (y :: l)
theorem srt_spec_go (l : List S71) (hl : l.length ≤ 9223372036854775807) (d : Nat) : ∀ (k : Nat) (i : Int), 1 ≤ i → i ≤ l.length → (l.length : Int) - i = d → d + 4 < k → y_o.l0 k l i = some (srtd (l.drop (i - 1).toNat)) := by
 induction d with
 | zero =>
  intro k i h0 h1 hd hk
  obtain ⟨k, rfl⟩ : ∃ m, k = m + 1 := ⟨k - 1, by omega⟩
  simp only [y_o.l0]
  rw [if_neg (by omega), drop_getD l z71 (i - 1) (by omega) (by omega), drop_end l (i - 1 + 1) (by omega)]
  rfl
 | succ d ih =>
  intro k i h0 h1 hd hk
  obtain ⟨k, rfl⟩ : ∃ m, k = m + 1 := ⟨k - 1, by omega⟩
  simp only [y_o.l0]
  rw [wrap_id (x := i - 1) (by omega) (by omega), wrap_succ (by omega) (n := l.length) (by omega) (by omega), if_pos (by omega), if_pos (by omega), if_pos (by omega), if_pos (by omega), cmp_spec _ _ k (by omega)]
  simp only [Option.bind_some]
  have ih := ih k (i + 1) (by omega) (by omega) (by omega) (by omega)
  rw [ih, show i + 1 - 1 = i by omega, drop_getD l z71 (i - 1) (by omega) (by omega), show i - 1 + 1 = i by omega, drop_getD l z71 i (by omega) (by omega)]
  simp only [srtd]
  by_cases hc : cmpR (rd_T71 l (i - 1)) (rd_T71 l i) > 0
  ·rw [if_pos hc]
   have : decide (cmpR (l.getD (i - 1).toNat z71) (l.getD i.toNat z71) ≤ 0) = false := decide_eq_false (by show ¬ (cmpR (rd_T71 l (i - 1)) (rd_T71 l i) ≤ 0); omega)
   rw [this]
   rfl
  ·rw [if_neg hc]
   have : decide (cmpR (l.getD (i - 1).toNat z71) (l.getD i.toNat z71) ≤ 0) = true := decide_eq_true (by show (cmpR (rd_T71 l (i - 1)) (rd_T71 l i) ≤ 0); omega)
   rw [this]
   rfl
theorem srt_impl_go (l : List S71) (hl : l.length ≤ 9223372036854775807) (d : Nat) : ∀ (k : Nat) (i : Int), 1 ≤ i → i ≤ l.length → (l.length : Int) - i = d → d < k → y_m.l0 k l i = some (srtd (l.drop (i - 1).toNat)) := by
 induction d with
 | zero =>
  intro k i h0 h1 hd hk
  obtain ⟨k, rfl⟩ : ∃ m, k = m + 1 := ⟨k - 1, by omega⟩
  simp only [y_m.l0]
  rw [if_neg (by omega), drop_getD l z71 (i - 1) (by omega) (by omega), drop_end l (i - 1 + 1) (by omega)]
  rfl
 | succ d ih =>
  intro k i h0 h1 hd hk
  obtain ⟨k, rfl⟩ : ∃ m, k = m + 1 := ⟨k - 1, by omega⟩
  simp only [y_m.l0]
  rw [wrap_id (x := i - 1) (by omega) (by omega), wrap_succ (by omega) (n := l.length) (by omega) (by omega), if_pos (by omega), if_pos (by omega), if_pos (by omega), if_pos (by omega), cmp_impl]
  simp only [Option.bind_some]
  have ih := ih k (i + 1) (by omega) (by omega) (by omega) (by omega)
  rw [ih, show i + 1 - 1 = i by omega, drop_getD l z71 (i - 1) (by omega) (by omega), show i - 1 + 1 = i by omega, drop_getD l z71 i (by omega) (by omega), cmpR_anti]
  simp only [srtd]
  by_cases hc : cmpR (rd_T71 l (i - 1)) (rd_T71 l i) > 0
  ·rw [if_pos (by omega)]
   have : decide (cmpR (l.getD (i - 1).toNat z71) (l.getD i.toNat z71) ≤ 0) = false := decide_eq_false (by show ¬ (cmpR (rd_T71 l (i - 1)) (rd_T71 l i) ≤ 0); omega)
   rw [this]
   rfl
  ·rw [if_neg (by omega)]
   have : decide (cmpR (l.getD (i - 1).toNat z71) (l.getD i.toNat z71) ≤ 0) = true := decide_eq_true (by show (cmpR (rd_T71 l (i - 1)) (rd_T71 l i) ≤ 0); omega)
   rw [this]
   rfl
theorem srt_spec (l : List S71) (hl : l.length ≤ 9223372036854775807) (k : Nat) (hk : l.length + 4 < k) : y_o.f k l = some (srtd l) := by
 unfold y_o.f
 by_cases h0 : l.length = 0
 ·obtain ⟨k, rfl⟩ : ∃ m, k = m + 1 := ⟨k - 1, by omega⟩
  simp only [y_o.l0]
  rw [if_neg (by omega), List.eq_nil_of_length_eq_zero h0]
  rfl
 ·exact srt_spec_go l hl (l.length - 1) k 1 (by omega) (by omega) (by omega) (by omega)
theorem srt_impl (l : List S71) (hl : l.length ≤ 9223372036854775807) (k : Nat) (hk : l.length + 4 < k) : y_m.f k l = some (srtd l) := by
 unfold y_m.f
 by_cases h0 : l.length = 0
 ·obtain ⟨k, rfl⟩ : ∃ m, k = m + 1 := ⟨k - 1, by omega⟩
  simp only [y_m.l0]
  rw [if_neg (by omega), List.eq_nil_of_length_eq_zero h0]
  rfl
 ·exact srt_impl_go l hl (l.length - 1) k 1 (by omega) (by omega) (by omega) (by omega)
def vRows (l : List S71) : Bool := l.all vRow && decide (l.length ≤ 24)
theorem vRows_spec_go (l : List S71) (hl : l.length ≤ 9223372036854775807) (d : Nat) : ∀ (k : Nat) (i : Int), 0 ≤ i → i ≤ l.length → (l.length : Int) - i = d → d < k → y_v.l0 k l i = some ((l.drop i.toNat).all vRow && decide (l.length ≤ 24)) := by
 induction d with
 | zero =>
  intro k i h0 h1 hd hk
  obtain ⟨k, rfl⟩ : ∃ m, k = m + 1 := ⟨k - 1, by omega⟩
  simp only [y_v.l0]
  rw [if_neg (by omega), drop_end l i (by omega)]
  simp only [List.all_nil, Bool.true_and]
  congr 1
  exact decide_eq_decide.2 (by omega)
 | succ d ih =>
  intro k i h0 h1 hd hk
  obtain ⟨k, rfl⟩ : ∃ m, k = m + 1 := ⟨k - 1, by omega⟩
  simp only [y_v.l0]
  rw [if_pos (by omega), if_pos h0, vRow_spec, wrap_succ h0 (n := l.length) (by omega) (by omega)]
  simp only [Option.bind_some]
  rw [ih k (i + 1) (by omega) (by omega) (by omega) (by omega), drop_getD l z71 i h0 (by omega)]
  simp only [List.all_cons]
  show (if vRow (rd_T71 l i) = true then _ else _) = some ((vRow (rd_T71 l i) && _) && _)
  cases vRow (rd_T71 l i) <;> simp
theorem vRows_spec (l : List S71) (hl : l.length ≤ 9223372036854775807) (k : Nat) (hk : l.length < k) : y_v.f k l = some (vRows l) := by
 unfold y_v.f
 exact vRows_spec_go l hl l.length k 0 (by omega) (by omega) (by omega) hk
theorem allV_impl_go (l : List S71) (hl : l.length ≤ 9223372036854775807) (d : Nat) : ∀ (k : Nat) (i : Int), 0 ≤ i → i ≤ l.length → (l.length : Int) - i = d → d < k → y_hb.l0 k l (l.length : Int) i = some ((l.drop i.toNat).all vRow) := by
 induction d with
 | zero =>
  intro k i h0 h1 hd hk
  obtain ⟨k, rfl⟩ : ∃ m, k = m + 1 := ⟨k - 1, by omega⟩
  simp only [y_hb.l0]
  rw [if_neg (by omega), drop_end l i (by omega)]
  rfl
 | succ d ih =>
  intro k i h0 h1 hd hk
  obtain ⟨k, rfl⟩ : ∃ m, k = m + 1 := ⟨k - 1, by omega⟩
  simp only [y_hb.l0]
  rw [if_pos (by omega), if_pos h0, if_pos (by omega), vRow_impl, wrap_succ h0 (n := l.length) (by omega) (by omega)]
  simp only [Option.bind_some]
  rw [ih k (i + 1) (by omega) (by omega) (by omega) (by omega), drop_getD l z71 i h0 (by omega)]
  simp only [List.all_cons]
  show (if vRow (rd_T71 l i) = true then _ else _) = some (vRow (rd_T71 l i) && _)
  cases vRow (rd_T71 l i) <;> simp
theorem vRows_impl (l : List S71) (hl : l.length ≤ 9223372036854775807) (k : Nat) (hk : l.length < k) : y_kb.f k l = some (vRows l) := by
 unfold y_kb.f y_hb.f vRows
 rw [allV_impl_go l hl l.length k 0 (by omega) (by omega) (by omega) hk]
 simp only [Option.bind_some]
 by_cases h : l.length ≤ 24
 ·rw [if_pos (by omega), decide_eq_true h]
  simp
 ·rw [if_neg (by omega), decide_eq_false h]
  simp
def SP (l : List S71) : Prop := l.Pairwise (fun a b => cmpR a b ≤ 0)
def leS (x y : S71) : Bool := decide (cmpR x y ≤ 0)
def srt (l : List S71) : List S71 := l.mergeSort leS
theorem srt_perm (l : List S71) : (srt l).Perm l := List.mergeSort_perm l leS
theorem srt_len (l : List S71) : (srt l).length = l.length := (srt_perm l).length_eq
theorem srt_sp (l : List S71) : SP (srt l) := by
 have h := List.pairwise_mergeSort (le := leS) (fun a b c h1 h2 => decide_eq_true (cmpR_trans a b c (of_decide_eq_true h1) (of_decide_eq_true h2)))
  (fun a b => by
   rcases cmpR_total a b with h | h
   ·simp [leS, h]
   ·simp [leS, h]) l
 exact h.imp (fun h => of_decide_eq_true h)
theorem sp_unique (a b : List S71) (ha : SP a) (hb : SP b) (h : a.Perm b) : a = b :=
 List.Perm.eq_of_pairwise (le := fun a b => cmpR a b ≤ 0) (fun x y _ _ h1 h2 => cmpR_zero x y (by have := cmpR_anti x y; omega)) ha hb h
theorem srt_unique (a l : List S71) (ha : SP a) (h : a.Perm l) : a = srt l := sp_unique a (srt l) ha (srt_sp l) (h.trans (srt_perm l).symm)
theorem srt_congr (a b : List S71) (h : a.Perm b) : srt a = srt b := srt_unique (srt a) b (srt_sp a) ((srt_perm a).trans h)
theorem sp_ins (l : List S71) (x : S71) (m : Nat) (hs : SP l) (hg : ∀ y ∈ l.drop m, 0 < cmpR y x) (hl : ∀ y ∈ l.take m, cmpR y x ≤ 0) : SP (l.take m ++ x :: l.drop m) := by
 unfold SP at *
 rw [← List.take_append_drop m l, List.pairwise_append] at hs
 rw [List.pairwise_append]
 refine ⟨hs.1, List.pairwise_cons.2 ⟨fun y hy => ?_, hs.2.1⟩, fun a ha b hb => ?_⟩
 ·have := hg y hy
  have := cmpR_anti x y
  omega
 ·rcases List.mem_cons.1 hb with rfl | hb
  ·exact hl a ha
  ·exact hs.2.2 a ha b hb
theorem getD_le (l : List S71) (hs : SP l) (j : Nat) (hj : j < l.length) (x : S71) (h : cmpR (l.getD j z71) x ≤ 0) : ∀ y ∈ l.take (j + 1), cmpR y x ≤ 0 := by
 intro y hy
 unfold SP at hs
 rw [List.take_add_one, List.getElem?_eq_getElem hj] at hy
 have e : l.getD j z71 = l[j] := by
  rw [List.getD_eq_getElem?_getD, List.getElem?_eq_getElem hj]
  rfl
 rw [e] at h
 rcases List.mem_append.1 hy with h1 | h1
 ·rw [← List.take_append_drop j l, List.pairwise_append] at hs
  have hm : l[j] ∈ l.drop j := by
   rw [List.drop_eq_getElem_cons hj]
   exact List.mem_cons_self
  exact cmpR_trans y l[j] x (hs.2.2 y h1 _ hm) h
 ·have : y = l[j] := by simpa using h1
  rw [this]
  exact h
theorem ins_go (l acc : List S71) (i : Int) (h0 : 0 ≤ i) (h1 : i < l.length) (ha : acc.length < 1000000000) (hs : SP acc) (k : Nat) (hk : 4 ≤ k) (j : Nat) : j ≤ acc.length → (∀ y ∈ acc.drop j, 0 < cmpR y (rd_T71 l i)) →
  ∃ m, m ≤ j ∧ y_c.l1 (k + j + 1) l acc i (j : Int) = y_c.l0 (k + m) l (acc.take m ++ rd_T71 l i :: acc.drop m) (wrap64 (i + 1)) ∧ SP (acc.take m ++ rd_T71 l i :: acc.drop m) := by
 induction j with
 | zero =>
  intro hj hg
  refine ⟨0, Nat.le_refl 0, ?_, sp_ins acc _ 0 hs hg (fun y hy => by simp at hy)⟩
  rw [y_c.l1, if_neg (by omega), if_pos h0, if_pos h1]
  simp only [Option.bind_some]
  rw [if_pos (by omega), if_pos (by omega)]
  simp only [List.length_cons, List.length_nil, List.length_append, zm14d, zm14e, List.nil_append]
  rw [if_pos (by omega), if_pos (by omega), if_pos (by omega)]
  rfl
 | succ j ih =>
  intro hj hg
  have hw : wrap64 (((j + 1 : Nat) : Int) - 1) = (j : Int) := by rw [wrap_id (by omega) (by omega)]; omega
  have e : rd_T71 acc (j : Int) = acc.getD j z71 := rfl
  rw [show k + (j + 1) + 1 = (k + j + 1) + 1 by omega, y_c.l1, hw, if_pos (by omega), if_pos (by omega), if_pos (by omega), if_pos h0, if_pos h1, cmp_spec _ _ _ (by omega)]
  simp only [Option.bind_some]
  by_cases hc : cmpR (rd_T71 acc (j : Int)) (rd_T71 l i) > 0
  ·rw [if_pos hc]
   obtain ⟨m, hm, he, hp⟩ := ih (by omega) (fun y hy => by
    rw [List.drop_eq_getElem_cons (show j < acc.length by omega)] at hy
    rcases List.mem_cons.1 hy with h | h
    ·rw [e, List.getD_eq_getElem?_getD, List.getElem?_eq_getElem (show j < acc.length by omega)] at hc
     rw [h]
     exact hc
    ·exact hg y h)
   exact ⟨m, by omega, he, hp⟩
  ·rw [if_neg hc]
   refine ⟨j + 1, Nat.le_refl _, ?_, sp_ins acc _ (j + 1) hs hg (getD_le acc hs j (by omega) _ (by rw [← e]; omega))⟩
   rw [if_pos (by omega), if_pos (by omega)]
   simp only [List.length_cons, List.length_nil, List.length_append, zm14d, zm14e, List.nil_append]
   rw [if_pos (by omega), if_pos (by omega), if_pos (by omega)]
   rfl
theorem sort_go (l : List S71) (hl : l.length ≤ 100000000) (W : Nat) (hW : l.length + 10 ≤ W) (d : Nat) : ∀ (k : Nat) (acc : List S71) (i : Int), 0 ≤ i → i ≤ l.length → acc.length = i.toNat → SP acc → (l.length : Int) - i = d → d * W + W < k →
  ∃ r, y_c.l0 k l acc i = some r ∧ SP r ∧ r.Perm (acc ++ l.drop i.toNat) := by
 induction d with
 | zero =>
  intro k acc i h0 h1 ha hs hd hk
  obtain ⟨k, rfl⟩ : ∃ m, k = m + 1 := ⟨k - 1, by omega⟩
  rw [y_c.l0, if_neg (by omega), drop_end l i (by omega), List.append_nil]
  exact ⟨acc, rfl, hs, List.Perm.refl _⟩
 | succ d ih =>
  intro k acc i h0 h1 ha hs hd hk
  have hm : (d + 1) * W = d * W + W := Nat.succ_mul d W
  obtain ⟨k, rfl⟩ : ∃ m, k = (m + acc.length + 1) + 1 := ⟨k - acc.length - 2, by omega⟩
  obtain ⟨m, hm1, he, hp⟩ := ins_go l acc i h0 (by omega) (by omega) hs k (by omega) acc.length (Nat.le_refl _) (fun y hy => by simp at hy)
  rw [y_c.l0, if_pos (by omega), he, wrap_succ h0 (n := l.length) (by omega) (by omega)]
  have hpm : (acc.take m ++ rd_T71 l i :: acc.drop m).Perm (acc ++ [rd_T71 l i]) := by
   refine List.perm_middle.trans ?_
   rw [List.take_append_drop]
   exact (List.perm_append_singleton _ _).symm
  obtain ⟨r, hr, hrs, hrp⟩ := ih (k + m) _ (i + 1) (by omega) (by omega) (by rw [hpm.length_eq, List.length_append, List.length_singleton]; omega) hp (by omega) (by omega)
  refine ⟨r, hr, hrs, hrp.trans ((hpm.append_right _).trans ?_)⟩
  rw [drop_getD l z71 i h0 (by omega), List.append_assoc]
  exact List.Perm.refl _
theorem sort_spec (l : List S71) (hl : l.length ≤ 100000000) (k : Nat) (hk : l.length * (l.length + 10) + (l.length + 10) < k) : y_c.f k l = some (srt l) := by
 unfold y_c.f
 obtain ⟨r, hr, hs, hp⟩ := sort_go l hl (l.length + 10) (Nat.le_refl _) l.length k [] 0 (by omega) (by omega) rfl List.Pairwise.nil (by omega) hk
 rw [hr]
 exact congrArg some (srt_unique r l hs (by simpa using hp))
end Go.Proofs.Ytkcicbigpbdjpaa.Pure
end
