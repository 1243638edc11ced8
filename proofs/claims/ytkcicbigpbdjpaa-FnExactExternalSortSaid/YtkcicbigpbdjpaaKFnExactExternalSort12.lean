-- merged by pack.py out of Px32 Px33 Px35 (words: printed by the kit's print.sh; what this claim does not use is left out)

import Derived.Test.YtkcicbigpbdjpaaKFnExactExternalSort1
import Derived.Test.YtkcicbigpbdjpaaKFnExactExternalSort6
import Derived.Test.YtkcicbigpbdjpaaKFnExactExternalSort7
import Derived.Test.YtkcicbigpbdjpaaKFnExactExternalSort9
import Derived.Test.YtkcicbigpbdjpaaKFnExactExternalSort10
import Derived.Test.YtkcicbigpbdjpaaKFnExactExternalSort11
namespace Go.Proofs.Ytkcicbigpbdjpaa
abbrev zt12 : Bool := true
abbrev zf12 : Bool := false
section
open Go.RowKit Go.Proofs.YtkcicbigpbdjpaaW.PrintWords Go.Proofs.YtkcicbigpbdjpaaW.PrintLast Go.Proofs.YtkcicbigpbdjpaaW.PrintMore
abbrev z12a := @Aside0.mk
abbrev z12b := @pw_below_drewN
abbrev z12c := @below_drew1
abbrev z12d := @below_alloc
abbrev z12e := @World.block_lt_of_cell?
abbrev z12f := @Option.bind_eq_some_iff
abbrev z12g := @of_decide_eq_true
end
theorem zm12a {α β : Type} (f : α → β) (l : List α) : l.toArray.map f = (l.map f).toArray := by simp
theorem zm12b {α β : Type} (f : α → β) (a : α) (l : List α) : (a :: l).map f = f a :: l.map f := rfl
theorem zm12c {α β : Type} (f : α → β) : ([] : List α).map f = [] := rfl
theorem zm12d {α : Type} (n : Nat) (l : List α) : (l.drop n).length = l.length - n := List.length_drop
theorem zm12e {α : Type} (n : Nat) (l : List α) : (l.take n).length = min n l.length := List.length_take
theorem zp12a {α : Type} (l : List α) (i : Nat) (a : α) : l.toArray.setIfInBounds i a = (l.set i a).toArray := List.setIfInBounds_toArray l i a
theorem zp12b {α : Type} (x : α) (l : List α) (a : α) : (x :: l).set 0 a = a :: l := List.set_cons_zero
theorem zp12c {α : Type} (x : α) (l : List α) (n : Nat) (a : α) : (x :: l).set (n + 1) a = x :: l.set n a := List.set_cons_succ
end Go.Proofs.Ytkcicbigpbdjpaa
set_option maxHeartbeats 8000000
set_option maxRecDepth 100000
section
namespace Go.Proofs.Ytkcicbigpbdjpaa.P
open Go.RowKit Go.Proofs.YtkcicbigpbdjpaaW.PrintWords Go.Proofs.YtkcicbigpbdjpaaW.PrintLast Go.Proofs.YtkcicbigpbdjpaaW.PrintMore
attribute [local go_sem] max2_int min2_int max_two min_two max_three min_three max_four min_four
set_option linter.unusedVariables false
set_option linter.unusedSimpArgs false
def y_k.l0 : Nat → List (S39) → List (S39) → Int → Option ((List (S39)))
 | 0, _, _, _ => none
 | k + 1, x0, x3, x4 => if x4 < (x0.length : Int) then (if (wrap64 (x4 + 1)) = (x0.length : Int) then (if 0 ≤ x4 then ((y_ib.f ((rd_T39 x0 x4).f0)).bind fun t792 => (if x3.length < 5864062014805 then (y_k.l0 k x0 (x3 ++ [(⟨t792⟩ : S39)]) (wrap64 (x4 + 2))) else (none))) else (none)) else (if 0 ≤ x4 then (if 0 ≤ (wrap64 (x4 + 1)) then (if (wrap64 (x4 + 1)) < (x0.length : Int) then ((y_d.f k ((rd_T39 x0 x4).f0) ((rd_T39 x0 (wrap64 (x4 + 1))).f0)).bind fun t800 => (if x3.length < 5864062014805 then (y_k.l0 k x0 (x3 ++ [(⟨t800⟩ : S39)]) (wrap64 (x4 + 2))) else (none))) else (none)) else (none)) else (none))) else (some x3)
def y_k.f (k : Nat) (l0 : List (S39)) : Option ((List (S39))) := y_k.l0 k l0 (([] : List (S39))) 0
theorem y_k.mono_l : ∀ k, (∀ y0 y1 y2, LeO (y_k.l0 k y0 y1 y2) (y_k.l0 (k + 1) y0 y1 y2))
 | 0 => fun _ _ _ r h => by simp [y_k.l0] at h
 | k + 1 => by
  have ih0 := y_k.mono_l k
  ·intro y0 y1 y2
   unfold y_k.l0
   repeat' first
   | (with_reducible exact ih0 _ _ _)
   | (with_reducible exact y_d.mono _ _ _)
   | (with_reducible exact LeO.refl _)
   | (with_reducible exact LeO.none _)
   | (with_reducible refine LeO.ite ?_ ?_)
   | (with_reducible refine LeO.bind ?_ (fun _ => ?_))
   | exact ih0 _ _ _
   | exact y_d.mono _ _ _
   | exact LeO.none _
   | refine LeO.ite ?_ ?_
   | refine LeO.bind ?_ (fun _ => ?_)
theorem y_k.mono : ∀ a0 k, LeO (y_k.f k a0) (y_k.f (k + 1) a0) := by
 intro a0 k
 have ih0 := y_k.mono_l k
 unfold y_k.f
 repeat' first
   | (with_reducible exact ih0 _ _ _)
   | (with_reducible exact y_d.mono _ _ _)
   | (with_reducible exact LeO.refl _)
   | (with_reducible exact LeO.none _)
   | (with_reducible refine LeO.ite ?_ ?_)
   | (with_reducible refine LeO.bind ?_ (fun _ => ?_))
   | exact ih0 _ _ _
   | exact y_d.mono _ _ _
   | exact LeO.none _
   | refine LeO.ite ?_ ?_
   | refine LeO.bind ?_ (fun _ => ?_)
def y_k.T7 : Bool × List (List Nat × List Nat) := (true, [([], []), ([], []), ([], []), ([1, 2], [1, 2]), ([3], [3]), ([4], [4]), ([], []), ([], []), ([7], [7]), ([6, 8], [6, 8]), ([9], [9]), ([10], [10]), ([5, 11], [5, 11]), ([12], [12]), ([13], [13]), ([0, 14, 12], [0, 14]), ([15, 15, 0, 1, 2, 3, 4, 5, 6, 7, 8, 9, 10, 11, 12, 13, 14, 15], [0, 15])])
def y_k.B7 : List Nat := [0, 0, 0, 6, 14, 30, 0, 0, 128, 448, 960, 1984, 4094, 8190, 16382, 32767, 65535]
theorem y_k.tab7 : rtab .any (opsOf Try.f49 7) = y_k.T7 := by kernel_rfl
theorem y_k.bits7 : waitsOk y_k.T7.2 y_k.B7 = true := by kernel_rfl
theorem y_k.calls (k : Nat) (A0 : Option Addr) (c0 : Nat) (l0 : List (S39)) (r : List (S39)) (w : World) (hr0 : Kd.C k39 w A0 l0.length l0) (hc0 : l0.length ≤ c0) (h : y_k.f k l0 = some r) :
  Calls Try.prog 49 #[.slice A0 l0.length c0] w fun e w' => ∃ v0_ : Value, e = .returned (v0_) ∧ Kd.S k39 39 w' w.heap.size (fun _ => True) v0_ r ∧ Below w.heap.size w w' := by
 have hu39 := Try.underlying39
 have HR0 := z12a hr0
 have HC0 := z12a hc0
 clear hr0 hc0
 have HB := z12a (Below.refl w.heap.size w)
 have H : (y_k.l0 k l0 (([] : List (S39))) 0) = some r := h
 clear h
 obtain ⟨y788, hy788⟩ : ∃ y_ : List (S39), y_ = (([] : List (S39))) := ⟨_, rfl⟩
 replace H : (y_k.l0 k l0 y788 0) = some r := by first | (rw [hy788]; with_reducible exact H) | (have H2_ := (Option.bind_some _ _).symm.trans H; rw [hy788]; with_reducible exact H2_) | (have H2_ := (Option.bind_some _ _).symm.trans H; with_reducible exact H2_) | with_reducible exact H | (rw [hy788]; exact H) | exact H
 have Ny788 := z12a hy788
 clear hy788
 have H' := z12a H
 clear H
 go_enter Try.func49, Try.ntmps49
 go_wp2_with (first | ((with_reducible refine gate_dst (N := 5) rfl ?_); refine Kd.S_lit k39 _ 39 ?hg (N := 5) ?hd (xs := ([] : List (S39))) (inner := []) (ok := fun _ => True) (okp := fun _ => True) ?hr ?hp (fun _ hk => hk) trivial (Below.refl _ _) (Nat.le_refl _) (by simp) ?_; (case hd => rfl); (case hg => rfl); (case hr => first | (go_simp; done) | (go_simp; rfl)); (case hp => exact (Reps.none _ _)); intro v789 w2 ho3 hb hg_ hnew_; clear hg_ hnew_; (first | rw [← Ny788.out] at ho3 | (simp only [Int.reduceToNat] at ho3; rw [← Ny788.out] at ho3)); have n0_ := z12a (Kd.S_lower ho3 (below_size (by repeat (first | (with_reducible first | exact HB.out | apply z12d | apply z12b | apply z12c) | exact HB.out)))); have n1_ := z12a (below_step (by repeat (first | (with_reducible first | exact HB.out | apply z12d | apply z12b | apply z12c) | exact HB.out)) hb); clear HB; have HO790 := n0_; have HB := n1_; clear n0_ n1_; clear hb ho3))
 go_loopg [3, 4] k (fun kq v3 v4 w' => ∃ (x3_1 : List (S39)) (x4_1 : Int), v4 = .int .i64 x4_1 ∧ Aside0 (y_k.l0 kq l0 x3_1 x4_1 = some r) ∧ Aside0 (kq ≤ k) ∧ Aside0 (Kd.S k39 39 w' w.heap.size (fun _ => True) v3 x3_1) ∧ Aside0 (Below w.heap.size w w'))
 case atStart => exact ⟨(y788), (0), (by first | rfl | (simp; done) | (simp [*]; done)), H', ⟨Nat.le_refl _⟩, ⟨by (with_reducible repeat (first | apply Kd.S_alloc | apply Kd.S_drewN | apply Kd.S_drew)); exact HO790.out⟩, ⟨by repeat (first | (with_reducible first | exact HB.out | apply z12d | apply z12b | apply z12c) | exact HB.out)⟩⟩
 case round =>
  clear H'
  try clear p2
  obtain ⟨x3_1, x4_1, rfl, HA, HK1, HO_3, HB⟩ := hrel
  cases gk with
  | zero => exact absurd HA.out (by simp [y_k.l0])
  | succ k1 =>
   have H := HA.out
   clear HA
   simp only [y_k.l0] at H
   by_cases c4 : x4_1 < (l0.length : Int)
   ·rw [if_pos c4] at H
    have c4b0 : decide (x4_1 < (l0.length : Int)) = true := decide_eq_true c4
    clear c4
    by_cases c5 : (wrap64 (x4_1 + 1)) = (l0.length : Int)
    ·rw [if_pos c5] at H
     have c5b0 : ((wrap64 (x4_1 + 1)) == (l0.length : Int)) = true := beq_iff_eq.mpr c5
     have c5b1 : ((wrap64 (x4_1 + 1)) != (l0.length : Int)) = false := bne_eq_false_iff_eq.mpr c5
     clear c5
     by_cases c6 : 0 ≤ x4_1
     ·rw [if_pos c6] at H
      have c6b0 : decide (0 ≤ x4_1) = true := decide_eq_true c6
      clear c6
      replace H := z12f.mp H
      obtain ⟨t792, A70, H⟩ := H
      have A7 := z12a A70
      clear A70
      by_cases c8 : x3_1.length < 5864062014805
      ·rw [if_pos c8] at H
       have LMc8 := z12a c8
       clear c8
       obtain ⟨y795, hy795⟩ : ∃ y_ : List (S39), y_ = (x3_1 ++ [(⟨t792⟩ : S39)]) := ⟨_, rfl⟩
       replace H : (y_k.l0 k1 l0 y795 (wrap64 (x4_1 + 2))) = some r := by first | (rw [hy795]; with_reducible exact H) | (have H2_ := (Option.bind_some _ _).symm.trans H; rw [hy795]; with_reducible exact H2_) | (have H2_ := (Option.bind_some _ _).symm.trans H; with_reducible exact H2_) | with_reducible exact H | (rw [hy795]; exact H) | exact H
       have Ny795 := z12a hy795
       clear hy795
       have H' := z12a H
       clear H
       have p791 : 0 ≤ (x4_1 : Int) := z12g (by first | (with_reducible assumption) | assumption)
       have q791 : x4_1 < (l0.length : Int) := z12g (by first | (with_reducible assumption) | assumption)
       obtain ⟨ad791, A791_0, c791_0, e791, hx791_0, hl791_0, hi791_0⟩ := at_T39 HR0.out x4_1 p791 q791
       cases e791
       replace hx791_0 := (HB.out.cell (z12e w _ hx791_0)).trans hx791_0
       have HR791_0 := z12a hi791_0
       have HC791_0 := z12a hl791_0
       clear hi791_0 hl791_0
       replace p791 := eq_true p791
       replace q791 := eq_true q791
       go_wp2_with (first | ((with_reducible refine gate_callee (f := 130) rfl ?_); refine goesL_ (some 23) rfl rfl Try.func130 (by kernel_rfl) rfl #[.slice A791_0 ((rd_T39 l0 x4_1).f0).length c791_0] rfl (by (try simp only [zm12a, zm12b, zm12c]); first | done | rfl | (simp only [zm12d, zm12e]; rfl)) ?_; (with_reducible refine (y_ib.calls _ _ ((rd_T39 l0 x4_1).f0) t792 _ ?side1 ?side2 A7.out).mono ?_); (case side1 => repeat (first | exact (Kd.C_below HR791_0.out HB.out) | (with_reducible refine Kd.C_alloc ?_ _) | (with_reducible refine Kd.C_drewN ?_ _) | (with_reducible refine Kd.C_drew ?_))); (case side2 => exact HC791_0.out); rintro e w9 ⟨v793, rfl, ho0, hb⟩; refine ⟨_, rfl, ?_⟩; have n0_ := z12a (Kd.S_elder' (by (with_reducible repeat (first | apply Kd.S_alloc | apply Kd.S_drewN | apply Kd.S_drew)); exact HO_3.out) (Kd.R_base ho0) hb); have n1_ := z12a (Kd.R_lower ho0 (below_size (by repeat (first | (with_reducible first | exact HB.out | apply z12d | apply z12b | apply z12c) | exact HB.out)))); have n2_ := z12a (below_step (by repeat (first | (with_reducible first | exact HB.out | apply z12d | apply z12b | apply z12c) | exact HB.out)) hb); clear HO_3; clear HB; have HO_3 := n0_; have HO794 := n1_; have HB := n2_; clear n0_ n1_ n2_; (try clear hb); (try clear hb2); (try clear hk); (try clear hi); (try clear ho0); obtain ⟨Ao10, co10, eo10⟩ := Kd.R_slice HO794.out; subst eo10) | ((with_reducible refine gate_builtin (b := .append) (xs := #[.tmp 17, .tmp 25]) rfl ?_); at_builtin; refine Kd.S_append k39 (w0 := w) w.heap.size rfl (.tmp 17) (.tmp 25) 27 39 (.agg #[(.slice none 0 0)]) 24 rfl Try.underlying27 info39 rfl (by decide) (by omega) u3 x3_1 (⟨t792⟩ : S39) [.slice Ao10 t792.length co10] (fun _ => True) (fun k_ => some k_ = (.slice Ao10 t792.length co10 : Value).ownBlock) rfl rfl ?aP (fun k_ hk_ => ((Kd.R_mono (ok' := fun k_ => ((fun _ => True)) k_ ∧ some k_ ≠ (u3 : Value).ownBlock) (Kd.R_apart' (HO794.out) (Kd.S_typed HO_3.out) (by decide)) (fun k_ hk => ⟨trivial, hk.2⟩))).1 k_ hk_.symm) ?aF ?aO ?aB ?aS ?aL ?_; (case aP => exact k39_mkM _ _ _ (⟨t792⟩ : S39) (Kd.R_mono (Kd.R_tight rfl (Kd.R_mono (ok' := fun k_ => ((fun _ => True)) k_ ∧ some k_ ≠ (u3 : Value).ownBlock) (Kd.R_apart' (HO794.out) (Kd.S_typed HO_3.out) (by decide)) (fun k_ hk => ⟨trivial, hk.2⟩))) (fun _ h_ => h_))); (case aB => exact (by repeat (first | (with_reducible first | exact HB.out | apply z12d | apply z12b | apply z12c) | exact HB.out))); (case aF => exact (fun _ _ => trivial)); (case aO => exact (by (with_reducible repeat (first | apply Kd.S_alloc | apply Kd.S_drewN | apply Kd.S_drew)); exact Kd.S_mono HO_3.out (fun k_ hk => ⟨trivial, fun e_ => hk.2 e_⟩))); (case aS => exact (below_size (by repeat (first | (with_reducible first | exact HB.out | apply z12d | apply z12b | apply z12c) | exact HB.out)))); (case aL => have := LMc8.out; omega); intro v796 w11 ho hb hg hat; rw [← Ny795.out] at ho; have n0_ := z12a (hb); have n1_ := z12a (ho); clear HB; clear HO_3; clear HO794; have HB := n0_; have HO797 := n1_; clear n0_ n1_; clear ho hb hg hat))
       go_roundg k1
       case measure => have := HK1.out; omega
       case rel => exact ⟨(y795), (wrap64 (x4_1 + 2)), (by first | rfl | (simp; done) | (simp [*]; done)), H', ⟨by have := HK1.out; omega⟩, ⟨by (with_reducible repeat (first | apply Kd.S_alloc | apply Kd.S_drewN | apply Kd.S_drew)); exact HO797.out⟩, ⟨by repeat (first | (with_reducible first | exact HB.out | apply z12d | apply z12b | apply z12c) | exact HB.out)⟩⟩
      ·rw [if_neg c8] at H
       exact absurd H (by simp)
     ·rw [if_neg c6] at H
      exact absurd H (by simp)
    ·rw [if_neg c5] at H
     have c5b0 : ((wrap64 (x4_1 + 1)) == (l0.length : Int)) = false := beq_eq_false_iff_ne.mpr c5
     have c5b1 : ((wrap64 (x4_1 + 1)) != (l0.length : Int)) = true := bne_iff_ne.mpr c5
     by_cases c12 : 0 ≤ x4_1
     ·rw [if_pos c12] at H
      have c12b0 : decide (0 ≤ x4_1) = true := decide_eq_true c12
      clear c12
      obtain ⟨ji13, hji13⟩ : ∃ j_ : Int, (wrap64 (x4_1 + 1)) = j_ := ⟨_, rfl⟩
      replace H : (if 0 ≤ (ji13) then (if (ji13) < (l0.length : Int) then ((y_d.f k1 ((rd_T39 l0 x4_1).f0) ((rd_T39 l0 (ji13)).f0)).bind fun t800 => (if x3_1.length < 5864062014805 then (y_k.l0 k1 l0 (x3_1 ++ [(⟨t800⟩ : S39)]) (wrap64 (x4_1 + 2))) else (none))) else (none)) else (none)) = some r := by first | (rw [hji13] at H; exact H) | (simp only [hji13] at H ⊢; exact H)
      (try rw [hji13] at c5b0)
      (try rw [hji13] at c5b1)
      have hji13w : (IntKind.i64.wrap (x4_1 + 1)) = ji13 := (i64_w _).trans hji13
      by_cases c14 : 0 ≤ (ji13)
      ·rw [if_pos c14] at H
       have c14b0 : decide (0 ≤ (ji13)) = true := decide_eq_true c14
       clear c14
       by_cases c15 : (ji13) < (l0.length : Int)
       ·rw [if_pos c15] at H
        have c15b0 : decide ((ji13) < (l0.length : Int)) = true := decide_eq_true c15
        clear c15
        replace H := z12f.mp H
        obtain ⟨t800, A160, H⟩ := H
        have A16 := z12a A160
        clear A160
        by_cases c17 : x3_1.length < 5864062014805
        ·rw [if_pos c17] at H
         have LMc17 := z12a c17
         clear c17
         obtain ⟨y803, hy803⟩ : ∃ y_ : List (S39), y_ = (x3_1 ++ [(⟨t800⟩ : S39)]) := ⟨_, rfl⟩
         replace H : (y_k.l0 k1 l0 y803 (wrap64 (x4_1 + 2))) = some r := by first | (rw [hy803]; with_reducible exact H) | (have H2_ := (Option.bind_some _ _).symm.trans H; rw [hy803]; with_reducible exact H2_) | (have H2_ := (Option.bind_some _ _).symm.trans H; with_reducible exact H2_) | with_reducible exact H | (rw [hy803]; exact H) | exact H
         have Ny803 := z12a hy803
         clear hy803
         have H' := z12a H
         clear H
         try go_wp2
         have n0_ := z12a (Kd.S_drew HO_3.out)
         have n1_ := z12a (z12c HB.out)
         clear HO_3
         clear HB
         have HO_3 := n0_
         have HB := n1_
         clear n0_ n1_
         have p798 : 0 ≤ (x4_1 : Int) := z12g (by first | (with_reducible assumption) | assumption)
         have q798 : x4_1 < (l0.length : Int) := z12g (by first | (with_reducible assumption) | assumption)
         obtain ⟨ad798, A798_0, c798_0, e798, hx798_0, hl798_0, hi798_0⟩ := at_T39 HR0.out x4_1 p798 q798
         have hw798_0 := hx798_0
         cases e798
         replace hx798_0 := (HB.out.cell (z12e w _ hx798_0)).trans hx798_0
         have HR798_0 := z12a hi798_0
         have HC798_0 := z12a hl798_0
         clear hi798_0 hl798_0
         replace p798 := eq_true p798
         replace q798 := eq_true q798
         have p799 : 0 ≤ ((ji13) : Int) := z12g (by first | (with_reducible assumption) | assumption)
         have q799 : (ji13) < (l0.length : Int) := z12g (by first | (with_reducible assumption) | assumption)
         obtain ⟨ad799, A799_0, c799_0, e799, hx799_0, hl799_0, hi799_0⟩ := at_T39 HR0.out (ji13) p799 q799
         have hw799_0 := hx799_0
         obtain rfl : ad798 = ad799 := (by injection e799)
         replace hx799_0 := (HB.out.cell (z12e w _ hx799_0)).trans hx799_0
         have HR799_0 := z12a hi799_0
         have HC799_0 := z12a hl799_0
         clear hi799_0 hl799_0
         replace p799 := eq_true p799
         replace q799 := eq_true q799
         refine start_ (n := 17) (S := fun w' => w'.cell? (ad798.add (x4_1).toNat) = some (.slice A798_0 ((rd_T39 l0 x4_1).f0).length c798_0) ∧ w'.cell? (ad798.add ((ji13)).toNat) = some (.slice A799_0 ((rd_T39 l0 (ji13)).f0).length c799_0)) (ds := []) #[zf12,zf12,zf12,zf12,zf12,zf12,zf12,zf12,zf12,zf12,zf12,zf12,zf12,zf12,zf12,zf12,zf12] (by kernel_rfl) rfl rfl ⟨((HB.out.cell (z12e w _ hw798_0)).trans hw798_0), ((HB.out.cell (z12e w _ hw799_0)).trans hw799_0)⟩ (fun hHeld => ?_); refine with_tabW y_k.tab7 y_k.bits7 (fun HT_ HW_ => ?_)
         generalize wr.drew = w18 at HO_3 HB HR798_0 HR799_0 hx798_0 hx799_0 hHeld ⊢
         refine pure_ (i := 0) (N := some 27) (v := ?_) (a' := ?_) #[zt12,zf12,zf12,zf12,zf12,zf12,zf12,zf12,zf12,zf12,zf12,zf12,zf12,zf12,zf12,zf12,zf12] rfl rfl (any_of HT_.out (by kernel_rfl)) (fun _ _ _ h => h) (Or.inl ⟨by rfl, ?_⟩) ?_ ?_
         rotate_left
         ·intro w'
          go_simp
          with_reducible rfl
         rotate_left
         ·simp only [Act.put, zp12a, zp12b, zp12c, i64_w, i32_w]
          rfl
         refine pure_ (i := 1) (N := some 28) (v := ?_) (a' := ?_) #[zt12,zt12,zf12,zf12,zf12,zf12,zf12,zf12,zf12,zf12,zf12,zf12,zf12,zf12,zf12,zf12,zf12] rfl rfl (any_of HT_.out (by kernel_rfl)) (fun _ _ _ h => h) (Or.inl ⟨by rfl, ?_⟩) ?_ ?_
         rotate_left
         ·intro w'
          go_simp
          with_reducible rfl
         rotate_left
         ·simp only [Act.put, zp12a, zp12b, zp12c, i64_w, i32_w]
          rfl
         refine pure_ (i := 2) (N := some 29) (v := ?_) (a' := ?_) #[zt12,zt12,zt12,zf12,zf12,zf12,zf12,zf12,zf12,zf12,zf12,zf12,zf12,zf12,zf12,zf12,zf12] rfl rfl (any_of HT_.out (by kernel_rfl)) (fun _ _ _ h => h) (Or.inl ⟨by rfl, ?_⟩) ?_ ?_
         rotate_left
         ·intro w'
          go_simp
          with_reducible rfl
         rotate_left
         ·simp only [Act.put, zp12a, zp12b, zp12c, i64_w, i32_w]
          rfl
         refine pure_ (i := 3) (N := some 30) (v := ?_) (a' := ?_) #[zt12,zt12,zt12,zt12,zf12,zf12,zf12,zf12,zf12,zf12,zf12,zf12,zf12,zf12,zf12,zf12,zf12] rfl rfl (any_of HT_.out (by kernel_rfl)) (fun _ _ _ h => h) (Or.inl ⟨by rfl, ?_⟩) ?_ ?_
         rotate_left
         ·intro w'
          go_simp
          with_reducible rfl
         rotate_left
         ·simp only [Act.put, zp12a, zp12b, zp12c, i64_w, i32_w]
          rfl
         refine pure_ (i := 4) (N := some 31) (v := ?_) (a' := ?_) #[zt12,zt12,zt12,zt12,zt12,zf12,zf12,zf12,zf12,zf12,zf12,zf12,zf12,zf12,zf12,zf12,zf12] rfl rfl (any_of HT_.out (by kernel_rfl)) (fun _ _ _ h => h) (Or.inl ⟨by rfl, ?_⟩) ?_ ?_
         rotate_left
         ·intro w'
          go_simp
          with_reducible rfl
         rotate_left
         ·simp only [Act.put, zp12a, zp12b, zp12c, i64_w, i32_w]
          rfl
         refine pure_ (i := 6) (N := some 33) (v := ?_) (a' := ?_) #[zt12,zt12,zt12,zt12,zt12,zf12,zt12,zf12,zf12,zf12,zf12,zf12,zf12,zf12,zf12,zf12,zf12] rfl rfl (any_of HT_.out (by kernel_rfl)) (fun _ _ _ h => h) (Or.inl ⟨by rfl, ?_⟩) ?_ ?_
         rotate_left
         ·intro w'
          go_simp
          with_reducible rfl
         rotate_left
         ·simp only [Act.put, zp12a, zp12b, zp12c, i64_w, i32_w]
          rfl
         refine pure_ (i := 7) (N := some 34) (v := ?_) (a' := ?_) #[zt12,zt12,zt12,zt12,zt12,zf12,zt12,zt12,zf12,zf12,zf12,zf12,zf12,zf12,zf12,zf12,zf12] rfl rfl (any_of HT_.out (by kernel_rfl)) (fun _ _ _ h => h) (Or.inl ⟨by rfl, ?_⟩) ?_ ?_
         rotate_left
         ·intro w'
          go_simp
          with_reducible rfl
         rotate_left
         ·simp only [Act.put, zp12a, zp12b, zp12c, i64_w, i32_w]
          rfl
         refine pure_ (i := 8) (N := some 35) (v := ?_) (a' := ?_) #[zt12,zt12,zt12,zt12,zt12,zf12,zt12,zt12,zt12,zf12,zf12,zf12,zf12,zf12,zf12,zf12,zf12] rfl rfl (any_of HT_.out (by kernel_rfl)) (fun _ _ _ h => h) (Or.inl ⟨by rfl, ?_⟩) ?_ ?_
         rotate_left
         ·intro w'
          go_simp
          with_reducible rfl
         rotate_left
         ·simp only [Act.put, zp12a, zp12b, zp12c, i64_w, i32_w]
          rfl
         refine pure_ (i := 9) (N := some 36) (v := ?_) (a' := ?_) #[zt12,zt12,zt12,zt12,zt12,zf12,zt12,zt12,zt12,zt12,zf12,zf12,zf12,zf12,zf12,zf12,zf12] rfl rfl (any_of HT_.out (by kernel_rfl)) (fun _ _ _ h => h) (Or.inl ⟨by rfl, ?_⟩) ?_ ?_
         rotate_left
         ·intro w'
          go_simp
          with_reducible rfl
         rotate_left
         ·simp only [Act.put, zp12a, zp12b, zp12c, i64_w, i32_w]
          rfl
         refine pure_ (i := 10) (N := some 37) (v := ?_) (a' := ?_) #[zt12,zt12,zt12,zt12,zt12,zf12,zt12,zt12,zt12,zt12,zt12,zf12,zf12,zf12,zf12,zf12,zf12] rfl rfl (any_of HT_.out (by kernel_rfl)) (fun _ _ _ h => h) (Or.inl ⟨by rfl, ?_⟩) ?_ ?_
         rotate_left
         ·intro w'
          go_simp
          with_reducible rfl
         rotate_left
         ·simp only [Act.put, zp12a, zp12b, zp12c, i64_w, i32_w]
          rfl
         refine take_ (i := 5) (N := some 32) (v := ?_) (a' := ?_) #[zt12,zt12,zt12,zt12,zt12,zt12,zt12,zt12,zt12,zt12,zt12,zf12,zf12,zf12,zf12,zf12,zf12] rfl rfl (take_ofW HT_.out HW_.out (by kernel_rfl)) (fun _ _ _ h => h) (Or.inl ⟨by rfl, ?_⟩) hHeld ?_ ?_
         rotate_left
         ·rintro w' ⟨s0, s1⟩
          go_simp
          with_reducible rfl
         rotate_left
         ·simp only [Act.put, zp12a, zp12b, zp12c, i64_w, i32_w]
          rfl
         refine take_ (i := 11) (N := some 38) (v := ?_) (a' := ?_) #[zt12,zt12,zt12,zt12,zt12,zt12,zt12,zt12,zt12,zt12,zt12,zt12,zf12,zf12,zf12,zf12,zf12] rfl rfl (take_ofW HT_.out HW_.out (by kernel_rfl)) (fun _ _ _ h => h) (Or.inl ⟨by rfl, ?_⟩) hHeld ?_ ?_
         rotate_left
         ·rintro w' ⟨s0, s1⟩
          go_simp
          with_reducible rfl
         rotate_left
         ·simp only [Act.put, zp12a, zp12b, zp12c, i64_w, i32_w]
          rfl
         refine one_ (i := 12) (N := some 39) #[zt12,zt12,zt12,zt12,zt12,zt12,zt12,zt12,zt12,zt12,zt12,zt12,zt12,zf12,zf12,zf12,zf12] rfl rfl (one_of HT_.out (by kernel_rfl)) (by decide) (fun K hK => ?_)
         refine goes_ Try.func46 (by kernel_rfl) rfl #[.slice A798_0 ((rd_T39 l0 x4_1).f0).length c798_0, .slice A799_0 ((rd_T39 l0 (ji13)).f0).length c799_0] (by rfl) rfl rfl (by (try simp only [zm12a, zm12b, zm12c]); first | done | (simp only [hji13]; rfl) | rfl | (simp only [zm12d, zm12e]; rfl)) ?_
         with_reducible refine (y_d.calls k1 (fun k_ => k_ < w.heap.size) _ _ ((rd_T39 l0 x4_1).f0) (fun k_ => k_ < w.heap.size) _ _ ((rd_T39 l0 (ji13)).f0) t800 _ ?side1 ?side2 A16.out).mono ?_
         (case side1 => exact Kd.V_mk HC798_0.out (Kd.F_below (Kd.C_F k71_heap HR798_0.out) (by repeat (first | (with_reducible first | exact HB.out | apply z12d | apply z12b | apply z12c) | exact HB.out))))
         (case side2 => exact Kd.V_mk HC799_0.out (Kd.F_below (Kd.C_F k71_heap HR799_0.out) (by repeat (first | (with_reducible first | exact HB.out | apply z12d | apply z12b | apply z12c) | exact HB.out))))
         rintro e w19 ⟨v801, rfl, ho0, hb⟩
         refine ⟨_, rfl, ?_⟩
         have n0_ := z12a (Kd.S_elder' (by (with_reducible repeat (first | apply Kd.S_alloc | apply Kd.S_drewN | apply Kd.S_drew)); exact HO_3.out) (Kd.R_base ho0) hb)
         have n1_ := z12a (Kd.R_lower (Kd.R_mono (ok' := fun k_ => True) ho0 (fun _ hk_ => trivial)) (below_size (by repeat (first | (with_reducible first | exact HB.out | apply z12d | apply z12b | apply z12c) | exact HB.out))))
         have n2_ := z12a (below_step (by repeat (first | (with_reducible first | exact HB.out | apply z12d | apply z12b | apply z12c) | exact HB.out)) hb)
         clear HO_3
         clear HB
         have HO_3 := n0_
         have HO802 := n1_
         have HB := n2_
         clear n0_ n1_ n2_
         (try clear hb)
         (try clear hb2)
         (try clear hk)
         (try clear hi)
         (try clear ho0)
         obtain ⟨Ao20, co20, eo20⟩ := Kd.R_slice HO802.out
         (first | subst eo20 | (injection eo20 with f1_ f2_ f3_; have f4_ := f1_.symm; have f5_ := f3_.symm; clear f1_ f2_ f3_; subst f4_; subst f5_))
         refine hK.out _ _ ⟨((HB.out.cell (z12e w _ hw798_0)).trans hw798_0), ((HB.out.cell (z12e w _ hw799_0)).trans hw799_0)⟩ (fun hHeld => ?_)
         clear hK K
         refine norm_ (a' := ?_) ?_ ?_
         rotate_left
         ·show Act.put _ (some 39) _ = _
          simp only [Act.put, zp12a, zp12b, zp12c, i64_w, i32_w]
          rfl
         refine pure_ (i := 13) (N := some 40) (v := ?_) (a' := ?_) #[zt12,zt12,zt12,zt12,zt12,zt12,zt12,zt12,zt12,zt12,zt12,zt12,zt12,zt12,zf12,zf12,zf12] rfl rfl (any_of HT_.out (by kernel_rfl)) (fun _ _ _ h => h) (Or.inl ⟨by rfl, ?_⟩) ?_ ?_
         rotate_left
         ·intro w'
          go_simp
          with_reducible rfl
         rotate_left
         ·simp only [Act.put, zp12a, zp12b, zp12c, i64_w, i32_w]
          rfl
         refine one_ (i := 14) (N := some 41) #[zt12,zt12,zt12,zt12,zt12,zt12,zt12,zt12,zt12,zt12,zt12,zt12,zt12,zt12,zt12,zf12,zf12] rfl rfl (one_of HT_.out (by kernel_rfl)) (by decide) (fun K hK => ?_)
         refine value_ (w1 := ?_) (v := ?_) (by rfl) rfl ?_ ?_
         rotate_left 2
         ·go_simp
          constructor
          ·rfl
          ·rfl
         refine hK.out _ _ ⟨(World.cell?_alloc_lt _ _ _ (z12e _ _ (((HB.out.cell (z12e w _ hw798_0)).trans hw798_0)))).trans (((HB.out.cell (z12e w _ hw798_0)).trans hw798_0)), (World.cell?_alloc_lt _ _ _ (z12e _ _ (((HB.out.cell (z12e w _ hw799_0)).trans hw799_0)))).trans (((HB.out.cell (z12e w _ hw799_0)).trans hw799_0))⟩ (fun hHeld => ?_)
         clear hK K
         refine norm_ (a' := ?_) ?_ ?_
         rotate_left
         ·show Act.put _ (some 41) _ = _
          simp only [Act.put, zp12a, zp12b, zp12c, i64_w, i32_w]
          rfl
         refine one_ (i := 15) (N := some 42) #[zt12,zt12,zt12,zt12,zt12,zt12,zt12,zt12,zt12,zt12,zt12,zt12,zt12,zt12,zt12,zt12,zf12] rfl rfl (one_of HT_.out (by kernel_rfl)) (by decide) (fun K hK => ?_)
         refine Kd.S_append_step k39 (w0 := w) w.heap.size (by rfl) (.tmp 27) (.tmp 41) 27 39 (.agg #[(.slice none 0 0)]) 24 rfl Try.underlying27 info39 rfl (by decide) (by omega) u3 x3_1 (⟨t800⟩ : S39) [.slice Ao20 t800.length co20] (fun _ => True) (fun k_ => some k_ = (.slice Ao20 t800.length co20 : Value).ownBlock) rfl rfl ?aP (fun k_ hk_ => ((Kd.R_mono (ok' := fun k_ => ((fun _ => True)) k_ ∧ some k_ ≠ (u3 : Value).ownBlock) (Kd.R_apart' (HO802.out) (Kd.S_typed HO_3.out) (by decide)) (fun k_ hk => ⟨trivial, hk.2⟩))).1 k_ hk_.symm) ?aF ?aO ?aB ?aS ?aL ?_
         (case aP => exact k39_mkM _ _ _ (⟨t800⟩ : S39) (Kd.R_mono (Kd.R_tight rfl (Kd.R_mono (ok' := fun k_ => ((fun _ => True)) k_ ∧ some k_ ≠ (u3 : Value).ownBlock) (Kd.R_apart' (HO802.out) (Kd.S_typed HO_3.out) (by decide)) (fun k_ hk => ⟨trivial, hk.2⟩))) (fun _ h_ => h_)))
         (case aB => exact (by repeat (first | (with_reducible first | exact HB.out | apply z12d | apply z12b | apply z12c) | exact HB.out)))
         (case aF => exact (fun _ _ => trivial))
         (case aO => exact (by (with_reducible repeat (first | apply Kd.S_alloc | apply Kd.S_drewN | apply Kd.S_drew)); exact Kd.S_mono HO_3.out (fun k_ hk => ⟨trivial, fun e_ => hk.2 e_⟩)))
         (case aS => exact (below_size (by repeat (first | (with_reducible first | exact HB.out | apply z12d | apply z12b | apply z12c) | exact HB.out))))
         (case aL => have := LMc17.out; omega)
         intro v804 w21 ho hb hg hat
         rw [← Ny803.out] at ho
         have n0_ := z12a (hb)
         have n1_ := z12a (ho)
         clear HB
         clear HO_3
         clear HO802
         have HB := n0_
         have HO805 := n1_
         clear n0_ n1_
         clear ho hb hg hat
         refine hK.out _ _ ⟨((HB.out.cell (z12e w _ hw798_0)).trans hw798_0), ((HB.out.cell (z12e w _ hw799_0)).trans hw799_0)⟩ (fun hHeld => ?_)
         clear hK K
         refine norm_ (a' := ?_) ?_ ?_
         rotate_left
         ·show Act.put _ (some 42) _ = _
          simp only [Act.put, zp12a, zp12b, zp12c, i64_w, i32_w]
          rfl
         refine pure_ (i := 16) (N := some 3) (v := ?_) (a' := ?_) #[zt12,zt12,zt12,zt12,zt12,zt12,zt12,zt12,zt12,zt12,zt12,zt12,zt12,zt12,zt12,zt12,zt12] rfl rfl (any_of HT_.out (by kernel_rfl)) (fun _ _ _ h => h) (Or.inl ⟨by rfl, ?_⟩) ?_ ?_
         rotate_left
         ·intro w'
          go_simp
          with_reducible rfl
         rotate_left
         ·simp only [Act.put, zp12a, zp12b, zp12c, i64_w, i32_w]
          rfl
         refine done_ (done_of HT_.out (by kernel_rfl)) ?_
         try go_wp2
         go_roundg k1
         case measure => have := HK1.out; omega
         case rel => exact ⟨(y803), (wrap64 (x4_1 + 2)), (by first | rfl | (simp; done) | (simp [*]; done)), H', ⟨by have := HK1.out; omega⟩, ⟨by (with_reducible repeat (first | apply Kd.S_alloc | apply Kd.S_drewN | apply Kd.S_drew)); exact HO805.out⟩, ⟨by repeat (first | (with_reducible first | exact HB.out | apply z12d | apply z12b | apply z12c) | exact HB.out)⟩⟩
        ·rw [if_neg c17] at H
         exact absurd H (by simp)
       ·rw [if_neg c15] at H
        exact absurd H (by simp)
      ·rw [if_neg c14] at H
       exact absurd H (by simp)
     ·rw [if_neg c12] at H
      exact absurd H (by simp)
   ·rw [if_neg c4] at H
    have c4b0 : decide (x4_1 < (l0.length : Int)) = false := decide_eq_false c4
    clear c4
    obtain rfl := Option.some.inj H
    go_wp2
    go_ret
    exact ⟨_, by first | rfl | (simp [errW_none, errW_some] <;> rfl) | (simp [*, errW_none, errW_some] <;> rfl), by (with_reducible repeat (first | apply Kd.S_alloc | apply Kd.S_drewN | apply Kd.S_drew)); exact HO_3.out, by repeat (first | (with_reducible first | exact HB.out | apply z12d | apply z12b | apply z12c) | exact HB.out)⟩
def y_o.l0 : Nat → List (S39) → Int → Option ((List (S71)) × Int × Bool)
 | 0, _, _ => none
 | k + 1, x0, x5 => if (x0.length : Int) > 1 then ((y_k.f k x0).bind fun t810 => (y_o.l0 k t810 (wrap64 (x5 + 1)))) else ((y_q.f k x0).bind fun t813 => (some (t813, x5, true)))
def y_o.f (k : Nat) (l0 : List (S39)) : Option ((List (S71)) × Int × Bool) := (y_n.f k l0).bind fun t806 => (if t806 = true then ((y_h.f k l0).bind fun t807 => (y_o.l0 k t807 0)) else (some (([] : List (S71)), 0, false)))
theorem y_o.mono_l : ∀ k, (∀ y0 y1, LeO (y_o.l0 k y0 y1) (y_o.l0 (k + 1) y0 y1))
 | 0 => fun _ _ r h => by simp [y_o.l0] at h
 | k + 1 => by
  have ih0 := y_o.mono_l k
  ·intro y0 y1
   unfold y_o.l0
   repeat' first
   | (with_reducible exact ih0 _ _)
   | (with_reducible exact y_n.mono _ _)
   | (with_reducible exact y_q.mono _ _)
   | (with_reducible exact y_k.mono _ _)
   | (with_reducible exact y_h.mono _ _)
   | (with_reducible exact LeO.refl _)
   | (with_reducible exact LeO.none _)
   | (with_reducible refine LeO.ite ?_ ?_)
   | (with_reducible refine LeO.bind ?_ (fun _ => ?_))
   | exact ih0 _ _
   | exact y_n.mono _ _
   | exact y_q.mono _ _
   | exact y_k.mono _ _
   | exact y_h.mono _ _
   | exact LeO.none _
   | refine LeO.ite ?_ ?_
   | refine LeO.bind ?_ (fun _ => ?_)
theorem y_o.mono : ∀ a0 k, LeO (y_o.f k a0) (y_o.f (k + 1) a0) := by
 intro a0 k
 have ih0 := y_o.mono_l k
 unfold y_o.f
 repeat' first
   | (with_reducible exact ih0 _ _)
   | (with_reducible exact y_n.mono _ _)
   | (with_reducible exact y_q.mono _ _)
   | (with_reducible exact y_k.mono _ _)
   | (with_reducible exact y_h.mono _ _)
   | (with_reducible exact LeO.refl _)
   | (with_reducible exact LeO.none _)
   | (with_reducible refine LeO.ite ?_ ?_)
   | (with_reducible refine LeO.bind ?_ (fun _ => ?_))
   | exact ih0 _ _
   | exact y_n.mono _ _
   | exact y_q.mono _ _
   | exact y_k.mono _ _
   | exact y_h.mono _ _
   | exact LeO.none _
   | refine LeO.ite ?_ ?_
   | refine LeO.bind ?_ (fun _ => ?_)
theorem y_o.calls (k : Nat) (A0 : Option Addr) (c0 : Nat) (l0 : List (S39)) (r1 : List (S71)) (r2 : Int) (r3 : Bool) (w : World) (hr0 : Kd.C k39 w A0 l0.length l0) (hc0 : l0.length ≤ c0) (h : y_o.f k l0 = some (r1, r2, r3)) :
  Calls Try.prog 43 #[.slice A0 l0.length c0] w fun e w' => ∃ v0_ : Value, e = .returned (.tuple #[v0_, .int .i64 r2, .bool r3]) ∧ Kd.R k71 71 w' w.heap.size (fun _ => True) v0_ r1 ∧ Below w.heap.size w w' := by
 have HR0 := z12a hr0
 have HC0 := z12a hc0
 clear hr0 hc0
 have HB := z12a (Below.refl w.heap.size w)
 have H := h
 unfold y_o.f at H
 clear h
 replace H := z12f.mp H
 obtain ⟨t806, A20, H⟩ := H
 have A2 := z12a A20
 clear A20
 by_cases c3 : t806 = true
 ·subst c3
  rw [if_pos rfl] at H
  replace H := z12f.mp H
  obtain ⟨t807, A40, H⟩ := H
  have A4 := z12a A40
  clear A40
  have H' := z12a H
  clear H
  go_enter Try.func43, Try.ntmps43
  go_wp2_with (first | ((with_reducible refine gate_callee (f := 22) rfl ?_); refine goesL_ (some 7) rfl rfl Try.func22 (by kernel_rfl) rfl #[.slice A0 l0.length c0] rfl (by (try simp only [zm12a, zm12b, zm12c]); first | done | rfl | (simp only [zm12d, zm12e]; rfl)) ?_; (with_reducible refine (y_n.calls k _ _ l0 true _ ?side1 ?side2 A2.out).mono ?_); (case side1 => repeat (first | exact HR0.out | (with_reducible refine Kd.C_alloc ?_ _) | (with_reducible refine Kd.C_drewN ?_ _) | (with_reducible refine Kd.C_drew ?_))); (case side2 => exact HC0.out); rintro e w5 ⟨rfl, hb⟩; refine ⟨_, rfl, ?_⟩; have n0_ := z12a (below_step (by repeat (first | (with_reducible first | exact HB.out | apply z12d | apply z12b | apply z12c) | exact HB.out)) hb); clear HB; have HB := n0_; clear n0_; (try clear hb); (try clear hb2); (try clear hk); (try clear hi)) | ((with_reducible refine gate_callee (f := 113) rfl ?_); refine goesL_ (some 10) rfl rfl Try.func113 (by kernel_rfl) rfl #[.slice A0 l0.length c0] rfl (by (try simp only [zm12a, zm12b, zm12c]); first | done | rfl | (simp only [zm12d, zm12e]; rfl)) ?_; (with_reducible refine (y_h.calls k _ _ l0 t807 _ ?side1 ?side2 A4.out).mono ?_); (case side1 => repeat (first | exact (Kd.C_below HR0.out HB.out) | (with_reducible refine Kd.C_alloc ?_ _) | (with_reducible refine Kd.C_drewN ?_ _) | (with_reducible refine Kd.C_drew ?_))); (case side2 => exact HC0.out); rintro e w6 ⟨v808, rfl, ho0, hb⟩; refine ⟨_, rfl, ?_⟩; have n0_ := z12a (Kd.S_lower ho0 (below_size (by repeat (first | (with_reducible first | exact HB.out | apply z12d | apply z12b | apply z12c) | exact HB.out)))); have n1_ := z12a (below_step (by repeat (first | (with_reducible first | exact HB.out | apply z12d | apply z12b | apply z12c) | exact HB.out)) hb); clear HB; have HO809 := n0_; have HB := n1_; clear n0_ n1_; (try clear hb); (try clear hb2); (try clear hk); (try clear hi); (try clear ho0)))
  go_loopg [0, 5] k (fun kq v0 v5 w' => ∃ (x0_1 : List (S39)) (x5_1 : Int), v5 = .int .i64 x5_1 ∧ Aside0 (y_o.l0 kq x0_1 x5_1 = some (r1, r2, r3)) ∧ Aside0 (kq ≤ k) ∧ Aside0 (Kd.S k39 39 w' w.heap.size (fun _ => True) v0 x0_1) ∧ Aside0 (Below w.heap.size w w'))
  case atStart => exact ⟨(t807), (0), (by first | rfl | (simp; done) | (simp [*]; done)), H', ⟨Nat.le_refl _⟩, ⟨by (with_reducible repeat (first | apply Kd.S_alloc | apply Kd.S_drewN | apply Kd.S_drew)); exact HO809.out⟩, ⟨by repeat (first | (with_reducible first | exact HB.out | apply z12d | apply z12b | apply z12c) | exact HB.out)⟩⟩
  case round =>
   clear H'
   try clear c1
   try clear c2
   try clear p2
   try clear c3
   try clear c4
   obtain ⟨x0_1, x5_1, rfl, HA, HK1, HO_0, HB⟩ := hrel
   cases gk with
   | zero => exact absurd HA.out (by simp [y_o.l0])
   | succ k1 =>
    have H := HA.out
    clear HA
    simp only [y_o.l0] at H
    by_cases c7 : (x0_1.length : Int) > 1
    ·rw [if_pos c7] at H
     have c7b0 : decide (1 < (x0_1.length : Int)) = true := decide_eq_true c7
     have c7b1 : decide (1 < x0_1.length) = true := decide_eq_true (by omega)
     clear c7
     replace H := z12f.mp H
     obtain ⟨t810, A80, H⟩ := H
     have A8 := z12a A80
     clear A80
     have H' := z12a H
     clear H
     obtain ⟨Ao9, co9, eo9⟩ := Kd.S_slice HO_0.out
     subst eo9
     go_wp2_with (first | ((with_reducible refine gate_callee (f := 49) rfl ?_); refine goesL_ (some 15) rfl rfl Try.func49 (by kernel_rfl) rfl #[.slice Ao9 x0_1.length co9] rfl (by (try simp only [zm12a, zm12b, zm12c]); first | done | rfl | (simp only [zm12d, zm12e]; rfl)) ?_; (with_reducible refine (y_k.calls k1 _ _ x0_1 t810 _ ?side1 ?side2 A8.out).mono ?_); (case side1 => repeat (first | exact (Kd.S_reads' HO_0.out).2.2 | (with_reducible refine Kd.C_alloc ?_ _) | (with_reducible refine Kd.C_drewN ?_ _) | (with_reducible refine Kd.C_drew ?_))); (case side2 => exact (Kd.S_reads' HO_0.out).2.1); rintro e w10 ⟨v811, rfl, ho0, hb⟩; refine ⟨_, rfl, ?_⟩; have n0_ := z12a (Kd.S_elder' (by (with_reducible repeat (first | apply Kd.S_alloc | apply Kd.S_drewN | apply Kd.S_drew)); exact HO_0.out) (Kd.S_base ho0) hb); have n1_ := z12a (Kd.S_lower (Kd.S_new' ho0 (Kd.S_lt (by (with_reducible repeat (first | apply Kd.S_alloc | apply Kd.S_drewN | apply Kd.S_drew)); exact HO_0.out))) (below_size (by repeat (first | (with_reducible first | exact HB.out | apply z12d | apply z12b | apply z12c) | exact HB.out)))); have n2_ := z12a (below_step (by repeat (first | (with_reducible first | exact HB.out | apply z12d | apply z12b | apply z12c) | exact HB.out)) hb); clear HO_0; clear HB; have HO_0 := n0_; have HO812 := n1_; have HB := n2_; clear n0_ n1_ n2_; (try clear hb); (try clear hb2); (try clear hk); (try clear hi); (try clear ho0)))
     go_roundg k1
     case measure => have := HK1.out; omega
     case rel => exact ⟨(t810), (wrap64 (x5_1 + 1)), (by first | rfl | (simp; done) | (simp [*]; done)), H', ⟨by have := HK1.out; omega⟩, ⟨by (with_reducible repeat (first | apply Kd.S_alloc | apply Kd.S_drewN | apply Kd.S_drew)); exact Kd.S_mono HO812.out (fun _ hk => trivial)⟩, ⟨by repeat (first | (with_reducible first | exact HB.out | apply z12d | apply z12b | apply z12c) | exact HB.out)⟩⟩
    ·rw [if_neg c7] at H
     have c7b0 : decide (1 < (x0_1.length : Int)) = false := decide_eq_false c7
     have c7b1 : decide (1 < x0_1.length) = false := decide_eq_false (by omega)
     clear c7
     replace H := z12f.mp H
     obtain ⟨t813, A110, H⟩ := H
     have A11 := z12a A110
     clear A110
     simp only [Option.some.injEq, Prod.mk.injEq] at H
     obtain ⟨rfl, rfl, rfl⟩ := H
     obtain ⟨Ao12, co12, eo12⟩ := Kd.S_slice HO_0.out
     subst eo12
     go_wp2_with (first | ((with_reducible refine gate_callee (f := 29) rfl ?_); refine goesL_ (some 19) rfl rfl Try.func29 (by kernel_rfl) rfl #[.slice Ao12 x0_1.length co12] rfl (by (try simp only [zm12a, zm12b, zm12c]); first | done | rfl | (simp only [zm12d, zm12e]; rfl)) ?_; (with_reducible refine (y_q.calls k1 _ _ x0_1 t813 _ ?side1 ?side2 A11.out).mono ?_); (case side1 => repeat (first | exact (Kd.S_reads' HO_0.out).2.2 | (with_reducible refine Kd.C_alloc ?_ _) | (with_reducible refine Kd.C_drewN ?_ _) | (with_reducible refine Kd.C_drew ?_))); (case side2 => exact (Kd.S_reads' HO_0.out).2.1); rintro e w13 ⟨v814, rfl, ho0, hb⟩; refine ⟨_, rfl, ?_⟩; have n0_ := z12a (Kd.S_elder' (by (with_reducible repeat (first | apply Kd.S_alloc | apply Kd.S_drewN | apply Kd.S_drew)); exact HO_0.out) (Kd.R_base ho0) hb); have n1_ := z12a (Kd.R_lower ho0 (below_size (by repeat (first | (with_reducible first | exact HB.out | apply z12d | apply z12b | apply z12c) | exact HB.out)))); have n2_ := z12a (below_step (by repeat (first | (with_reducible first | exact HB.out | apply z12d | apply z12b | apply z12c) | exact HB.out)) hb); clear HO_0; clear HB; have HO_0 := n0_; have HO815 := n1_; have HB := n2_; clear n0_ n1_ n2_; (try clear hb); (try clear hb2); (try clear hk); (try clear hi); (try clear ho0)))
     go_ret3
     exact ⟨_, by first | rfl | (simp [errW_none, errW_some] <;> rfl) | (simp [*, errW_none, errW_some] <;> rfl), by (with_reducible repeat (first | apply Kd.R_alloc | apply Kd.R_drewN | apply Kd.R_drew)); exact HO815.out, by repeat (first | (with_reducible first | exact HB.out | apply z12d | apply z12b | apply z12c) | exact HB.out)⟩
 ·replace c3 := Bool.eq_false_iff.mpr c3
  subst c3
  have H1 : (some (([] : List (S71)), 0, false)) = some (r1, r2, r3) := by rw [if_neg (show ¬ (false = true) by decide)] at H; exact H
  clear H
  have H := H1
  clear H1
  simp only [Option.some.injEq, Prod.mk.injEq] at H
  obtain ⟨rfl, rfl, rfl⟩ := H
  go_enter Try.func43, Try.ntmps43
  go_wp2_with (first | ((with_reducible refine gate_callee (f := 22) rfl ?_); refine goesL_ (some 7) rfl rfl Try.func22 (by kernel_rfl) rfl #[.slice A0 l0.length c0] rfl (by (try simp only [zm12a, zm12b, zm12c]); first | done | rfl | (simp only [zm12d, zm12e]; rfl)) ?_; (with_reducible refine (y_n.calls k _ _ l0 false _ ?side1 ?side2 A2.out).mono ?_); (case side1 => repeat (first | exact HR0.out | (with_reducible refine Kd.C_alloc ?_ _) | (with_reducible refine Kd.C_drewN ?_ _) | (with_reducible refine Kd.C_drew ?_))); (case side2 => exact HC0.out); rintro e w14 ⟨rfl, hb⟩; refine ⟨_, rfl, ?_⟩; have n0_ := z12a (below_step (by repeat (first | (with_reducible first | exact HB.out | apply z12d | apply z12b | apply z12c) | exact HB.out)) hb); clear HB; have HB := n0_; clear n0_; (try clear hb); (try clear hb2); (try clear hk); (try clear hi)))
  go_ret3
  exact ⟨_, by first | rfl | (simp [errW_none, errW_some] <;> rfl) | (simp [*, errW_none, errW_some] <;> rfl), by first | exact Kd.R_nil _ _ _ _ _ | exact Kd.N_nil _ _ _ _ _ | exact Kd.V_nil _ _ _ _ _ | exact Kd.Q_nil _ _ _ _ _ | exact Kd.S_nil _ _ _ _ _, by repeat (first | (with_reducible first | exact HB.out | apply z12d | apply z12b | apply z12c) | exact HB.out)⟩
def y_ab.f (k : Nat) (l0 : List (S71)) (a1 : Int) : Option ((List (S71)) × Int × Bool) := (y_a.f k l0 a1).bind fun bt816 => (if bt816.2 = true then ((y_o.f k bt816.1).bind fun bt820 => (if bt820.2.2 = true then ((y_i.f k l0).bind fun t825 => (some (bt820.1, wrap64 (t825 * (wrap64 (bt820.2.1 + 1))), true))) else (some (([] : List (S71)), 0, false)))) else (some (([] : List (S71)), 0, false)))
theorem y_ab.mono : ∀ a0 a1 k, LeO (y_ab.f k a0 a1) (y_ab.f (k + 1) a0 a1) := by
 intro a0 a1 k
 unfold y_ab.f
 repeat' first
   | (with_reducible exact y_a.mono _ _ _)
   | (with_reducible exact y_o.mono _ _)
   | (with_reducible exact y_i.mono _ _)
   | (with_reducible exact LeO.refl _)
   | (with_reducible exact LeO.none _)
   | (with_reducible refine LeO.ite ?_ ?_)
   | (with_reducible refine LeO.bind ?_ (fun _ => ?_))
   | exact y_a.mono _ _ _
   | exact y_o.mono _ _
   | exact y_i.mono _ _
   | exact LeO.none _
   | refine LeO.ite ?_ ?_
   | refine LeO.bind ?_ (fun _ => ?_)
theorem y_ab.calls (k : Nat) (A0 : Option Addr) (c0 : Nat) (l0 : List (S71)) (a1 : Int) (r1 : List (S71)) (r2 : Int) (r3 : Bool) (w : World) (hr0 : Kd.C k71 w A0 l0.length l0) (hc0 : l0.length ≤ c0) (h : y_ab.f k l0 a1 = some (r1, r2, r3)) :
  Calls Try.prog 58 #[.slice A0 l0.length c0, .int .i64 a1] w fun e w' => ∃ v0_ : Value, e = .returned (.tuple #[v0_, .int .i64 r2, .bool r3]) ∧ Kd.R k71 71 w' w.heap.size (fun _ => True) v0_ r1 ∧ Below w.heap.size w w' := by
 have HR0 := z12a hr0
 have HC0 := z12a hc0
 clear hr0 hc0
 have HB := z12a (Below.refl w.heap.size w)
 have H := h
 unfold y_ab.f at H
 clear h
 replace H := z12f.mp H
 obtain ⟨⟨t816, t817⟩, A30, H⟩ := H
 replace H : (if t817 = true then ((y_o.f k t816).bind fun bt820 => (if bt820.2.2 = true then ((y_i.f k l0).bind fun t825 => (some (bt820.1, wrap64 (t825 * (wrap64 (bt820.2.1 + 1))), true))) else (some (([] : List (S71)), 0, false)))) else (some (([] : List (S71)), 0, false))) = some (r1, r2, r3) := H
 have A3 := z12a A30
 clear A30
 by_cases c4 : t817 = true
 ·subst c4
  rw [if_pos rfl] at H
  replace H := z12f.mp H
  obtain ⟨⟨t820, t821, t822⟩, A50, H⟩ := H
  replace H : (if t822 = true then ((y_i.f k l0).bind fun t825 => (some (t820, wrap64 (t825 * (wrap64 (t821 + 1))), true))) else (some (([] : List (S71)), 0, false))) = some (r1, r2, r3) := H
  have A5 := z12a A50
  clear A50
  by_cases c6 : t822 = true
  ·subst c6
   rw [if_pos rfl] at H
   replace H := z12f.mp H
   obtain ⟨t825, A70, H⟩ := H
   have A7 := z12a A70
   clear A70
   simp only [Option.some.injEq, Prod.mk.injEq] at H
   obtain ⟨rfl, rfl, rfl⟩ := H
   go_enter Try.func58, Try.ntmps58
   go_wp2_with (first | ((with_reducible refine gate_callee (f := 17) rfl ?_); refine goesL_ (some 14) rfl rfl Try.func17 (by kernel_rfl) rfl #[.slice A0 l0.length c0, .int .i64 a1] rfl (by (try simp only [zm12a, zm12b, zm12c]); first | done | rfl | (simp only [zm12d, zm12e]; rfl)) ?_; (with_reducible refine (y_a.calls k _ _ l0 a1 t816 true _ ?side1 ?side2 A3.out).mono ?_); (case side1 => repeat (first | exact HR0.out | (with_reducible refine Kd.C_alloc ?_ _) | (with_reducible refine Kd.C_drewN ?_ _) | (with_reducible refine Kd.C_drew ?_))); (case side2 => exact HC0.out); rintro e w8 ⟨v818, rfl, ho0, hb⟩; refine ⟨_, rfl, ?_⟩; have n0_ := z12a (Kd.S_lower ho0 (below_size (by repeat (first | (with_reducible first | exact HB.out | apply z12d | apply z12b | apply z12c) | exact HB.out)))); have n1_ := z12a (below_step (by repeat (first | (with_reducible first | exact HB.out | apply z12d | apply z12b | apply z12c) | exact HB.out)) hb); clear HB; have HO819 := n0_; have HB := n1_; clear n0_ n1_; (try clear hb); (try clear hb2); (try clear hk); (try clear hi); (try clear ho0); obtain ⟨Ao9, co9, eo9⟩ := Kd.S_slice HO819.out; subst eo9) | ((with_reducible refine gate_callee (f := 43) rfl ?_); refine goesL_ (some 21) rfl rfl Try.func43 (by kernel_rfl) rfl #[.slice Ao9 t816.length co9] rfl (by (try simp only [zm12a, zm12b, zm12c]); first | done | rfl | (simp only [zm12d, zm12e]; rfl)) ?_; (with_reducible refine (y_o.calls k _ _ t816 t820 t821 true _ ?side1 ?side2 A5.out).mono ?_); (case side1 => repeat (first | exact (Kd.S_reads' HO819.out).2.2 | (with_reducible refine Kd.C_alloc ?_ _) | (with_reducible refine Kd.C_drewN ?_ _) | (with_reducible refine Kd.C_drew ?_))); (case side2 => exact (Kd.S_reads' HO819.out).2.1); rintro e w10 ⟨v823, rfl, ho0, hb⟩; refine ⟨_, rfl, ?_⟩; have n0_ := z12a (Kd.S_elder' (by (with_reducible repeat (first | apply Kd.S_alloc | apply Kd.S_drewN | apply Kd.S_drew)); exact HO819.out) (Kd.R_base ho0) hb); have n1_ := z12a (Kd.R_lower ho0 (below_size (by repeat (first | (with_reducible first | exact HB.out | apply z12d | apply z12b | apply z12c) | exact HB.out)))); have n2_ := z12a (below_step (by repeat (first | (with_reducible first | exact HB.out | apply z12d | apply z12b | apply z12c) | exact HB.out)) hb); clear HO819; clear HB; have HO819 := n0_; have HO824 := n1_; have HB := n2_; clear n0_ n1_ n2_; (try clear hb); (try clear hb2); (try clear hk); (try clear hi); (try clear ho0)) | ((with_reducible refine gate_callee (f := 109) rfl ?_); refine goesL_ (some 29) rfl rfl Try.func109 (by kernel_rfl) rfl #[.slice A0 l0.length c0] rfl (by (try simp only [zm12a, zm12b, zm12c]); first | done | rfl | (simp only [zm12d, zm12e]; rfl)) ?_; (with_reducible refine (y_i.calls k _ _ l0 t825 _ ?side1 ?side2 A7.out).mono ?_); (case side1 => repeat (first | exact (Kd.C_below HR0.out HB.out) | (with_reducible refine Kd.C_alloc ?_ _) | (with_reducible refine Kd.C_drewN ?_ _) | (with_reducible refine Kd.C_drew ?_))); (case side2 => exact HC0.out); rintro e w11 ⟨rfl, hb⟩; refine ⟨_, rfl, ?_⟩; have n0_ := z12a (Kd.S_below (by (with_reducible repeat (first | apply Kd.S_alloc | apply Kd.S_drewN | apply Kd.S_drew)); exact HO819.out) hb); have n1_ := z12a (Kd.R_below (by (with_reducible repeat (first | apply Kd.R_alloc | apply Kd.R_drewN | apply Kd.R_drew)); exact HO824.out) hb); have n2_ := z12a (below_step (by repeat (first | (with_reducible first | exact HB.out | apply z12d | apply z12b | apply z12c) | exact HB.out)) hb); clear HO819; clear HO824; clear HB; have HO819 := n0_; have HO824 := n1_; have HB := n2_; clear n0_ n1_ n2_; (try clear hb); (try clear hb2); (try clear hk); (try clear hi)))
   go_ret3
   exact ⟨_, by first | rfl | (simp [errW_none, errW_some] <;> rfl) | (simp [*, errW_none, errW_some] <;> rfl), by (with_reducible repeat (first | apply Kd.R_alloc | apply Kd.R_drewN | apply Kd.R_drew)); exact HO824.out, by repeat (first | (with_reducible first | exact HB.out | apply z12d | apply z12b | apply z12c) | exact HB.out)⟩
  ·replace c6 := Bool.eq_false_iff.mpr c6
   subst c6
   have H1 : (some (([] : List (S71)), 0, false)) = some (r1, r2, r3) := by rw [if_neg (show ¬ (false = true) by decide)] at H; exact H
   clear H
   have H := H1
   clear H1
   simp only [Option.some.injEq, Prod.mk.injEq] at H
   obtain ⟨rfl, rfl, rfl⟩ := H
   go_enter Try.func58, Try.ntmps58
   go_wp2_with (first | ((with_reducible refine gate_callee (f := 17) rfl ?_); refine goesL_ (some 14) rfl rfl Try.func17 (by kernel_rfl) rfl #[.slice A0 l0.length c0, .int .i64 a1] rfl (by (try simp only [zm12a, zm12b, zm12c]); first | done | rfl | (simp only [zm12d, zm12e]; rfl)) ?_; (with_reducible refine (y_a.calls k _ _ l0 a1 t816 true _ ?side1 ?side2 A3.out).mono ?_); (case side1 => repeat (first | exact HR0.out | (with_reducible refine Kd.C_alloc ?_ _) | (with_reducible refine Kd.C_drewN ?_ _) | (with_reducible refine Kd.C_drew ?_))); (case side2 => exact HC0.out); rintro e w12 ⟨v818, rfl, ho0, hb⟩; refine ⟨_, rfl, ?_⟩; have n0_ := z12a (Kd.S_lower ho0 (below_size (by repeat (first | (with_reducible first | exact HB.out | apply z12d | apply z12b | apply z12c) | exact HB.out)))); have n1_ := z12a (below_step (by repeat (first | (with_reducible first | exact HB.out | apply z12d | apply z12b | apply z12c) | exact HB.out)) hb); clear HB; have HO819 := n0_; have HB := n1_; clear n0_ n1_; (try clear hb); (try clear hb2); (try clear hk); (try clear hi); (try clear ho0); obtain ⟨Ao13, co13, eo13⟩ := Kd.S_slice HO819.out; subst eo13) | ((with_reducible refine gate_callee (f := 43) rfl ?_); refine goesL_ (some 21) rfl rfl Try.func43 (by kernel_rfl) rfl #[.slice Ao13 t816.length co13] rfl (by (try simp only [zm12a, zm12b, zm12c]); first | done | rfl | (simp only [zm12d, zm12e]; rfl)) ?_; (with_reducible refine (y_o.calls k _ _ t816 t820 t821 false _ ?side1 ?side2 A5.out).mono ?_); (case side1 => repeat (first | exact (Kd.S_reads' HO819.out).2.2 | (with_reducible refine Kd.C_alloc ?_ _) | (with_reducible refine Kd.C_drewN ?_ _) | (with_reducible refine Kd.C_drew ?_))); (case side2 => exact (Kd.S_reads' HO819.out).2.1); rintro e w14 ⟨v823, rfl, ho0, hb⟩; refine ⟨_, rfl, ?_⟩; have n0_ := z12a (Kd.S_elder' (by (with_reducible repeat (first | apply Kd.S_alloc | apply Kd.S_drewN | apply Kd.S_drew)); exact HO819.out) (Kd.R_base ho0) hb); have n1_ := z12a (Kd.R_lower ho0 (below_size (by repeat (first | (with_reducible first | exact HB.out | apply z12d | apply z12b | apply z12c) | exact HB.out)))); have n2_ := z12a (below_step (by repeat (first | (with_reducible first | exact HB.out | apply z12d | apply z12b | apply z12c) | exact HB.out)) hb); clear HO819; clear HB; have HO819 := n0_; have HO824 := n1_; have HB := n2_; clear n0_ n1_ n2_; (try clear hb); (try clear hb2); (try clear hk); (try clear hi); (try clear ho0)))
   go_ret3
   exact ⟨_, by first | rfl | (simp [errW_none, errW_some] <;> rfl) | (simp [*, errW_none, errW_some] <;> rfl), by first | exact Kd.R_nil _ _ _ _ _ | exact Kd.N_nil _ _ _ _ _ | exact Kd.V_nil _ _ _ _ _ | exact Kd.Q_nil _ _ _ _ _ | exact Kd.S_nil _ _ _ _ _, by repeat (first | (with_reducible first | exact HB.out | apply z12d | apply z12b | apply z12c) | exact HB.out)⟩
 ·replace c4 := Bool.eq_false_iff.mpr c4
  subst c4
  have H1 : (some (([] : List (S71)), 0, false)) = some (r1, r2, r3) := by rw [if_neg (show ¬ (false = true) by decide)] at H; exact H
  clear H
  have H := H1
  clear H1
  simp only [Option.some.injEq, Prod.mk.injEq] at H
  obtain ⟨rfl, rfl, rfl⟩ := H
  go_enter Try.func58, Try.ntmps58
  go_wp2_with (first | ((with_reducible refine gate_callee (f := 17) rfl ?_); refine goesL_ (some 14) rfl rfl Try.func17 (by kernel_rfl) rfl #[.slice A0 l0.length c0, .int .i64 a1] rfl (by (try simp only [zm12a, zm12b, zm12c]); first | done | rfl | (simp only [zm12d, zm12e]; rfl)) ?_; (with_reducible refine (y_a.calls k _ _ l0 a1 t816 false _ ?side1 ?side2 A3.out).mono ?_); (case side1 => repeat (first | exact HR0.out | (with_reducible refine Kd.C_alloc ?_ _) | (with_reducible refine Kd.C_drewN ?_ _) | (with_reducible refine Kd.C_drew ?_))); (case side2 => exact HC0.out); rintro e w15 ⟨v818, rfl, ho0, hb⟩; refine ⟨_, rfl, ?_⟩; have n0_ := z12a (Kd.S_lower ho0 (below_size (by repeat (first | (with_reducible first | exact HB.out | apply z12d | apply z12b | apply z12c) | exact HB.out)))); have n1_ := z12a (below_step (by repeat (first | (with_reducible first | exact HB.out | apply z12d | apply z12b | apply z12c) | exact HB.out)) hb); clear HB; have HO819 := n0_; have HB := n1_; clear n0_ n1_; (try clear hb); (try clear hb2); (try clear hk); (try clear hi); (try clear ho0)))
  go_ret3
  exact ⟨_, by first | rfl | (simp [errW_none, errW_some] <;> rfl) | (simp [*, errW_none, errW_some] <;> rfl), by first | exact Kd.R_nil _ _ _ _ _ | exact Kd.N_nil _ _ _ _ _ | exact Kd.V_nil _ _ _ _ _ | exact Kd.Q_nil _ _ _ _ _ | exact Kd.S_nil _ _ _ _ _, by repeat (first | (with_reducible first | exact HB.out | apply z12d | apply z12b | apply z12c) | exact HB.out)⟩
def y_nb.f (l0 : List (S118)) (a1 : Int) : Option (Int) := if (wrap64 (a1 - (l0.length : Int))) < 0 then (some (-1)) else (some (wrap64 (a1 - (l0.length : Int))))
theorem y_nb.calls (A0 : Option Addr) (c0 : Nat) (l0 : List (S118)) (a1 : Int) (r : Int) (w : World) (hr0 : Kd.C k118 w A0 l0.length l0) (hc0 : l0.length ≤ c0) (h : y_nb.f l0 a1 = some r) :
  Calls Try.prog 33 #[.slice A0 l0.length c0, .int .i64 a1] w fun e w' => e = .returned (.int .i64 r) ∧ Drawn0 w w' := by
 have HR0 := z12a hr0
 have HC0 := z12a hc0
 clear hr0 hc0
 have H := h
 unfold y_nb.f at H
 clear h
 by_cases c3 : (wrap64 (a1 - (l0.length : Int))) < 0
 ·rw [if_pos c3] at H
  have c3b0 : decide ((wrap64 (a1 - (l0.length : Int))) < 0) = true := decide_eq_true c3
  clear c3
  obtain rfl := Option.some.inj H
  go_enter Try.func33, Try.ntmps33
  go_wp2
  go_ret
  exact ⟨by first | rfl | (simp; done) | (simp [*]; done), by repeat (first | exact Drawn0.refl _ | apply Drawn0.step)⟩
 ·rw [if_neg c3] at H
  have c3b0 : decide ((wrap64 (a1 - (l0.length : Int))) < 0) = false := decide_eq_false c3
  clear c3
  obtain rfl := Option.some.inj H
  go_enter Try.func33, Try.ntmps33
  go_wp2
  go_ret
  exact ⟨by first | rfl | (simp; done) | (simp [*]; done), by repeat (first | exact Drawn0.refl _ | apply Drawn0.step)⟩
def y_sb.f (a0_0 : Int) (a0_1 : Int) (a0_2 : Int) : Option (Int × Int × Int) := some (a0_0, a0_1, a0_2)
theorem y_sb.calls (a0_0 : Int) (a0_1 : Int) (a0_2 : Int) (r1 : Int) (r2 : Int) (r3 : Int) (w : World) (h : y_sb.f a0_0 a0_1 a0_2 = some (r1, r2, r3)) :
  Calls Try.prog 123 #[.agg #[.int .i64 a0_0, .int .i64 a0_1, .int .i64 a0_2]] w fun e w' => e = .returned (.agg #[.int .i64 r1, .int .i64 r2, .int .i64 r3]) ∧ Below w.heap.size w w' := by
 have hu118 := Try.underlying118
 have hu71 := Try.underlying71
 have HB := z12a (Below.refl w.heap.size w)
 have H : (some (a0_0, a0_1, a0_2)) = some (r1, r2, r3) := h
 clear h
 simp only [Option.some.injEq, Prod.mk.injEq] at H
 obtain ⟨rfl, rfl, rfl⟩ := H
 go_enter Try.func123, Try.ntmps123
 go_wp2_with (first | ((with_reducible refine gate_dst (N := 1) rfl ?_); refine box_event ?hg (N := 1) ?hd (cs := #[.int .i64 a0_0, .int .i64 a0_1, .int .i64 a0_2]) (t := 118) ?hr ?_; (case hd => rfl); (case hg => rfl); (case hr => first | (go_simp; done) | (go_simp; rfl)); intro gb854 hg w2 hbox hb; have n0_ := z12a (below_step (by repeat (first | (with_reducible first | exact HB.out | apply z12d | apply z12b | apply z12c) | exact HB.out)) hb); have n1_ := z12a (hbox); have n2_ := z12a ((by rw [hg]; exact (below_size (by repeat (first | (with_reducible first | exact HB.out | apply z12d | apply z12b | apply z12c) | exact HB.out))) : w.heap.size ≤ gb854)); have n3_ := z12a ((by rw [hg]; exact (below_size (by repeat (first | (with_reducible first | exact HB.out | apply z12d | apply z12b | apply z12c) | exact HB.out))) : w.heap.size ≤ gb854)); clear HB; have HB := n0_; have BK854 := n1_; have GW854 := n2_; have GE854 := n3_; clear n0_ n1_ n2_ n3_; clear hb hbox hg) | ((with_reducible refine gate_dst (N := 2) rfl ?_); refine box_event ?hg (N := 2) ?hd (cs := #[.int .i64 0, .int .i64 0, .int .i64 0]) (t := 71) ?hr ?_; (case hd => rfl); (case hg => rfl); (case hr => first | (go_simp; done) | (go_simp; rfl)); intro gb855 hg w3 hbox hb; have n0_ := z12a (blk_below (g := gb854) (o := .cells #[.int .i64 a0_0, .int .i64 a0_1, .int .i64 a0_2] 118 (0, 0)) (by (with_reducible repeat (first | refine blk_drewN ?_ _ | refine blk_drew ?_ | refine blk_alloc ?_ _)); exact BK854.out) hb); have n1_ := z12a (below_step (by repeat (first | (with_reducible first | exact HB.out | apply z12d | apply z12b | apply z12c | refine below_set ?_ GE854.out) | exact HB.out)) hb); have n2_ := z12a (hbox); have n3_ := z12a ((by rw [hg]; exact (below_size (by repeat (first | (with_reducible first | exact HB.out | apply z12d | apply z12b | apply z12c | refine below_set ?_ GE854.out) | exact HB.out))) : w.heap.size ≤ gb855)); have n4_ := z12a ((by rw [hg]; exact (below_size (by repeat (first | (with_reducible first | exact HB.out | apply z12d | apply z12b | apply z12c | refine below_set ?_ GE854.out) | exact HB.out))) : w.heap.size ≤ gb855)); have n5_ := z12a ((by rw [hg]; exact Nat.ne_of_lt (blk_lt (g := gb854) (o := .cells #[.int .i64 a0_0, .int .i64 a0_1, .int .i64 a0_2] 118 (0, 0)) (by (with_reducible repeat (first | refine blk_drewN ?_ _ | refine blk_drew ?_ | refine blk_alloc ?_ _)); exact BK854.out)) : gb854 ≠ gb855)); have n6_ := z12a ((by rw [hg]; exact Nat.ne_of_gt (blk_lt (g := gb854) (o := .cells #[.int .i64 a0_0, .int .i64 a0_1, .int .i64 a0_2] 118 (0, 0)) (by (with_reducible repeat (first | refine blk_drewN ?_ _ | refine blk_drew ?_ | refine blk_alloc ?_ _)); exact BK854.out)) : gb855 ≠ gb854)); clear BK854; clear HB; have BK854 := n0_; have HB := n1_; have BK855 := n2_; have GW855 := n3_; have GE855 := n4_; have NB854_855 := n5_; have NB855_854 := n6_; clear n0_ n1_ n2_ n3_ n4_ n5_ n6_; clear hb hbox hg) | ((with_reducible refine gate_dst (N := 3) rfl ?_); refine box_event ?hg (N := 3) ?hd (cs := #[.int .i64 0, .int .i64 0, .int .i64 0]) (t := 71) ?hr ?_; (case hd => rfl); (case hg => rfl); (case hr => first | (go_simp; done) | (go_simp; rfl)); intro gb856 hg w4 hbox hb; have n0_ := z12a (blk_below (g := gb854) (o := .cells #[.int .i64 a0_0, .int .i64 a0_1, .int .i64 a0_2] 118 (0, 0)) (by (with_reducible repeat (first | refine blk_drewN ?_ _ | refine blk_drew ?_ | refine blk_alloc ?_ _)); exact BK854.out) hb); have n1_ := z12a (blk_below (g := gb855) (o := .cells #[.int .i64 0, .int .i64 0, .int .i64 0] 71 (0, 0)) (by (with_reducible repeat (first | refine blk_drewN ?_ _ | refine blk_drew ?_ | refine blk_alloc ?_ _)); exact BK855.out) hb); have n2_ := z12a (below_step (by repeat (first | (with_reducible first | exact HB.out | apply z12d | apply z12b | apply z12c | refine below_set ?_ GE854.out | refine below_set ?_ GE855.out) | exact HB.out)) hb); have n3_ := z12a (hbox); have n4_ := z12a ((by rw [hg]; exact (below_size (by repeat (first | (with_reducible first | exact HB.out | apply z12d | apply z12b | apply z12c | refine below_set ?_ GE854.out | refine below_set ?_ GE855.out) | exact HB.out))) : w.heap.size ≤ gb856)); have n5_ := z12a ((by rw [hg]; exact (below_size (by repeat (first | (with_reducible first | exact HB.out | apply z12d | apply z12b | apply z12c | refine below_set ?_ GE854.out | refine below_set ?_ GE855.out) | exact HB.out))) : w.heap.size ≤ gb856)); have n6_ := z12a ((by rw [hg]; exact Nat.ne_of_lt (blk_lt (g := gb854) (o := .cells #[.int .i64 a0_0, .int .i64 a0_1, .int .i64 a0_2] 118 (0, 0)) (by (with_reducible repeat (first | refine blk_drewN ?_ _ | refine blk_drew ?_ | refine blk_alloc ?_ _)); exact BK854.out)) : gb854 ≠ gb856)); have n7_ := z12a ((by rw [hg]; exact Nat.ne_of_gt (blk_lt (g := gb854) (o := .cells #[.int .i64 a0_0, .int .i64 a0_1, .int .i64 a0_2] 118 (0, 0)) (by (with_reducible repeat (first | refine blk_drewN ?_ _ | refine blk_drew ?_ | refine blk_alloc ?_ _)); exact BK854.out)) : gb856 ≠ gb854)); have n8_ := z12a ((by rw [hg]; exact Nat.ne_of_lt (blk_lt (g := gb855) (o := .cells #[.int .i64 0, .int .i64 0, .int .i64 0] 71 (0, 0)) (by (with_reducible repeat (first | refine blk_drewN ?_ _ | refine blk_drew ?_ | refine blk_alloc ?_ _)); exact BK855.out)) : gb855 ≠ gb856)); have n9_ := z12a ((by rw [hg]; exact Nat.ne_of_gt (blk_lt (g := gb855) (o := .cells #[.int .i64 0, .int .i64 0, .int .i64 0] 71 (0, 0)) (by (with_reducible repeat (first | refine blk_drewN ?_ _ | refine blk_drew ?_ | refine blk_alloc ?_ _)); exact BK855.out)) : gb856 ≠ gb855)); clear BK854; clear BK855; clear HB; have BK854 := n0_; have BK855 := n1_; have HB := n2_; have BK856 := n3_; have GW856 := n4_; have GE856 := n5_; have NB854_856 := n6_; have NB856_854 := n7_; have NB855_856 := n8_; have NB856_855 := n9_; clear n0_ n1_ n2_ n3_ n4_ n5_ n6_ n7_ n8_ n9_; clear hb hbox hg; have hnb5 := NB854_855.out; have hnc5 := NB855_854.out; have hnb6 := NB854_856.out; have hnc6 := NB856_854.out; obtain ⟨hcz7_0, hcz7_1, hcz7_2⟩ := cells_3 BK854.out; obtain ⟨hfz7_0, hfz7_1, hfz7_2⟩ := frz_3 BK854.out; have hnb8 := NB856_855.out; have hnc8 := NB855_856.out; obtain ⟨hcz9_0, hcz9_1, hcz9_2⟩ := cells_3 BK856.out; obtain ⟨hfz9_0, hfz9_1, hfz9_2⟩ := frz_3 BK856.out; obtain ⟨hcz10_0, hcz10_1, hcz10_2⟩ := cells_3 BK855.out; obtain ⟨hfz10_0, hfz10_1, hfz10_2⟩ := frz_3 BK855.out))
 refine bodyPost_ret (results_cell_row rfl _ _ gb855 71 #[.int .i64 a0_0, .int .i64 a0_1, .int .i64 a0_2] (0, 0) _ rfl (by (with_reducible repeat (first | refine blk_drewN ?_ _ | refine blk_drew ?_ | refine blk_alloc ?_ _)); refine blk_put (cs := #[.int .i64 a0_0, .int .i64 a0_1, .int .i64 0]) ?_ 2 _ rfl; (with_reducible repeat (first | refine blk_drewN ?_ _ | refine blk_drew ?_ | refine blk_alloc ?_ _)); refine blk_put (cs := #[.int .i64 a0_0, .int .i64 0, .int .i64 0]) ?_ 1 _ rfl; (with_reducible repeat (first | refine blk_drewN ?_ _ | refine blk_drew ?_ | refine blk_alloc ?_ _)); refine blk_put (cs := #[.int .i64 0, .int .i64 0, .int .i64 0]) ?_ 0 _ rfl; (with_reducible repeat (first | refine blk_drewN ?_ _ | refine blk_drew ?_ | refine blk_alloc ?_ _)); refine blk_far ?_ NB855_856.out _; (with_reducible repeat (first | refine blk_drewN ?_ _ | refine blk_drew ?_ | refine blk_alloc ?_ _)); refine blk_far ?_ NB855_856.out _; (with_reducible repeat (first | refine blk_drewN ?_ _ | refine blk_drew ?_ | refine blk_alloc ?_ _)); refine blk_far ?_ NB855_856.out _; (with_reducible repeat (first | refine blk_drewN ?_ _ | refine blk_drew ?_ | refine blk_alloc ?_ _)); exact BK855.out) Try.underlying71 rfl (by kernel_rfl)) rfl ?_
 exact ⟨by first | rfl | (simp [errW_none, errW_some] <;> rfl) | (simp [*, errW_none, errW_some] <;> rfl), by repeat (first | (with_reducible first | exact HB.out | apply z12d | apply z12b | apply z12c | refine below_set ?_ GE854.out | refine below_set ?_ GE855.out | refine below_set ?_ GE856.out) | exact HB.out)⟩
def y_p.l0 : Nat → List (S118) → List (S71) → Int → Option ((List (S71)))
 | 0, _, _, _ => none
 | k + 1, x0, x3, x4 => if x4 < (x0.length : Int) then (if 0 ≤ x4 then ((y_sb.f ((rd_T118 x0 x4).f0) ((rd_T118 x0 x4).f1) ((rd_T118 x0 x4).f2)).bind fun bt861 => (if x4 < (x3.length : Int) then (y_p.l0 k x0 (x3.set (x4 : Int).toNat (⟨bt861.1, bt861.2.1, bt861.2.2⟩ : S71)) (wrap64 (x4 + 1))) else (none))) else (none)) else (some x3)
def y_p.f (k : Nat) (l0 : List (S118)) : Option ((List (S71))) := if 0 ≤ (l0.length : Int) then (if ((l0.length : Int) : Int).toNat ≤ 11728124029610 then (y_p.l0 k l0 (List.replicate ((l0.length : Int) : Int).toNat z71) 0) else (none)) else (none)
theorem y_p.calls (k : Nat) (A0 : Option Addr) (c0 : Nat) (l0 : List (S118)) (r : List (S71)) (w : World) (hr0 : Kd.C k118 w A0 l0.length l0) (hc0 : l0.length ≤ c0) (h : y_p.f k l0 = some r) :
  Calls Try.prog 34 #[.slice A0 l0.length c0] w fun e w' => ∃ v0_ : Value, e = .returned (v0_) ∧ Kd.R k71 71 w' w.heap.size (fun _ => True) v0_ r ∧ Below w.heap.size w w' := by
 have hu118 := Try.underlying118
 have hu71 := Try.underlying71
 have HR0 := z12a hr0
 have HC0 := z12a hc0
 clear hr0 hc0
 have HB := z12a (Below.refl w.heap.size w)
 have H := h
 unfold y_p.f at H
 clear h
 by_cases c2 : 0 ≤ (l0.length : Int)
 ·rw [if_pos c2] at H
  have c2b0 := eq_true c2
  have c2b1 : decide (0 ≤ (l0.length : Int)) = true := decide_eq_true c2
  clear c2
  by_cases c3 : ((l0.length : Int) : Int).toNat ≤ 11728124029610
  ·rw [if_pos c3] at H
   have c3b0 := eq_true c3
   have c3b1 : decide (((l0.length : Int) : Int).toNat ≤ 11728124029610) = true := decide_eq_true c3
   clear c3
   obtain ⟨y857, hy857⟩ : ∃ y_ : List (S71), y_ = (List.replicate ((l0.length : Int) : Int).toNat z71) := ⟨_, rfl⟩
   replace H : (y_p.l0 k l0 y857 0) = some r := by first | (rw [hy857]; with_reducible exact H) | (have H2_ := (Option.bind_some _ _).symm.trans H; rw [hy857]; with_reducible exact H2_) | (have H2_ := (Option.bind_some _ _).symm.trans H; with_reducible exact H2_) | with_reducible exact H | (rw [hy857]; exact H) | exact H
   have Ny857 := z12a hy857
   clear hy857
   have H' := z12a H
   clear H
   go_enter Try.func34, Try.ntmps34
   go_wp2_with (first | ((with_reducible refine gate_dst (N := 7) rfl ?_); refine Kd.R_make k71 _ 71 rfl (N := 7) rfl 24 _ _ rfl (l0.length : Int) rfl rfl Try.underlying24 (.agg #[(.int .i64 0), (.int .i64 0), (.int .i64 0)]) 24 info71 rfl (by decide) (by omega) z71 (ok := fun _ => True) (okp := fun _ => True) (k71_mkM _ _ _ z71 ) (fun _ hk => hk) trivial (z12g (by first | (with_reducible assumption) | assumption)) (Nat.le_trans (Nat.mul_le_mul_right _ (z12g (by first | (with_reducible assumption) | assumption) : (l0.length : Int).toNat ≤ 11728124029610)) (by omega)) (Below.refl _ _) (Nat.le_refl _) ?_; intro v858 w4 ho5 hb hg_ hnew_; clear hg_ hnew_; (first | rw [← Ny857.out] at ho5 | (simp only [Int.reduceToNat] at ho5; rw [← Ny857.out] at ho5)); have n0_ := z12a (Kd.R_lower ho5 (below_size (by repeat (first | (with_reducible first | exact HB.out | apply z12d | apply z12b | apply z12c) | exact HB.out)))); have n1_ := z12a (below_step (by repeat (first | (with_reducible first | exact HB.out | apply z12d | apply z12b | apply z12c) | exact HB.out)) hb); clear HB; have HO859 := n0_; have HB := n1_; clear n0_ n1_; clear hb ho5))
   go_loopg [4] k (fun kq v4 w' => ∃ (x3_1 : List (S71)) (x4_1 : Int), v4 = .int .i64 x4_1 ∧ Aside0 (y_p.l0 kq l0 x3_1 x4_1 = some r) ∧ Aside0 (kq ≤ k) ∧ Aside0 (Kd.R k71 71 w' w.heap.size (fun _ => True) v858 x3_1) ∧ Aside0 (Below w.heap.size w w'))
   case atStart => exact ⟨(y857), (0), (by first | rfl | (simp; done) | (simp [*]; done)), H', ⟨Nat.le_refl _⟩, ⟨by (with_reducible repeat (first | apply Kd.R_alloc | apply Kd.R_drewN | apply Kd.R_drew)); exact HO859.out⟩, ⟨by repeat (first | (with_reducible first | exact HB.out | apply z12d | apply z12b | apply z12c) | exact HB.out)⟩⟩
   case round =>
    clear H'
    try clear c2
    try clear c2b0
    try clear c2b1
    try clear p2
    try clear c3
    try clear c3b0
    try clear c3b1
    obtain ⟨x3_1, x4_1, rfl, HA, HK1, HO_3, HB⟩ := hrel
    cases gk with
    | zero => exact absurd HA.out (by simp [y_p.l0])
    | succ k1 =>
     have H := HA.out
     clear HA
     simp only [y_p.l0] at H
     by_cases c6 : x4_1 < (l0.length : Int)
     ·rw [if_pos c6] at H
      have c6b0 : decide (x4_1 < (l0.length : Int)) = true := decide_eq_true c6
      clear c6
      by_cases c7 : 0 ≤ x4_1
      ·rw [if_pos c7] at H
       have c7b0 : decide (0 ≤ x4_1) = true := decide_eq_true c7
       clear c7
       replace H := z12f.mp H
       obtain ⟨⟨t861, t862, t863⟩, A80, H⟩ := H
       replace H : (if x4_1 < (x3_1.length : Int) then (y_p.l0 k1 l0 (x3_1.set (x4_1 : Int).toNat (⟨t861, t862, t863⟩ : S71)) (wrap64 (x4_1 + 1))) else (none)) = some r := H
       have A8 := z12a A80
       clear A80
       by_cases c9 : x4_1 < (x3_1.length : Int)
       ·rw [if_pos c9] at H
        have c9b0 : decide (x4_1 < (x3_1.length : Int)) = true := decide_eq_true c9
        clear c9
        obtain ⟨y864, hy864⟩ : ∃ y_ : List (S71), y_ = (x3_1.set (x4_1 : Int).toNat (⟨t861, t862, t863⟩ : S71)) := ⟨_, rfl⟩
        replace H : (y_p.l0 k1 l0 y864 (wrap64 (x4_1 + 1))) = some r := by first | (rw [hy864]; with_reducible exact H) | (have H2_ := (Option.bind_some _ _).symm.trans H; rw [hy864]; with_reducible exact H2_) | (have H2_ := (Option.bind_some _ _).symm.trans H; with_reducible exact H2_) | with_reducible exact H | (rw [hy864]; exact H) | exact H
        have Ny864 := z12a hy864
        clear hy864
        have H' := z12a H
        clear H
        have p860 : 0 ≤ (x4_1 : Int) := z12g (by first | (with_reducible assumption) | assumption)
        have q860 : x4_1 < (l0.length : Int) := z12g (by first | (with_reducible assumption) | assumption)
        obtain ⟨ad860, e860, hx860_0, hx860_1, hx860_2⟩ := at_T118 HR0.out x4_1 p860 q860
        cases e860
        replace hx860_0 := (HB.out.cell (z12e w _ hx860_0)).trans hx860_0
        replace hx860_1 := (HB.out.cell (z12e w _ hx860_1)).trans hx860_1
        replace hx860_2 := (HB.out.cell (z12e w _ hx860_2)).trans hx860_2
        replace p860 := eq_true p860
        replace q860 := eq_true q860
        go_wp2_with (first | ((with_reducible refine gate_callee (f := 123) rfl ?_); refine goesL_ (some 20) rfl rfl Try.func123 (by kernel_rfl) rfl #[.agg #[.int .i64 ((rd_T118 l0 x4_1).f0), .int .i64 ((rd_T118 l0 x4_1).f1), .int .i64 ((rd_T118 l0 x4_1).f2)]] rfl (by (try simp only [zm12a, zm12b, zm12c]); first | done | rfl | (simp only [zm12d, zm12e]; rfl)) ?_; (with_reducible refine (y_sb.calls ((rd_T118 l0 x4_1).f0) ((rd_T118 l0 x4_1).f1) ((rd_T118 l0 x4_1).f2) t861 t862 t863 _ A8.out).mono ?_); rintro e w11 ⟨rfl, hb⟩; refine ⟨_, rfl, ?_⟩; have n0_ := z12a (Kd.R_below (by (with_reducible repeat (first | apply Kd.R_alloc | apply Kd.R_drewN | apply Kd.R_drew)); exact HO_3.out) hb); have n1_ := z12a (below_step (by repeat (first | (with_reducible first | exact HB.out | apply z12d | apply z12b | apply z12c) | exact HB.out)) hb); clear HO_3; clear HB; have HO_3 := n0_; have HB := n1_; clear n0_ n1_; (try clear hb); (try clear hb2); (try clear hk); (try clear hi); have p10 : 0 ≤ (x4_1 : Int) := z12g (by first | (with_reducible assumption) | assumption); have q10 : (x4_1 : Int) < ((x3_1.length : Int) : Int) := z12g (by first | (with_reducible assumption) | assumption); obtain ⟨go10, co10, eo10, gb10, gl10, cl10, HG10⟩ := Kd.R_form HO_3.out (by omega); (first | cases eo10 | (injection eo10 with ea_ en_ ec_; (first | subst ea_ | (injection ea_ with ea_; subst ea_)); subst ec_; clear en_)); have GB10 := z12a gb10; have GG10 := z12a HG10; clear gb10 gl10 HG10; obtain ⟨ce10, hcl10, hM10, hcc10, hfr10⟩ := Kd.R_elem HO_3.out z71 (x4_1 : Int) p10 q10; obtain rfl := k71_openM hM10; have hx10_0 : w11.cell? ⟨go10, (x4_1 : Int).toNat * 3, none⟩ = some (.int .i64 ((rd_T71 x3_1 x4_1).f0)) := hcc10 0 _ rfl; have hx10_1 : w11.cell? ⟨go10, (x4_1 : Int).toNat * 3 + 1, none⟩ = some (.int .i64 ((rd_T71 x3_1 x4_1).f1)) := hcc10 1 _ rfl; have hx10_2 : w11.cell? ⟨go10, (x4_1 : Int).toNat * 3 + 2, none⟩ = some (.int .i64 ((rd_T71 x3_1 x4_1).f2)) := hcc10 2 _ rfl; have hf10_0 : w11.frozen? ⟨go10, (x4_1 : Int).toNat * 3, none⟩ = false := hfr10 0; have hf10_1 : w11.frozen? ⟨go10, (x4_1 : Int).toNat * 3 + 1, none⟩ = false := hfr10 1; have hf10_2 : w11.frozen? ⟨go10, (x4_1 : Int).toNat * 3 + 2, none⟩ = false := hfr10 2; clear hcl10 hcc10 hfr10 hM10; replace p10 := eq_true p10; replace q10 := eq_true q10; have HX12 := z12a (show Kd.R k71 71 w11 w.heap.size (fun _ => True) (.slice (some ⟨go10, 0, none⟩) x3_1.length co10) x3_1 from (by (with_reducible repeat (first | apply Kd.R_alloc | apply Kd.R_drewN | apply Kd.R_drew)); exact HO_3.out)); obtain ⟨ce12, hcl12, hM12, hcc12, hfr12⟩ := Kd.R_elem HX12.out z71 (x4_1 : Int) (z12g (by first | (with_reducible assumption) | assumption)) (by have h_ : (x4_1 : Int) < ((x3_1.length : Int) : Int) := z12g (by first | (with_reducible assumption) | assumption); first | exact h_ | (have e_ := (Kd.R_reads' HO_3.out).1; omega) | simpa using h_); obtain rfl := k71_openM hM12; have HP12 := Kd.R_seg HX12.out (x4_1 : Int) (z12g (by first | (with_reducible assumption) | assumption)) (by have h_ : (x4_1 : Int) < ((x3_1.length : Int) : Int) := z12g (by first | (with_reducible assumption) | assumption); first | exact h_ | (have e_ := (Kd.R_reads' HO_3.out).1; omega) | simpa using h_) (seg := [.int .i64 t861, .int .i64 t862, .int .i64 t863]) (j := 0) hcl12 hcc12 (show 3 ≤ 3 from by decide) (x' := (⟨t861, t862, t863⟩ : S71)) (k71_mkM _ _ _ (⟨t861, t862, t863⟩ : S71) ) (fun _ hk => hk); have hx12_0 := hcc12 0 _ rfl; (try simp only [show (k71).sz = 3 from rfl, Nat.mul_one, Nat.add_zero] at hx12_0); have hf12_0 := hfr12 0; (try simp only [show (k71).sz = 3 from rfl, Nat.mul_one, Nat.add_zero] at hf12_0); have hx12_1 := hcc12 1 _ rfl; (try simp only [show (k71).sz = 3 from rfl, Nat.mul_one, Nat.add_zero] at hx12_1); have hf12_1 := hfr12 1; (try simp only [show (k71).sz = 3 from rfl, Nat.mul_one, Nat.add_zero] at hf12_1); have hx12_2 := hcc12 2 _ rfl; (try simp only [show (k71).sz = 3 from rfl, Nat.mul_one, Nat.add_zero] at hx12_2); have hf12_2 := hfr12 2; (try simp only [show (k71).sz = 3 from rfl, Nat.mul_one, Nat.add_zero] at hf12_2); clear hcl12 hcc12 hfr12 hM12) | ((with_reducible refine gate_store (t := 71) (p := 21) rfl ?_); refine store_event (t := 71) (p := 21) (v := ?vo_w13) (w1 := (((w11.setCell ⟨go10, (x4_1 : Int).toNat * 3, none⟩ (.int .i64 t861)).setCell ⟨go10, (x4_1 : Int).toNat * 3 + 1, none⟩ (.int .i64 t862)).setCell ⟨go10, (x4_1 : Int).toNat * 3 + 2, none⟩ (.int .i64 t863))) ?hg ?ho ?hn ?hr ?_; (case ho => rfl); (case hg => rfl); (case hn => rfl); (case hr => first | (go_simp; done) | (go_simp; rfl)); intro w13 hw; have hg : w11.grownBy w13 (some go10) := (by rw [hw]; exact HP12.2); have hp_ : Kd.R k71 71 w13 w.heap.size (fun _ => True) (.slice (some ⟨go10, 0, none⟩) x3_1.length co10) y864 := (by rw [hw, Ny864.out]; exact HP12.1); clear HP12; have n0_ := z12a (hp_); have n1_ := z12a ((by rw [hw]; exact below_set (below_set (below_set (HB.out) GB10.out) GB10.out) GB10.out : Below w.heap.size w w13)); clear HO_3; clear HB; have HO_3 := n0_; have HB := n1_; clear n0_ n1_; clear hg hw hp_))
        go_roundg k1
        case measure => have := HK1.out; omega
        case rel => exact ⟨(y864), (wrap64 (x4_1 + 1)), (by first | rfl | (simp; done) | (simp [*]; done)), H', ⟨by have := HK1.out; omega⟩, ⟨by (with_reducible repeat (first | apply Kd.R_alloc | apply Kd.R_drewN | apply Kd.R_drew)); exact HO_3.out⟩, ⟨by repeat (first | (with_reducible first | exact HB.out | apply z12d | apply z12b | apply z12c) | exact HB.out)⟩⟩
       ·rw [if_neg c9] at H
        exact absurd H (by simp)
      ·rw [if_neg c7] at H
       exact absurd H (by simp)
     ·rw [if_neg c6] at H
      have c6b0 : decide (x4_1 < (l0.length : Int)) = false := decide_eq_false c6
      clear c6
      obtain rfl := Option.some.inj H
      go_wp2
      go_ret
      exact ⟨_, by first | rfl | (simp [errW_none, errW_some] <;> rfl) | (simp [*, errW_none, errW_some] <;> rfl), by (with_reducible repeat (first | apply Kd.R_alloc | apply Kd.R_drewN | apply Kd.R_drew)); exact HO_3.out, by repeat (first | (with_reducible first | exact HB.out | apply z12d | apply z12b | apply z12c) | exact HB.out)⟩
  ·rw [if_neg c3] at H
   exact absurd H (by simp)
 ·rw [if_neg c2] at H
  exact absurd H (by simp)
def y_rb.f (a0_0 : Int) (a0_1 : Int) (a0_2 : Int) (a1_0 : Int) (a1_1 : Int) (a1_2 : Int) : Option (Bool) := if a0_0 = a1_0 then (if a0_1 = a1_1 then (if a0_2 = a1_2 then (some true) else (some false)) else (some false)) else (some false)
theorem y_rb.calls (a0_0 : Int) (a0_1 : Int) (a0_2 : Int) (a1_0 : Int) (a1_1 : Int) (a1_2 : Int) (r : Bool) (w : World) (h : y_rb.f a0_0 a0_1 a0_2 a1_0 a1_1 a1_2 = some r) :
  Calls Try.prog 125 #[.agg #[.int .i64 a0_0, .int .i64 a0_1, .int .i64 a0_2], .agg #[.int .i64 a1_0, .int .i64 a1_1, .int .i64 a1_2]] w fun e w' => e = .returned (.bool r) ∧ Below w.heap.size w w' := by
 have hu71 := Try.underlying71
 have HB := z12a (Below.refl w.heap.size w)
 have H := h
 unfold y_rb.f at H
 clear h
 by_cases c3 : a0_0 = a1_0
 ·rw [if_pos c3] at H
  have c3b0 : (a0_0 == a1_0) = true := beq_iff_eq.mpr c3
  have c3b1 : (a0_0 != a1_0) = false := bne_eq_false_iff_eq.mpr c3
  clear c3
  by_cases c4 : a0_1 = a1_1
  ·rw [if_pos c4] at H
   have c4b0 : (a0_1 == a1_1) = true := beq_iff_eq.mpr c4
   have c4b1 : (a0_1 != a1_1) = false := bne_eq_false_iff_eq.mpr c4
   clear c4
   by_cases c5 : a0_2 = a1_2
   ·rw [if_pos c5] at H
    have c5b0 : (a0_2 == a1_2) = true := beq_iff_eq.mpr c5
    have c5b1 : (a0_2 != a1_2) = false := bne_eq_false_iff_eq.mpr c5
    clear c5
    obtain rfl := Option.some.inj H
    go_enter Try.func125, Try.ntmps125
    go_wp2_with (first | ((with_reducible refine gate_dst (N := 2) rfl ?_); refine box_event ?hg (N := 2) ?hd (cs := #[.int .i64 a0_0, .int .i64 a0_1, .int .i64 a0_2]) (t := 71) ?hr ?_; (case hd => rfl); (case hg => rfl); (case hr => first | (go_simp; done) | (go_simp; rfl)); intro gb865 hg w6 hbox hb; have n0_ := z12a (below_step (by repeat (first | (with_reducible first | exact HB.out | apply z12d | apply z12b | apply z12c) | exact HB.out)) hb); have n1_ := z12a (hbox); have n2_ := z12a ((by rw [hg]; exact (below_size (by repeat (first | (with_reducible first | exact HB.out | apply z12d | apply z12b | apply z12c) | exact HB.out))) : w.heap.size ≤ gb865)); have n3_ := z12a ((by rw [hg]; exact (below_size (by repeat (first | (with_reducible first | exact HB.out | apply z12d | apply z12b | apply z12c) | exact HB.out))) : w.heap.size ≤ gb865)); clear HB; have HB := n0_; have BK865 := n1_; have GW865 := n2_; have GE865 := n3_; clear n0_ n1_ n2_ n3_; clear hb hbox hg) | ((with_reducible refine gate_dst (N := 3) rfl ?_); refine box_event ?hg (N := 3) ?hd (cs := #[.int .i64 a1_0, .int .i64 a1_1, .int .i64 a1_2]) (t := 71) ?hr ?_; (case hd => rfl); (case hg => rfl); (case hr => first | (go_simp; done) | (go_simp; rfl)); intro gb866 hg w7 hbox hb; have n0_ := z12a (blk_below (g := gb865) (o := .cells #[.int .i64 a0_0, .int .i64 a0_1, .int .i64 a0_2] 71 (0, 0)) (by (with_reducible repeat (first | refine blk_drewN ?_ _ | refine blk_drew ?_ | refine blk_alloc ?_ _)); exact BK865.out) hb); have n1_ := z12a (below_step (by repeat (first | (with_reducible first | exact HB.out | apply z12d | apply z12b | apply z12c | refine below_set ?_ GE865.out) | exact HB.out)) hb); have n2_ := z12a (hbox); have n3_ := z12a ((by rw [hg]; exact (below_size (by repeat (first | (with_reducible first | exact HB.out | apply z12d | apply z12b | apply z12c | refine below_set ?_ GE865.out) | exact HB.out))) : w.heap.size ≤ gb866)); have n4_ := z12a ((by rw [hg]; exact (below_size (by repeat (first | (with_reducible first | exact HB.out | apply z12d | apply z12b | apply z12c | refine below_set ?_ GE865.out) | exact HB.out))) : w.heap.size ≤ gb866)); have n5_ := z12a ((by rw [hg]; exact Nat.ne_of_lt (blk_lt (g := gb865) (o := .cells #[.int .i64 a0_0, .int .i64 a0_1, .int .i64 a0_2] 71 (0, 0)) (by (with_reducible repeat (first | refine blk_drewN ?_ _ | refine blk_drew ?_ | refine blk_alloc ?_ _)); exact BK865.out)) : gb865 ≠ gb866)); have n6_ := z12a ((by rw [hg]; exact Nat.ne_of_gt (blk_lt (g := gb865) (o := .cells #[.int .i64 a0_0, .int .i64 a0_1, .int .i64 a0_2] 71 (0, 0)) (by (with_reducible repeat (first | refine blk_drewN ?_ _ | refine blk_drew ?_ | refine blk_alloc ?_ _)); exact BK865.out)) : gb866 ≠ gb865)); clear BK865; clear HB; have BK865 := n0_; have HB := n1_; have BK866 := n2_; have GW866 := n3_; have GE866 := n4_; have NB865_866 := n5_; have NB866_865 := n6_; clear n0_ n1_ n2_ n3_ n4_ n5_ n6_; clear hb hbox hg; have hnb8 := NB865_866.out; have hnc8 := NB866_865.out; obtain ⟨hcz9_0, hcz9_1, hcz9_2⟩ := cells_3 BK865.out; obtain ⟨hfz9_0, hfz9_1, hfz9_2⟩ := frz_3 BK865.out; obtain ⟨hcz10_0, hcz10_1, hcz10_2⟩ := cells_3 BK866.out; obtain ⟨hfz10_0, hfz10_1, hfz10_2⟩ := frz_3 BK866.out))
    go_ret
    exact ⟨by first | rfl | (simp [errW_none, errW_some] <;> rfl) | (simp [*, errW_none, errW_some] <;> rfl), by repeat (first | (with_reducible first | exact HB.out | apply z12d | apply z12b | apply z12c | refine below_set ?_ GE865.out | refine below_set ?_ GE866.out) | exact HB.out)⟩
   ·rw [if_neg c5] at H
    have c5b0 : (a0_2 == a1_2) = false := beq_eq_false_iff_ne.mpr c5
    have c5b1 : (a0_2 != a1_2) = true := bne_iff_ne.mpr c5
    obtain rfl := Option.some.inj H
    go_enter Try.func125, Try.ntmps125
    go_wp2_with (first | ((with_reducible refine gate_dst (N := 2) rfl ?_); refine box_event ?hg (N := 2) ?hd (cs := #[.int .i64 a0_0, .int .i64 a0_1, .int .i64 a0_2]) (t := 71) ?hr ?_; (case hd => rfl); (case hg => rfl); (case hr => first | (go_simp; done) | (go_simp; rfl)); intro gb865 hg w11 hbox hb; have n0_ := z12a (below_step (by repeat (first | (with_reducible first | exact HB.out | apply z12d | apply z12b | apply z12c) | exact HB.out)) hb); have n1_ := z12a (hbox); have n2_ := z12a ((by rw [hg]; exact (below_size (by repeat (first | (with_reducible first | exact HB.out | apply z12d | apply z12b | apply z12c) | exact HB.out))) : w.heap.size ≤ gb865)); have n3_ := z12a ((by rw [hg]; exact (below_size (by repeat (first | (with_reducible first | exact HB.out | apply z12d | apply z12b | apply z12c) | exact HB.out))) : w.heap.size ≤ gb865)); clear HB; have HB := n0_; have BK865 := n1_; have GW865 := n2_; have GE865 := n3_; clear n0_ n1_ n2_ n3_; clear hb hbox hg) | ((with_reducible refine gate_dst (N := 3) rfl ?_); refine box_event ?hg (N := 3) ?hd (cs := #[.int .i64 a1_0, .int .i64 a1_1, .int .i64 a1_2]) (t := 71) ?hr ?_; (case hd => rfl); (case hg => rfl); (case hr => first | (go_simp; done) | (go_simp; rfl)); intro gb866 hg w12 hbox hb; have n0_ := z12a (blk_below (g := gb865) (o := .cells #[.int .i64 a0_0, .int .i64 a0_1, .int .i64 a0_2] 71 (0, 0)) (by (with_reducible repeat (first | refine blk_drewN ?_ _ | refine blk_drew ?_ | refine blk_alloc ?_ _)); exact BK865.out) hb); have n1_ := z12a (below_step (by repeat (first | (with_reducible first | exact HB.out | apply z12d | apply z12b | apply z12c | refine below_set ?_ GE865.out) | exact HB.out)) hb); have n2_ := z12a (hbox); have n3_ := z12a ((by rw [hg]; exact (below_size (by repeat (first | (with_reducible first | exact HB.out | apply z12d | apply z12b | apply z12c | refine below_set ?_ GE865.out) | exact HB.out))) : w.heap.size ≤ gb866)); have n4_ := z12a ((by rw [hg]; exact (below_size (by repeat (first | (with_reducible first | exact HB.out | apply z12d | apply z12b | apply z12c | refine below_set ?_ GE865.out) | exact HB.out))) : w.heap.size ≤ gb866)); have n5_ := z12a ((by rw [hg]; exact Nat.ne_of_lt (blk_lt (g := gb865) (o := .cells #[.int .i64 a0_0, .int .i64 a0_1, .int .i64 a0_2] 71 (0, 0)) (by (with_reducible repeat (first | refine blk_drewN ?_ _ | refine blk_drew ?_ | refine blk_alloc ?_ _)); exact BK865.out)) : gb865 ≠ gb866)); have n6_ := z12a ((by rw [hg]; exact Nat.ne_of_gt (blk_lt (g := gb865) (o := .cells #[.int .i64 a0_0, .int .i64 a0_1, .int .i64 a0_2] 71 (0, 0)) (by (with_reducible repeat (first | refine blk_drewN ?_ _ | refine blk_drew ?_ | refine blk_alloc ?_ _)); exact BK865.out)) : gb866 ≠ gb865)); clear BK865; clear HB; have BK865 := n0_; have HB := n1_; have BK866 := n2_; have GW866 := n3_; have GE866 := n4_; have NB865_866 := n5_; have NB866_865 := n6_; clear n0_ n1_ n2_ n3_ n4_ n5_ n6_; clear hb hbox hg; have hnb13 := NB865_866.out; have hnc13 := NB866_865.out; obtain ⟨hcz14_0, hcz14_1, hcz14_2⟩ := cells_3 BK865.out; obtain ⟨hfz14_0, hfz14_1, hfz14_2⟩ := frz_3 BK865.out; obtain ⟨hcz15_0, hcz15_1, hcz15_2⟩ := cells_3 BK866.out; obtain ⟨hfz15_0, hfz15_1, hfz15_2⟩ := frz_3 BK866.out))
    go_ret
    exact ⟨by first | rfl | (simp [errW_none, errW_some] <;> rfl) | (simp [*, errW_none, errW_some] <;> rfl), by repeat (first | (with_reducible first | exact HB.out | apply z12d | apply z12b | apply z12c | refine below_set ?_ GE865.out | refine below_set ?_ GE866.out) | exact HB.out)⟩
  ·rw [if_neg c4] at H
   have c4b0 : (a0_1 == a1_1) = false := beq_eq_false_iff_ne.mpr c4
   have c4b1 : (a0_1 != a1_1) = true := bne_iff_ne.mpr c4
   obtain rfl := Option.some.inj H
   go_enter Try.func125, Try.ntmps125
   go_wp2_with (first | ((with_reducible refine gate_dst (N := 2) rfl ?_); refine box_event ?hg (N := 2) ?hd (cs := #[.int .i64 a0_0, .int .i64 a0_1, .int .i64 a0_2]) (t := 71) ?hr ?_; (case hd => rfl); (case hg => rfl); (case hr => first | (go_simp; done) | (go_simp; rfl)); intro gb865 hg w16 hbox hb; have n0_ := z12a (below_step (by repeat (first | (with_reducible first | exact HB.out | apply z12d | apply z12b | apply z12c) | exact HB.out)) hb); have n1_ := z12a (hbox); have n2_ := z12a ((by rw [hg]; exact (below_size (by repeat (first | (with_reducible first | exact HB.out | apply z12d | apply z12b | apply z12c) | exact HB.out))) : w.heap.size ≤ gb865)); have n3_ := z12a ((by rw [hg]; exact (below_size (by repeat (first | (with_reducible first | exact HB.out | apply z12d | apply z12b | apply z12c) | exact HB.out))) : w.heap.size ≤ gb865)); clear HB; have HB := n0_; have BK865 := n1_; have GW865 := n2_; have GE865 := n3_; clear n0_ n1_ n2_ n3_; clear hb hbox hg) | ((with_reducible refine gate_dst (N := 3) rfl ?_); refine box_event ?hg (N := 3) ?hd (cs := #[.int .i64 a1_0, .int .i64 a1_1, .int .i64 a1_2]) (t := 71) ?hr ?_; (case hd => rfl); (case hg => rfl); (case hr => first | (go_simp; done) | (go_simp; rfl)); intro gb866 hg w17 hbox hb; have n0_ := z12a (blk_below (g := gb865) (o := .cells #[.int .i64 a0_0, .int .i64 a0_1, .int .i64 a0_2] 71 (0, 0)) (by (with_reducible repeat (first | refine blk_drewN ?_ _ | refine blk_drew ?_ | refine blk_alloc ?_ _)); exact BK865.out) hb); have n1_ := z12a (below_step (by repeat (first | (with_reducible first | exact HB.out | apply z12d | apply z12b | apply z12c | refine below_set ?_ GE865.out) | exact HB.out)) hb); have n2_ := z12a (hbox); have n3_ := z12a ((by rw [hg]; exact (below_size (by repeat (first | (with_reducible first | exact HB.out | apply z12d | apply z12b | apply z12c | refine below_set ?_ GE865.out) | exact HB.out))) : w.heap.size ≤ gb866)); have n4_ := z12a ((by rw [hg]; exact (below_size (by repeat (first | (with_reducible first | exact HB.out | apply z12d | apply z12b | apply z12c | refine below_set ?_ GE865.out) | exact HB.out))) : w.heap.size ≤ gb866)); have n5_ := z12a ((by rw [hg]; exact Nat.ne_of_lt (blk_lt (g := gb865) (o := .cells #[.int .i64 a0_0, .int .i64 a0_1, .int .i64 a0_2] 71 (0, 0)) (by (with_reducible repeat (first | refine blk_drewN ?_ _ | refine blk_drew ?_ | refine blk_alloc ?_ _)); exact BK865.out)) : gb865 ≠ gb866)); have n6_ := z12a ((by rw [hg]; exact Nat.ne_of_gt (blk_lt (g := gb865) (o := .cells #[.int .i64 a0_0, .int .i64 a0_1, .int .i64 a0_2] 71 (0, 0)) (by (with_reducible repeat (first | refine blk_drewN ?_ _ | refine blk_drew ?_ | refine blk_alloc ?_ _)); exact BK865.out)) : gb866 ≠ gb865)); clear BK865; clear HB; have BK865 := n0_; have HB := n1_; have BK866 := n2_; have GW866 := n3_; have GE866 := n4_; have NB865_866 := n5_; have NB866_865 := n6_; clear n0_ n1_ n2_ n3_ n4_ n5_ n6_; clear hb hbox hg; have hnb18 := NB865_866.out; have hnc18 := NB866_865.out; obtain ⟨hcz19_0, hcz19_1, hcz19_2⟩ := cells_3 BK865.out; obtain ⟨hfz19_0, hfz19_1, hfz19_2⟩ := frz_3 BK865.out; obtain ⟨hcz20_0, hcz20_1, hcz20_2⟩ := cells_3 BK866.out; obtain ⟨hfz20_0, hfz20_1, hfz20_2⟩ := frz_3 BK866.out))
   go_ret
   exact ⟨by first | rfl | (simp [errW_none, errW_some] <;> rfl) | (simp [*, errW_none, errW_some] <;> rfl), by repeat (first | (with_reducible first | exact HB.out | apply z12d | apply z12b | apply z12c | refine below_set ?_ GE865.out | refine below_set ?_ GE866.out) | exact HB.out)⟩
 ·rw [if_neg c3] at H
  have c3b0 : (a0_0 == a1_0) = false := beq_eq_false_iff_ne.mpr c3
  have c3b1 : (a0_0 != a1_0) = true := bne_iff_ne.mpr c3
  obtain rfl := Option.some.inj H
  go_enter Try.func125, Try.ntmps125
  go_wp2_with (first | ((with_reducible refine gate_dst (N := 2) rfl ?_); refine box_event ?hg (N := 2) ?hd (cs := #[.int .i64 a0_0, .int .i64 a0_1, .int .i64 a0_2]) (t := 71) ?hr ?_; (case hd => rfl); (case hg => rfl); (case hr => first | (go_simp; done) | (go_simp; rfl)); intro gb865 hg w21 hbox hb; have n0_ := z12a (below_step (by repeat (first | (with_reducible first | exact HB.out | apply z12d | apply z12b | apply z12c) | exact HB.out)) hb); have n1_ := z12a (hbox); have n2_ := z12a ((by rw [hg]; exact (below_size (by repeat (first | (with_reducible first | exact HB.out | apply z12d | apply z12b | apply z12c) | exact HB.out))) : w.heap.size ≤ gb865)); have n3_ := z12a ((by rw [hg]; exact (below_size (by repeat (first | (with_reducible first | exact HB.out | apply z12d | apply z12b | apply z12c) | exact HB.out))) : w.heap.size ≤ gb865)); clear HB; have HB := n0_; have BK865 := n1_; have GW865 := n2_; have GE865 := n3_; clear n0_ n1_ n2_ n3_; clear hb hbox hg) | ((with_reducible refine gate_dst (N := 3) rfl ?_); refine box_event ?hg (N := 3) ?hd (cs := #[.int .i64 a1_0, .int .i64 a1_1, .int .i64 a1_2]) (t := 71) ?hr ?_; (case hd => rfl); (case hg => rfl); (case hr => first | (go_simp; done) | (go_simp; rfl)); intro gb866 hg w22 hbox hb; have n0_ := z12a (blk_below (g := gb865) (o := .cells #[.int .i64 a0_0, .int .i64 a0_1, .int .i64 a0_2] 71 (0, 0)) (by (with_reducible repeat (first | refine blk_drewN ?_ _ | refine blk_drew ?_ | refine blk_alloc ?_ _)); exact BK865.out) hb); have n1_ := z12a (below_step (by repeat (first | (with_reducible first | exact HB.out | apply z12d | apply z12b | apply z12c | refine below_set ?_ GE865.out) | exact HB.out)) hb); have n2_ := z12a (hbox); have n3_ := z12a ((by rw [hg]; exact (below_size (by repeat (first | (with_reducible first | exact HB.out | apply z12d | apply z12b | apply z12c | refine below_set ?_ GE865.out) | exact HB.out))) : w.heap.size ≤ gb866)); have n4_ := z12a ((by rw [hg]; exact (below_size (by repeat (first | (with_reducible first | exact HB.out | apply z12d | apply z12b | apply z12c | refine below_set ?_ GE865.out) | exact HB.out))) : w.heap.size ≤ gb866)); have n5_ := z12a ((by rw [hg]; exact Nat.ne_of_lt (blk_lt (g := gb865) (o := .cells #[.int .i64 a0_0, .int .i64 a0_1, .int .i64 a0_2] 71 (0, 0)) (by (with_reducible repeat (first | refine blk_drewN ?_ _ | refine blk_drew ?_ | refine blk_alloc ?_ _)); exact BK865.out)) : gb865 ≠ gb866)); have n6_ := z12a ((by rw [hg]; exact Nat.ne_of_gt (blk_lt (g := gb865) (o := .cells #[.int .i64 a0_0, .int .i64 a0_1, .int .i64 a0_2] 71 (0, 0)) (by (with_reducible repeat (first | refine blk_drewN ?_ _ | refine blk_drew ?_ | refine blk_alloc ?_ _)); exact BK865.out)) : gb866 ≠ gb865)); clear BK865; clear HB; have BK865 := n0_; have HB := n1_; have BK866 := n2_; have GW866 := n3_; have GE866 := n4_; have NB865_866 := n5_; have NB866_865 := n6_; clear n0_ n1_ n2_ n3_ n4_ n5_ n6_; clear hb hbox hg; have hnb23 := NB865_866.out; have hnc23 := NB866_865.out; obtain ⟨hcz24_0, hcz24_1, hcz24_2⟩ := cells_3 BK865.out; obtain ⟨hfz24_0, hfz24_1, hfz24_2⟩ := frz_3 BK865.out; obtain ⟨hcz25_0, hcz25_1, hcz25_2⟩ := cells_3 BK866.out; obtain ⟨hfz25_0, hfz25_1, hfz25_2⟩ := frz_3 BK866.out))
  go_ret
  exact ⟨by first | rfl | (simp [errW_none, errW_some] <;> rfl) | (simp [*, errW_none, errW_some] <;> rfl), by repeat (first | (with_reducible first | exact HB.out | apply z12d | apply z12b | apply z12c | refine below_set ?_ GE865.out | refine below_set ?_ GE866.out) | exact HB.out)⟩
end Go.Proofs.Ytkcicbigpbdjpaa.P
end
