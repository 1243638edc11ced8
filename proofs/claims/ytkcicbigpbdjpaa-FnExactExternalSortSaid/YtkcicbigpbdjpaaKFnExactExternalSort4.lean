-- merged by pack.py out of Px19 Px20 (words: printed by the kit's print.sh; what this claim does not use is left out)

import Derived.Test.YtkcicbigpbdjpaaKFnExactExternalSort1
import Derived.Test.YtkcicbigpbdjpaaKFnExactExternalSort2
namespace Go.Proofs.Ytkcicbigpbdjpaa
abbrev zt4 : Bool := true
abbrev zf4 : Bool := false
section
open Go.RowKit Go.Proofs.YtkcicbigpbdjpaaW.PrintWords Go.Proofs.YtkcicbigpbdjpaaW.PrintLast Go.Proofs.YtkcicbigpbdjpaaW.PrintMore
abbrev z4a := @Aside0.mk
abbrev z4b := @pw_below_drewN
abbrev z4c := @below_drew1
abbrev z4d := @World.block_lt_of_cell?
abbrev z4e := @of_decide_eq_true
end
theorem zp4a {α : Type} (l : List α) (i : Nat) (a : α) : l.toArray.setIfInBounds i a = (l.set i a).toArray := List.setIfInBounds_toArray l i a
theorem zp4b {α : Type} (x : α) (l : List α) (a : α) : (x :: l).set 0 a = a :: l := List.set_cons_zero
theorem zp4c {α : Type} (x : α) (l : List α) (n : Nat) (a : α) : (x :: l).set (n + 1) a = x :: l.set n a := List.set_cons_succ
end Go.Proofs.Ytkcicbigpbdjpaa
set_option maxHeartbeats 8000000
set_option maxRecDepth 100000
section
namespace Go.Proofs.Ytkcicbigpbdjpaa.P
open Go.RowKit Go.Proofs.YtkcicbigpbdjpaaW.PrintWords Go.Proofs.YtkcicbigpbdjpaaW.PrintLast Go.Proofs.YtkcicbigpbdjpaaW.PrintMore
attribute [local go_sem] max2_int min2_int max_two min_two max_three min_three max_four min_four
set_option linter.unusedVariables false
set_option linter.unusedSimpArgs false
def y_s.l0 : Nat → List (S71) → Int → Option (Bool)
 | 0, _, _ => none
 | k + 1, x0, x3 => if x3 < (x0.length : Int) then (if 0 ≤ (wrap64 (x3 - 1)) then (if (wrap64 (x3 - 1)) < (x0.length : Int) then (if 0 ≤ x3 then ((y_l.f k ((rd_T71 x0 (wrap64 (x3 - 1))).f0) ((rd_T71 x0 (wrap64 (x3 - 1))).f1) ((rd_T71 x0 (wrap64 (x3 - 1))).f2) ((rd_T71 x0 x3).f0) ((rd_T71 x0 x3).f1) ((rd_T71 x0 x3).f2)).bind fun t546 => (if t546 > 0 then (some false) else (y_s.l0 k x0 (wrap64 (x3 + 1))))) else (none)) else (none)) else (none)) else (some true)
def y_s.f (k : Nat) (l0 : List (S71)) : Option (Bool) := y_s.l0 k l0 1
def y_s.T4 : Bool × List (List Nat × List Nat) := (true, [([], []), ([], []), ([1], [1]), ([0, 2], [0, 2]), ([3], [3]), ([], []), ([], []), ([5, 6], [5, 6]), ([7], [7]), ([4, 8], [4, 8]), ([9], [9])])
def y_s.B4 : List Nat := [0, 0, 2, 7, 15, 0, 0, 96, 224, 511, 1023]
theorem y_s.tab4 : rtab .any (opsOf Try.f52 4) = y_s.T4 := by kernel_rfl
theorem y_s.bits4 : waitsOk y_s.T4.2 y_s.B4 = true := by kernel_rfl
theorem y_s.calls (k : Nat) (A0 : Option Addr) (c0 : Nat) (l0 : List (S71)) (r : Bool) (w : World) (hr0 : Kd.C k71 w A0 l0.length l0) (hc0 : l0.length ≤ c0) (h : y_s.f k l0 = some r) :
  Calls Try.prog 52 #[.slice A0 l0.length c0] w fun e w' => e = .returned (.bool r) ∧ Below w.heap.size w w' := by
 have hu71 := Try.underlying71
 have HR0 := z4a hr0
 have HC0 := z4a hc0
 clear hr0 hc0
 have HB := z4a (Below.refl w.heap.size w)
 have H : (y_s.l0 k l0 1) = some r := h
 clear h
 have H' := z4a H
 clear H
 go_enter Try.func52, Try.ntmps52
 go_wp2
 go_loopg [3] k (fun kq v3 w' => ∃ (x3_1 : Int), v3 = .int .i64 x3_1 ∧ Aside0 (y_s.l0 kq l0 x3_1 = some r) ∧ Aside0 (kq ≤ k) ∧ Aside0 (Below w.heap.size w w'))
 case atStart => exact ⟨(1), (by first | rfl | (simp; done) | (simp [*]; done)), H', ⟨Nat.le_refl _⟩, ⟨by repeat (first | (with_reducible first | exact HB.out | apply below_alloc | apply z4b | apply z4c) | exact HB.out)⟩⟩
 case round =>
  clear H'
  obtain ⟨x3_1, rfl, HA, HK1, HB⟩ := hrel
  cases gk with
  | zero => exact absurd HA.out (by simp [y_s.l0])
  | succ k1 =>
   have H := HA.out
   clear HA
   simp only [y_s.l0] at H
   by_cases c2 : x3_1 < (l0.length : Int)
   ·rw [if_pos c2] at H
    have c2b0 : decide (x3_1 < (l0.length : Int)) = true := decide_eq_true c2
    clear c2
    obtain ⟨ji3, hji3⟩ : ∃ j_ : Int, (wrap64 (x3_1 - 1)) = j_ := ⟨_, rfl⟩
    replace H : (if 0 ≤ (ji3) then (if (ji3) < (l0.length : Int) then (if 0 ≤ x3_1 then ((y_l.f k1 ((rd_T71 l0 (ji3)).f0) ((rd_T71 l0 (ji3)).f1) ((rd_T71 l0 (ji3)).f2) ((rd_T71 l0 x3_1).f0) ((rd_T71 l0 x3_1).f1) ((rd_T71 l0 x3_1).f2)).bind fun t546 => (if t546 > 0 then (some false) else (y_s.l0 k1 l0 (wrap64 (x3_1 + 1))))) else (none)) else (none)) else (none)) = some r := by first | (rw [hji3] at H; exact H) | (simp only [hji3] at H ⊢; exact H)
    have hji3w : (IntKind.i64.wrap (x3_1 - 1)) = ji3 := (i64_w _).trans hji3
    by_cases c4 : 0 ≤ (ji3)
    ·rw [if_pos c4] at H
     have c4b0 : decide (0 ≤ (ji3)) = true := decide_eq_true c4
     clear c4
     by_cases c5 : (ji3) < (l0.length : Int)
     ·rw [if_pos c5] at H
      have c5b0 : decide ((ji3) < (l0.length : Int)) = true := decide_eq_true c5
      clear c5
      by_cases c6 : 0 ≤ x3_1
      ·rw [if_pos c6] at H
       have c6b0 : decide (0 ≤ x3_1) = true := decide_eq_true c6
       clear c6
       replace H := Option.bind_eq_some_iff.mp H
       obtain ⟨t546, A70, H⟩ := H
       have A7 := z4a A70
       clear A70
       by_cases c8 : t546 > 0
       ·rw [if_pos c8] at H
        have c8b0 : decide (0 < t546) = true := decide_eq_true c8
        clear c8
        obtain rfl := Option.some.inj H
        try go_wp2
        have n0_ := z4a (z4c HB.out)
        clear HB
        have HB := n0_
        clear n0_
        have p544 : 0 ≤ ((ji3) : Int) := z4e (by first | (with_reducible assumption) | assumption)
        have q544 : (ji3) < (l0.length : Int) := z4e (by first | (with_reducible assumption) | assumption)
        obtain ⟨ad544, e544, hx544_0, hx544_1, hx544_2⟩ := at_T71 HR0.out (ji3) p544 q544
        have hw544_2 := hx544_2
        have hw544_1 := hx544_1
        have hw544_0 := hx544_0
        cases e544
        replace hx544_0 := (HB.out.cell (z4d w _ hx544_0)).trans hx544_0
        replace hx544_1 := (HB.out.cell (z4d w _ hx544_1)).trans hx544_1
        replace hx544_2 := (HB.out.cell (z4d w _ hx544_2)).trans hx544_2
        replace p544 := eq_true p544
        replace q544 := eq_true q544
        have p545 : 0 ≤ (x3_1 : Int) := z4e (by first | (with_reducible assumption) | assumption)
        have q545 : x3_1 < (l0.length : Int) := z4e (by first | (with_reducible assumption) | assumption)
        obtain ⟨ad545, e545, hx545_0, hx545_1, hx545_2⟩ := at_T71 HR0.out x3_1 p545 q545
        have hw545_2 := hx545_2
        have hw545_1 := hx545_1
        have hw545_0 := hx545_0
        obtain rfl : ad544 = ad545 := (by injection e545)
        replace hx545_0 := (HB.out.cell (z4d w _ hx545_0)).trans hx545_0
        replace hx545_1 := (HB.out.cell (z4d w _ hx545_1)).trans hx545_1
        replace hx545_2 := (HB.out.cell (z4d w _ hx545_2)).trans hx545_2
        replace p545 := eq_true p545
        replace q545 := eq_true q545
        refine start_ (n := 11) (S := fun w' => w'.cell? (ad544.add (((ji3)).toNat * 3)) = some (.int .i64 ((rd_T71 l0 (ji3)).f0)) ∧ w'.cell? ⟨(ad544.add (((ji3)).toNat * 3)).block, (ad544.add (((ji3)).toNat * 3)).off + 1, none⟩ = some (.int .i64 ((rd_T71 l0 (ji3)).f1)) ∧ w'.cell? ⟨(ad544.add (((ji3)).toNat * 3)).block, (ad544.add (((ji3)).toNat * 3)).off + 2, none⟩ = some (.int .i64 ((rd_T71 l0 (ji3)).f2)) ∧ w'.cell? (ad544.add ((x3_1).toNat * 3)) = some (.int .i64 ((rd_T71 l0 x3_1).f0)) ∧ w'.cell? ⟨(ad544.add ((x3_1).toNat * 3)).block, (ad544.add ((x3_1).toNat * 3)).off + 1, none⟩ = some (.int .i64 ((rd_T71 l0 x3_1).f1)) ∧ w'.cell? ⟨(ad544.add ((x3_1).toNat * 3)).block, (ad544.add ((x3_1).toNat * 3)).off + 2, none⟩ = some (.int .i64 ((rd_T71 l0 x3_1).f2))) (ds := []) #[zf4,zf4,zf4,zf4,zf4,zf4,zf4,zf4,zf4,zf4,zf4] (by kernel_rfl) rfl rfl ⟨((HB.out.cell (z4d w _ hw544_0)).trans hw544_0), ((HB.out.cell (z4d w _ hw544_1)).trans hw544_1), ((HB.out.cell (z4d w _ hw544_2)).trans hw544_2), ((HB.out.cell (z4d w _ hw545_0)).trans hw545_0), ((HB.out.cell (z4d w _ hw545_1)).trans hw545_1), ((HB.out.cell (z4d w _ hw545_2)).trans hw545_2)⟩ (fun hHeld => ?_); refine with_tabW y_s.tab4 y_s.bits4 (fun HT_ HW_ => ?_)
        generalize wr.drew = w9 at HB hx544_0 hx544_1 hx544_2 hx545_0 hx545_1 hx545_2 hHeld ⊢
        refine pure_ (i := 0) (N := some 10) (v := ?_) (a' := ?_) #[zt4,zf4,zf4,zf4,zf4,zf4,zf4,zf4,zf4,zf4,zf4] rfl rfl (any_of HT_.out (by kernel_rfl)) (fun _ _ _ h => h) (Or.inl ⟨by rfl, ?_⟩) ?_ ?_
        rotate_left
        ·intro w'
         go_simp
         with_reducible rfl
        rotate_left
        ·simp only [Act.put, zp4a, zp4b, zp4c, i64_w, i32_w]
         rfl
        refine pure_ (i := 1) (N := some 11) (v := ?_) (a' := ?_) #[zt4,zt4,zf4,zf4,zf4,zf4,zf4,zf4,zf4,zf4,zf4] rfl rfl (any_of HT_.out (by kernel_rfl)) (fun _ _ _ h => h) (Or.inl ⟨by rfl, ?_⟩) ?_ ?_
        rotate_left
        ·intro w'
         go_simp
         with_reducible rfl
        rotate_left
        ·simp only [Act.put, zp4a, zp4b, zp4c, i64_w, i32_w]
         rfl
        refine pure_ (i := 2) (N := some 12) (v := ?_) (a' := ?_) #[zt4,zt4,zt4,zf4,zf4,zf4,zf4,zf4,zf4,zf4,zf4] rfl rfl (any_of HT_.out (by kernel_rfl)) (fun _ _ _ h => h) (Or.inl ⟨by rfl, ?_⟩) ?_ ?_
        rotate_left
        ·intro w'
         go_simp
         with_reducible rfl
        rotate_left
        ·simp only [Act.put, zp4a, zp4b, zp4c, i64_w, i32_w]
         rfl
        refine pure_ (i := 3) (N := some 13) (v := ?_) (a' := ?_) #[zt4,zt4,zt4,zt4,zf4,zf4,zf4,zf4,zf4,zf4,zf4] rfl rfl (any_of HT_.out (by kernel_rfl)) (fun _ _ _ h => h) (Or.inl ⟨by rfl, ?_⟩) ?_ ?_
        rotate_left
        ·intro w'
         go_simp
         with_reducible rfl
        rotate_left
        ·simp only [Act.put, zp4a, zp4b, zp4c, i64_w, i32_w]
         rfl
        refine pure_ (i := 5) (N := some 15) (v := ?_) (a' := ?_) #[zt4,zt4,zt4,zt4,zf4,zt4,zf4,zf4,zf4,zf4,zf4] rfl rfl (any_of HT_.out (by kernel_rfl)) (fun _ _ _ h => h) (Or.inl ⟨by rfl, ?_⟩) ?_ ?_
        rotate_left
        ·intro w'
         go_simp
         with_reducible rfl
        rotate_left
        ·simp only [Act.put, zp4a, zp4b, zp4c, i64_w, i32_w]
         rfl
        refine pure_ (i := 6) (N := some 16) (v := ?_) (a' := ?_) #[zt4,zt4,zt4,zt4,zf4,zt4,zt4,zf4,zf4,zf4,zf4] rfl rfl (any_of HT_.out (by kernel_rfl)) (fun _ _ _ h => h) (Or.inl ⟨by rfl, ?_⟩) ?_ ?_
        rotate_left
        ·intro w'
         go_simp
         with_reducible rfl
        rotate_left
        ·simp only [Act.put, zp4a, zp4b, zp4c, i64_w, i32_w]
         rfl
        refine pure_ (i := 7) (N := some 17) (v := ?_) (a' := ?_) #[zt4,zt4,zt4,zt4,zf4,zt4,zt4,zt4,zf4,zf4,zf4] rfl rfl (any_of HT_.out (by kernel_rfl)) (fun _ _ _ h => h) (Or.inl ⟨by rfl, ?_⟩) ?_ ?_
        rotate_left
        ·intro w'
         go_simp
         with_reducible rfl
        rotate_left
        ·simp only [Act.put, zp4a, zp4b, zp4c, i64_w, i32_w]
         rfl
        refine take_ (i := 4) (N := some 14) (v := ?_) (a' := ?_) #[zt4,zt4,zt4,zt4,zt4,zt4,zt4,zt4,zf4,zf4,zf4] rfl rfl (take_ofW HT_.out HW_.out (by kernel_rfl)) (fun _ _ _ h => h) (Or.inl ⟨by rfl, ?_⟩) hHeld ?_ ?_
        rotate_left
        ·rintro w' ⟨s0, s1, s2, s3, s4, s5⟩
         go_simp
         with_reducible rfl
        rotate_left
        ·simp only [Act.put, zp4a, zp4b, zp4c, i64_w, i32_w]
         rfl
        refine take_ (i := 8) (N := some 18) (v := ?_) (a' := ?_) #[zt4,zt4,zt4,zt4,zt4,zt4,zt4,zt4,zt4,zf4,zf4] rfl rfl (take_ofW HT_.out HW_.out (by kernel_rfl)) (fun _ _ _ h => h) (Or.inl ⟨by rfl, ?_⟩) hHeld ?_ ?_
        rotate_left
        ·rintro w' ⟨s0, s1, s2, s3, s4, s5⟩
         go_simp
         with_reducible rfl
        rotate_left
        ·simp only [Act.put, zp4a, zp4b, zp4c, i64_w, i32_w]
         rfl
        refine one_ (i := 9) (N := some 19) #[zt4,zt4,zt4,zt4,zt4,zt4,zt4,zt4,zt4,zt4,zf4] rfl rfl (one_of HT_.out (by kernel_rfl)) (by decide) (fun K hK => ?_)
        refine goes_ Try.func116 (by kernel_rfl) rfl #[.agg #[.int .i64 ((rd_T71 l0 (ji3)).f0), .int .i64 ((rd_T71 l0 (ji3)).f1), .int .i64 ((rd_T71 l0 (ji3)).f2)], .agg #[.int .i64 ((rd_T71 l0 x3_1).f0), .int .i64 ((rd_T71 l0 x3_1).f1), .int .i64 ((rd_T71 l0 x3_1).f2)]] (by rfl) rfl rfl (by (try simp only [List.map_toArray, List.map_cons, List.map_nil]); first | done | (simp only [hji3]; rfl) | rfl | (simp only [List.length_drop, List.length_take]; rfl)) ?_
        with_reducible refine (y_l.calls k1 ((rd_T71 l0 (ji3)).f0) ((rd_T71 l0 (ji3)).f1) ((rd_T71 l0 (ji3)).f2) ((rd_T71 l0 x3_1).f0) ((rd_T71 l0 x3_1).f1) ((rd_T71 l0 x3_1).f2) t546 _ A7.out).mono ?_
        rintro e w10 ⟨rfl, hb⟩
        refine ⟨_, rfl, ?_⟩
        have n0_ := z4a (below_step (by repeat (first | (with_reducible first | exact HB.out | apply below_alloc | apply z4b | apply z4c) | exact HB.out)) hb)
        clear HB
        have HB := n0_
        clear n0_
        (try clear hb)
        (try clear hb2)
        (try clear hk)
        (try clear hi)
        refine hK.out _ _ ⟨((HB.out.cell (z4d w _ hw544_0)).trans hw544_0), ((HB.out.cell (z4d w _ hw544_1)).trans hw544_1), ((HB.out.cell (z4d w _ hw544_2)).trans hw544_2), ((HB.out.cell (z4d w _ hw545_0)).trans hw545_0), ((HB.out.cell (z4d w _ hw545_1)).trans hw545_1), ((HB.out.cell (z4d w _ hw545_2)).trans hw545_2)⟩ (fun hHeld => ?_)
        clear hK K
        refine norm_ (a' := ?_) ?_ ?_
        rotate_left
        ·show Act.put _ (some 19) _ = _
         simp only [Act.put, zp4a, zp4b, zp4c, i64_w, i32_w]
         rfl
        refine pure_ (i := 10) (N := some 20) (v := ?_) (a' := ?_) #[zt4,zt4,zt4,zt4,zt4,zt4,zt4,zt4,zt4,zt4,zt4] rfl rfl (any_of HT_.out (by kernel_rfl)) (fun _ _ _ h => h) (Or.inl ⟨by rfl, ?_⟩) ?_ ?_
        rotate_left
        ·intro w'
         go_simp
         with_reducible rfl
        rotate_left
        ·simp only [Act.put, zp4a, zp4b, zp4c, i64_w, i32_w]
         rfl
        refine done_ (done_of HT_.out (by kernel_rfl)) ?_
        try go_wp2
        go_ret
        exact ⟨by first | rfl | (simp [errW_none, errW_some] <;> rfl) | (simp only [← hji3]; first | rfl | (simp [errW_none, errW_some] <;> rfl)) | (simp [*, errW_none, errW_some] <;> rfl), by repeat (first | (with_reducible first | exact HB.out | apply below_alloc | apply z4b | apply z4c) | exact HB.out)⟩
       ·rw [if_neg c8] at H
        have c8b0 : decide (0 < t546) = false := decide_eq_false c8
        clear c8
        have H' := z4a H
        clear H
        try go_wp2
        have n0_ := z4a (z4c HB.out)
        clear HB
        have HB := n0_
        clear n0_
        have p544 : 0 ≤ ((ji3) : Int) := z4e (by first | (with_reducible assumption) | assumption)
        have q544 : (ji3) < (l0.length : Int) := z4e (by first | (with_reducible assumption) | assumption)
        obtain ⟨ad544, e544, hx544_0, hx544_1, hx544_2⟩ := at_T71 HR0.out (ji3) p544 q544
        have hw544_2 := hx544_2
        have hw544_1 := hx544_1
        have hw544_0 := hx544_0
        cases e544
        replace hx544_0 := (HB.out.cell (z4d w _ hx544_0)).trans hx544_0
        replace hx544_1 := (HB.out.cell (z4d w _ hx544_1)).trans hx544_1
        replace hx544_2 := (HB.out.cell (z4d w _ hx544_2)).trans hx544_2
        replace p544 := eq_true p544
        replace q544 := eq_true q544
        have p545 : 0 ≤ (x3_1 : Int) := z4e (by first | (with_reducible assumption) | assumption)
        have q545 : x3_1 < (l0.length : Int) := z4e (by first | (with_reducible assumption) | assumption)
        obtain ⟨ad545, e545, hx545_0, hx545_1, hx545_2⟩ := at_T71 HR0.out x3_1 p545 q545
        have hw545_2 := hx545_2
        have hw545_1 := hx545_1
        have hw545_0 := hx545_0
        obtain rfl : ad544 = ad545 := (by injection e545)
        replace hx545_0 := (HB.out.cell (z4d w _ hx545_0)).trans hx545_0
        replace hx545_1 := (HB.out.cell (z4d w _ hx545_1)).trans hx545_1
        replace hx545_2 := (HB.out.cell (z4d w _ hx545_2)).trans hx545_2
        replace p545 := eq_true p545
        replace q545 := eq_true q545
        refine start_ (n := 11) (S := fun w' => w'.cell? (ad544.add (((ji3)).toNat * 3)) = some (.int .i64 ((rd_T71 l0 (ji3)).f0)) ∧ w'.cell? ⟨(ad544.add (((ji3)).toNat * 3)).block, (ad544.add (((ji3)).toNat * 3)).off + 1, none⟩ = some (.int .i64 ((rd_T71 l0 (ji3)).f1)) ∧ w'.cell? ⟨(ad544.add (((ji3)).toNat * 3)).block, (ad544.add (((ji3)).toNat * 3)).off + 2, none⟩ = some (.int .i64 ((rd_T71 l0 (ji3)).f2)) ∧ w'.cell? (ad544.add ((x3_1).toNat * 3)) = some (.int .i64 ((rd_T71 l0 x3_1).f0)) ∧ w'.cell? ⟨(ad544.add ((x3_1).toNat * 3)).block, (ad544.add ((x3_1).toNat * 3)).off + 1, none⟩ = some (.int .i64 ((rd_T71 l0 x3_1).f1)) ∧ w'.cell? ⟨(ad544.add ((x3_1).toNat * 3)).block, (ad544.add ((x3_1).toNat * 3)).off + 2, none⟩ = some (.int .i64 ((rd_T71 l0 x3_1).f2))) (ds := []) #[zf4,zf4,zf4,zf4,zf4,zf4,zf4,zf4,zf4,zf4,zf4] (by kernel_rfl) rfl rfl ⟨((HB.out.cell (z4d w _ hw544_0)).trans hw544_0), ((HB.out.cell (z4d w _ hw544_1)).trans hw544_1), ((HB.out.cell (z4d w _ hw544_2)).trans hw544_2), ((HB.out.cell (z4d w _ hw545_0)).trans hw545_0), ((HB.out.cell (z4d w _ hw545_1)).trans hw545_1), ((HB.out.cell (z4d w _ hw545_2)).trans hw545_2)⟩ (fun hHeld => ?_); refine with_tabW y_s.tab4 y_s.bits4 (fun HT_ HW_ => ?_)
        generalize wr.drew = w11 at HB hx544_0 hx544_1 hx544_2 hx545_0 hx545_1 hx545_2 hHeld ⊢
        refine pure_ (i := 0) (N := some 10) (v := ?_) (a' := ?_) #[zt4,zf4,zf4,zf4,zf4,zf4,zf4,zf4,zf4,zf4,zf4] rfl rfl (any_of HT_.out (by kernel_rfl)) (fun _ _ _ h => h) (Or.inl ⟨by rfl, ?_⟩) ?_ ?_
        rotate_left
        ·intro w'
         go_simp
         with_reducible rfl
        rotate_left
        ·simp only [Act.put, zp4a, zp4b, zp4c, i64_w, i32_w]
         rfl
        refine pure_ (i := 1) (N := some 11) (v := ?_) (a' := ?_) #[zt4,zt4,zf4,zf4,zf4,zf4,zf4,zf4,zf4,zf4,zf4] rfl rfl (any_of HT_.out (by kernel_rfl)) (fun _ _ _ h => h) (Or.inl ⟨by rfl, ?_⟩) ?_ ?_
        rotate_left
        ·intro w'
         go_simp
         with_reducible rfl
        rotate_left
        ·simp only [Act.put, zp4a, zp4b, zp4c, i64_w, i32_w]
         rfl
        refine pure_ (i := 2) (N := some 12) (v := ?_) (a' := ?_) #[zt4,zt4,zt4,zf4,zf4,zf4,zf4,zf4,zf4,zf4,zf4] rfl rfl (any_of HT_.out (by kernel_rfl)) (fun _ _ _ h => h) (Or.inl ⟨by rfl, ?_⟩) ?_ ?_
        rotate_left
        ·intro w'
         go_simp
         with_reducible rfl
        rotate_left
        ·simp only [Act.put, zp4a, zp4b, zp4c, i64_w, i32_w]
         rfl
        refine pure_ (i := 3) (N := some 13) (v := ?_) (a' := ?_) #[zt4,zt4,zt4,zt4,zf4,zf4,zf4,zf4,zf4,zf4,zf4] rfl rfl (any_of HT_.out (by kernel_rfl)) (fun _ _ _ h => h) (Or.inl ⟨by rfl, ?_⟩) ?_ ?_
        rotate_left
        ·intro w'
         go_simp
         with_reducible rfl
        rotate_left
        ·simp only [Act.put, zp4a, zp4b, zp4c, i64_w, i32_w]
         rfl
        refine pure_ (i := 5) (N := some 15) (v := ?_) (a' := ?_) #[zt4,zt4,zt4,zt4,zf4,zt4,zf4,zf4,zf4,zf4,zf4] rfl rfl (any_of HT_.out (by kernel_rfl)) (fun _ _ _ h => h) (Or.inl ⟨by rfl, ?_⟩) ?_ ?_
        rotate_left
        ·intro w'
         go_simp
         with_reducible rfl
        rotate_left
        ·simp only [Act.put, zp4a, zp4b, zp4c, i64_w, i32_w]
         rfl
        refine pure_ (i := 6) (N := some 16) (v := ?_) (a' := ?_) #[zt4,zt4,zt4,zt4,zf4,zt4,zt4,zf4,zf4,zf4,zf4] rfl rfl (any_of HT_.out (by kernel_rfl)) (fun _ _ _ h => h) (Or.inl ⟨by rfl, ?_⟩) ?_ ?_
        rotate_left
        ·intro w'
         go_simp
         with_reducible rfl
        rotate_left
        ·simp only [Act.put, zp4a, zp4b, zp4c, i64_w, i32_w]
         rfl
        refine pure_ (i := 7) (N := some 17) (v := ?_) (a' := ?_) #[zt4,zt4,zt4,zt4,zf4,zt4,zt4,zt4,zf4,zf4,zf4] rfl rfl (any_of HT_.out (by kernel_rfl)) (fun _ _ _ h => h) (Or.inl ⟨by rfl, ?_⟩) ?_ ?_
        rotate_left
        ·intro w'
         go_simp
         with_reducible rfl
        rotate_left
        ·simp only [Act.put, zp4a, zp4b, zp4c, i64_w, i32_w]
         rfl
        refine take_ (i := 4) (N := some 14) (v := ?_) (a' := ?_) #[zt4,zt4,zt4,zt4,zt4,zt4,zt4,zt4,zf4,zf4,zf4] rfl rfl (take_ofW HT_.out HW_.out (by kernel_rfl)) (fun _ _ _ h => h) (Or.inl ⟨by rfl, ?_⟩) hHeld ?_ ?_
        rotate_left
        ·rintro w' ⟨s0, s1, s2, s3, s4, s5⟩
         go_simp
         with_reducible rfl
        rotate_left
        ·simp only [Act.put, zp4a, zp4b, zp4c, i64_w, i32_w]
         rfl
        refine take_ (i := 8) (N := some 18) (v := ?_) (a' := ?_) #[zt4,zt4,zt4,zt4,zt4,zt4,zt4,zt4,zt4,zf4,zf4] rfl rfl (take_ofW HT_.out HW_.out (by kernel_rfl)) (fun _ _ _ h => h) (Or.inl ⟨by rfl, ?_⟩) hHeld ?_ ?_
        rotate_left
        ·rintro w' ⟨s0, s1, s2, s3, s4, s5⟩
         go_simp
         with_reducible rfl
        rotate_left
        ·simp only [Act.put, zp4a, zp4b, zp4c, i64_w, i32_w]
         rfl
        refine one_ (i := 9) (N := some 19) #[zt4,zt4,zt4,zt4,zt4,zt4,zt4,zt4,zt4,zt4,zf4] rfl rfl (one_of HT_.out (by kernel_rfl)) (by decide) (fun K hK => ?_)
        refine goes_ Try.func116 (by kernel_rfl) rfl #[.agg #[.int .i64 ((rd_T71 l0 (ji3)).f0), .int .i64 ((rd_T71 l0 (ji3)).f1), .int .i64 ((rd_T71 l0 (ji3)).f2)], .agg #[.int .i64 ((rd_T71 l0 x3_1).f0), .int .i64 ((rd_T71 l0 x3_1).f1), .int .i64 ((rd_T71 l0 x3_1).f2)]] (by rfl) rfl rfl (by (try simp only [List.map_toArray, List.map_cons, List.map_nil]); first | done | (simp only [hji3]; rfl) | rfl | (simp only [List.length_drop, List.length_take]; rfl)) ?_
        with_reducible refine (y_l.calls k1 ((rd_T71 l0 (ji3)).f0) ((rd_T71 l0 (ji3)).f1) ((rd_T71 l0 (ji3)).f2) ((rd_T71 l0 x3_1).f0) ((rd_T71 l0 x3_1).f1) ((rd_T71 l0 x3_1).f2) t546 _ A7.out).mono ?_
        rintro e w12 ⟨rfl, hb⟩
        refine ⟨_, rfl, ?_⟩
        have n0_ := z4a (below_step (by repeat (first | (with_reducible first | exact HB.out | apply below_alloc | apply z4b | apply z4c) | exact HB.out)) hb)
        clear HB
        have HB := n0_
        clear n0_
        (try clear hb)
        (try clear hb2)
        (try clear hk)
        (try clear hi)
        refine hK.out _ _ ⟨((HB.out.cell (z4d w _ hw544_0)).trans hw544_0), ((HB.out.cell (z4d w _ hw544_1)).trans hw544_1), ((HB.out.cell (z4d w _ hw544_2)).trans hw544_2), ((HB.out.cell (z4d w _ hw545_0)).trans hw545_0), ((HB.out.cell (z4d w _ hw545_1)).trans hw545_1), ((HB.out.cell (z4d w _ hw545_2)).trans hw545_2)⟩ (fun hHeld => ?_)
        clear hK K
        refine norm_ (a' := ?_) ?_ ?_
        rotate_left
        ·show Act.put _ (some 19) _ = _
         simp only [Act.put, zp4a, zp4b, zp4c, i64_w, i32_w]
         rfl
        refine pure_ (i := 10) (N := some 20) (v := ?_) (a' := ?_) #[zt4,zt4,zt4,zt4,zt4,zt4,zt4,zt4,zt4,zt4,zt4] rfl rfl (any_of HT_.out (by kernel_rfl)) (fun _ _ _ h => h) (Or.inl ⟨by rfl, ?_⟩) ?_ ?_
        rotate_left
        ·intro w'
         go_simp
         with_reducible rfl
        rotate_left
        ·simp only [Act.put, zp4a, zp4b, zp4c, i64_w, i32_w]
         rfl
        refine done_ (done_of HT_.out (by kernel_rfl)) ?_
        try go_wp2
        go_roundg k1
        case measure => have := HK1.out; omega
        case rel => exact ⟨(wrap64 (x3_1 + 1)), (by first | rfl | (simp; done) | (simp [*]; done)), H', ⟨by have := HK1.out; omega⟩, ⟨by repeat (first | (with_reducible first | exact HB.out | apply below_alloc | apply z4b | apply z4c) | exact HB.out)⟩⟩
      ·rw [if_neg c6] at H
       exact absurd H (by simp)
     ·rw [if_neg c5] at H
      exact absurd H (by simp)
    ·rw [if_neg c4] at H
     exact absurd H (by simp)
   ·rw [if_neg c2] at H
    have c2b0 : decide (x3_1 < (l0.length : Int)) = false := decide_eq_false c2
    clear c2
    obtain rfl := Option.some.inj H
    go_wp2
    go_ret
    exact ⟨by first | rfl | (simp [errW_none, errW_some] <;> rfl) | (simp [*, errW_none, errW_some] <;> rfl), by repeat (first | (with_reducible first | exact HB.out | apply below_alloc | apply z4b | apply z4c) | exact HB.out)⟩
def y_bb.l0 : Nat → List (S39) → Int → Option (Bool)
 | 0, _, _ => none
 | k + 1, x0, x3 => if x3 < (x0.length : Int) then (if 0 ≤ x3 then (if (((rd_T39 x0 x3).f0).length : Int) = 0 then (some false) else ((y_s.f k ((rd_T39 x0 x3).f0)).bind fun t549 => (if t549 = true then ((y_z.f k ((rd_T39 x0 x3).f0)).bind fun t551 => (if t551 = true then (y_bb.l0 k x0 (wrap64 (x3 + 1))) else (some false))) else (some false)))) else (none)) else (some true)
def y_bb.f (k : Nat) (l0 : List (S39)) : Option (Bool) := y_bb.l0 k l0 0
theorem y_bb.calls (k : Nat) (A0 : Option Addr) (c0 : Nat) (l0 : List (S39)) (r : Bool) (w : World) (hr0 : Kd.C k39 w A0 l0.length l0) (hc0 : l0.length ≤ c0) (h : y_bb.f k l0 = some r) :
  Calls Try.prog 23 #[.slice A0 l0.length c0] w fun e w' => e = .returned (.bool r) ∧ Below w.heap.size w w' := by
 have HR0 := z4a hr0
 have HC0 := z4a hc0
 clear hr0 hc0
 have HB := z4a (Below.refl w.heap.size w)
 have H : (y_bb.l0 k l0 0) = some r := h
 clear h
 have H' := z4a H
 clear H
 go_enter Try.func23, Try.ntmps23
 go_wp2
 go_loopg [3] k (fun kq v3 w' => ∃ (x3_1 : Int), v3 = .int .i64 x3_1 ∧ Aside0 (y_bb.l0 kq l0 x3_1 = some r) ∧ Aside0 (kq ≤ k) ∧ Aside0 (Below w.heap.size w w'))
 case atStart => exact ⟨(0), (by first | rfl | (simp; done) | (simp [*]; done)), H', ⟨Nat.le_refl _⟩, ⟨by repeat (first | (with_reducible first | exact HB.out | apply below_alloc | apply z4b | apply z4c) | exact HB.out)⟩⟩
 case round =>
  clear H'
  obtain ⟨x3_1, rfl, HA, HK1, HB⟩ := hrel
  cases gk with
  | zero => exact absurd HA.out (by simp [y_bb.l0])
  | succ k1 =>
   have H := HA.out
   clear HA
   simp only [y_bb.l0] at H
   by_cases c2 : x3_1 < (l0.length : Int)
   ·rw [if_pos c2] at H
    have c2b0 : decide (x3_1 < (l0.length : Int)) = true := decide_eq_true c2
    clear c2
    by_cases c3 : 0 ≤ x3_1
    ·rw [if_pos c3] at H
     have c3b0 : decide (0 ≤ x3_1) = true := decide_eq_true c3
     clear c3
     by_cases c4 : (((rd_T39 l0 x3_1).f0).length : Int) = 0
     ·rw [if_pos c4] at H
      have c4b0 : ((((rd_T39 l0 x3_1).f0).length : Int) == 0) = true := beq_iff_eq.mpr c4
      have c4b1 : ((((rd_T39 l0 x3_1).f0).length : Int) != 0) = false := bne_eq_false_iff_eq.mpr c4
      clear c4
      obtain rfl := Option.some.inj H
      have p547 : 0 ≤ (x3_1 : Int) := z4e (by first | (with_reducible assumption) | assumption)
      have q547 : x3_1 < (l0.length : Int) := z4e (by first | (with_reducible assumption) | assumption)
      obtain ⟨ad547, A547_0, c547_0, e547, hx547_0, hl547_0, hi547_0⟩ := at_T39 HR0.out x3_1 p547 q547
      cases e547
      replace hx547_0 := (HB.out.cell (z4d w _ hx547_0)).trans hx547_0
      have HR547_0 := z4a hi547_0
      have HC547_0 := z4a hl547_0
      clear hi547_0 hl547_0
      replace p547 := eq_true p547
      replace q547 := eq_true q547
      go_wp2
      go_ret
      exact ⟨by first | rfl | (simp [errW_none, errW_some] <;> rfl) | (simp [*, errW_none, errW_some] <;> rfl), by repeat (first | (with_reducible first | exact HB.out | apply below_alloc | apply z4b | apply z4c) | exact HB.out)⟩
     ·rw [if_neg c4] at H
      have c4b0 : ((((rd_T39 l0 x3_1).f0).length : Int) == 0) = false := beq_eq_false_iff_ne.mpr c4
      have c4b1 : ((((rd_T39 l0 x3_1).f0).length : Int) != 0) = true := bne_iff_ne.mpr c4
      have c4b2 : ¬ (((rd_T39 l0 x3_1).f0) = []) := fun h_ => c4 (by rw [h_]; rfl)
      replace H := Option.bind_eq_some_iff.mp H
      obtain ⟨t549, A50, H⟩ := H
      have A5 := z4a A50
      clear A50
      by_cases c6 : t549 = true
      ·subst c6
       rw [if_pos rfl] at H
       replace H := Option.bind_eq_some_iff.mp H
       obtain ⟨t551, A70, H⟩ := H
       have A7 := z4a A70
       clear A70
       by_cases c8 : t551 = true
       ·subst c8
        rw [if_pos rfl] at H
        have H' := z4a H
        clear H
        have p547 : 0 ≤ (x3_1 : Int) := z4e (by first | (with_reducible assumption) | assumption)
        have q547 : x3_1 < (l0.length : Int) := z4e (by first | (with_reducible assumption) | assumption)
        obtain ⟨ad547, A547_0, c547_0, e547, hx547_0, hl547_0, hi547_0⟩ := at_T39 HR0.out x3_1 p547 q547
        cases e547
        replace hx547_0 := (HB.out.cell (z4d w _ hx547_0)).trans hx547_0
        have HR547_0 := z4a hi547_0
        have HC547_0 := z4a hl547_0
        clear hi547_0 hl547_0
        replace p547 := eq_true p547
        replace q547 := eq_true q547
        have p548 : 0 ≤ (x3_1 : Int) := z4e (by first | (with_reducible assumption) | assumption)
        have q548 : x3_1 < (l0.length : Int) := z4e (by first | (with_reducible assumption) | assumption)
        obtain ⟨ad548, A548_0, c548_0, e548, hx548_0, hl548_0, hi548_0⟩ := at_T39 HR0.out x3_1 p548 q548
        obtain rfl : ad547 = ad548 := (by injection e548)
        replace hx548_0 := (HB.out.cell (z4d w _ hx548_0)).trans hx548_0
        have HR548_0 := z4a hi548_0
        have HC548_0 := z4a hl548_0
        clear hi548_0 hl548_0
        replace p548 := eq_true p548
        replace q548 := eq_true q548
        have ea_ := Option.some.inj (hx547_0.symm.trans hx548_0)
        injection ea_ with ea_ en_ ec_
        subst ea_
        subst ec_
        clear en_
        go_wp2_with (first | (go_at_call 52; (with_reducible refine (y_s.calls k1 _ _ ((rd_T39 l0 x3_1).f0) true _ ?side1 ?side2 A5.out).mono ?_); (case side1 => repeat (first | exact (Kd.C_below HR548_0.out HB.out) | (with_reducible refine Kd.C_alloc ?_ _) | (with_reducible refine Kd.C_drewN ?_ _) | (with_reducible refine Kd.C_drew ?_))); (case side2 => exact HC548_0.out); rintro e w9 ⟨rfl, hb⟩; have n0_ := z4a (below_step (by repeat (first | (with_reducible first | exact HB.out | apply below_alloc | apply z4b | apply z4c) | exact HB.out)) hb); clear HB; have HB := n0_; clear n0_; (try clear hb); (try clear hb2); (try clear hk); (try clear hi); have p550 : 0 ≤ (x3_1 : Int) := z4e (by first | (with_reducible assumption) | assumption); have q550 : x3_1 < (l0.length : Int) := z4e (by first | (with_reducible assumption) | assumption); obtain ⟨ad550, A550_0, c550_0, e550, hx550_0, hl550_0, hi550_0⟩ := at_T39 HR0.out x3_1 p550 q550; obtain rfl : ad547 = ad550 := (by injection e550); replace hx550_0 := (HB.out.cell (z4d w _ hx550_0)).trans hx550_0; have HR550_0 := z4a hi550_0; have HC550_0 := z4a hl550_0; clear hi550_0 hl550_0; replace p550 := eq_true p550; replace q550 := eq_true q550) | (go_at_call 93; (with_reducible refine (y_z.calls k1 _ _ ((rd_T39 l0 x3_1).f0) true _ ?side1 ?side2 A7.out).mono ?_); (case side1 => repeat (first | exact (Kd.C_below HR550_0.out HB.out) | (with_reducible refine Kd.C_alloc ?_ _) | (with_reducible refine Kd.C_drewN ?_ _) | (with_reducible refine Kd.C_drew ?_))); (case side2 => exact HC550_0.out); rintro e w10 ⟨rfl, hb⟩; have n0_ := z4a (below_step (by repeat (first | (with_reducible first | exact HB.out | apply below_alloc | apply z4b | apply z4c) | exact HB.out)) hb); clear HB; have HB := n0_; clear n0_; (try clear hb); (try clear hb2); (try clear hk); (try clear hi)))
        go_roundg k1
        case measure => have := HK1.out; omega
        case rel => exact ⟨(wrap64 (x3_1 + 1)), (by first | rfl | (simp; done) | (simp [*]; done)), H', ⟨by have := HK1.out; omega⟩, ⟨by repeat (first | (with_reducible first | exact HB.out | apply below_alloc | apply z4b | apply z4c) | exact HB.out)⟩⟩
       ·replace c8 := Bool.eq_false_iff.mpr c8
        subst c8
        have H1 : (some false) = some r := by rw [if_neg (show ¬ (false = true) by decide)] at H; exact H
        clear H
        have H := H1
        clear H1
        obtain rfl := Option.some.inj H
        have p547 : 0 ≤ (x3_1 : Int) := z4e (by first | (with_reducible assumption) | assumption)
        have q547 : x3_1 < (l0.length : Int) := z4e (by first | (with_reducible assumption) | assumption)
        obtain ⟨ad547, A547_0, c547_0, e547, hx547_0, hl547_0, hi547_0⟩ := at_T39 HR0.out x3_1 p547 q547
        cases e547
        replace hx547_0 := (HB.out.cell (z4d w _ hx547_0)).trans hx547_0
        have HR547_0 := z4a hi547_0
        have HC547_0 := z4a hl547_0
        clear hi547_0 hl547_0
        replace p547 := eq_true p547
        replace q547 := eq_true q547
        have p548 : 0 ≤ (x3_1 : Int) := z4e (by first | (with_reducible assumption) | assumption)
        have q548 : x3_1 < (l0.length : Int) := z4e (by first | (with_reducible assumption) | assumption)
        obtain ⟨ad548, A548_0, c548_0, e548, hx548_0, hl548_0, hi548_0⟩ := at_T39 HR0.out x3_1 p548 q548
        obtain rfl : ad547 = ad548 := (by injection e548)
        replace hx548_0 := (HB.out.cell (z4d w _ hx548_0)).trans hx548_0
        have HR548_0 := z4a hi548_0
        have HC548_0 := z4a hl548_0
        clear hi548_0 hl548_0
        replace p548 := eq_true p548
        replace q548 := eq_true q548
        have ea_ := Option.some.inj (hx547_0.symm.trans hx548_0)
        injection ea_ with ea_ en_ ec_
        subst ea_
        subst ec_
        clear en_
        go_wp2_with (first | (go_at_call 52; (with_reducible refine (y_s.calls k1 _ _ ((rd_T39 l0 x3_1).f0) true _ ?side1 ?side2 A5.out).mono ?_); (case side1 => repeat (first | exact (Kd.C_below HR548_0.out HB.out) | (with_reducible refine Kd.C_alloc ?_ _) | (with_reducible refine Kd.C_drewN ?_ _) | (with_reducible refine Kd.C_drew ?_))); (case side2 => exact HC548_0.out); rintro e w11 ⟨rfl, hb⟩; have n0_ := z4a (below_step (by repeat (first | (with_reducible first | exact HB.out | apply below_alloc | apply z4b | apply z4c) | exact HB.out)) hb); clear HB; have HB := n0_; clear n0_; (try clear hb); (try clear hb2); (try clear hk); (try clear hi); have p550 : 0 ≤ (x3_1 : Int) := z4e (by first | (with_reducible assumption) | assumption); have q550 : x3_1 < (l0.length : Int) := z4e (by first | (with_reducible assumption) | assumption); obtain ⟨ad550, A550_0, c550_0, e550, hx550_0, hl550_0, hi550_0⟩ := at_T39 HR0.out x3_1 p550 q550; obtain rfl : ad547 = ad550 := (by injection e550); replace hx550_0 := (HB.out.cell (z4d w _ hx550_0)).trans hx550_0; have HR550_0 := z4a hi550_0; have HC550_0 := z4a hl550_0; clear hi550_0 hl550_0; replace p550 := eq_true p550; replace q550 := eq_true q550) | (go_at_call 93; (with_reducible refine (y_z.calls k1 _ _ ((rd_T39 l0 x3_1).f0) false _ ?side1 ?side2 A7.out).mono ?_); (case side1 => repeat (first | exact (Kd.C_below HR550_0.out HB.out) | (with_reducible refine Kd.C_alloc ?_ _) | (with_reducible refine Kd.C_drewN ?_ _) | (with_reducible refine Kd.C_drew ?_))); (case side2 => exact HC550_0.out); rintro e w12 ⟨rfl, hb⟩; have n0_ := z4a (below_step (by repeat (first | (with_reducible first | exact HB.out | apply below_alloc | apply z4b | apply z4c) | exact HB.out)) hb); clear HB; have HB := n0_; clear n0_; (try clear hb); (try clear hb2); (try clear hk); (try clear hi)))
        go_ret
        exact ⟨by first | rfl | (simp [errW_none, errW_some] <;> rfl) | (simp [*, errW_none, errW_some] <;> rfl), by repeat (first | (with_reducible first | exact HB.out | apply below_alloc | apply z4b | apply z4c) | exact HB.out)⟩
      ·replace c6 := Bool.eq_false_iff.mpr c6
       subst c6
       have H1 : (some false) = some r := by rw [if_neg (show ¬ (false = true) by decide)] at H; exact H
       clear H
       have H := H1
       clear H1
       obtain rfl := Option.some.inj H
       have p547 : 0 ≤ (x3_1 : Int) := z4e (by first | (with_reducible assumption) | assumption)
       have q547 : x3_1 < (l0.length : Int) := z4e (by first | (with_reducible assumption) | assumption)
       obtain ⟨ad547, A547_0, c547_0, e547, hx547_0, hl547_0, hi547_0⟩ := at_T39 HR0.out x3_1 p547 q547
       cases e547
       replace hx547_0 := (HB.out.cell (z4d w _ hx547_0)).trans hx547_0
       have HR547_0 := z4a hi547_0
       have HC547_0 := z4a hl547_0
       clear hi547_0 hl547_0
       replace p547 := eq_true p547
       replace q547 := eq_true q547
       have p548 : 0 ≤ (x3_1 : Int) := z4e (by first | (with_reducible assumption) | assumption)
       have q548 : x3_1 < (l0.length : Int) := z4e (by first | (with_reducible assumption) | assumption)
       obtain ⟨ad548, A548_0, c548_0, e548, hx548_0, hl548_0, hi548_0⟩ := at_T39 HR0.out x3_1 p548 q548
       obtain rfl : ad547 = ad548 := (by injection e548)
       replace hx548_0 := (HB.out.cell (z4d w _ hx548_0)).trans hx548_0
       have HR548_0 := z4a hi548_0
       have HC548_0 := z4a hl548_0
       clear hi548_0 hl548_0
       replace p548 := eq_true p548
       replace q548 := eq_true q548
       have ea_ := Option.some.inj (hx547_0.symm.trans hx548_0)
       injection ea_ with ea_ en_ ec_
       subst ea_
       subst ec_
       clear en_
       go_wp2_with (first | (go_at_call 52; (with_reducible refine (y_s.calls k1 _ _ ((rd_T39 l0 x3_1).f0) false _ ?side1 ?side2 A5.out).mono ?_); (case side1 => repeat (first | exact (Kd.C_below HR548_0.out HB.out) | (with_reducible refine Kd.C_alloc ?_ _) | (with_reducible refine Kd.C_drewN ?_ _) | (with_reducible refine Kd.C_drew ?_))); (case side2 => exact HC548_0.out); rintro e w13 ⟨rfl, hb⟩; have n0_ := z4a (below_step (by repeat (first | (with_reducible first | exact HB.out | apply below_alloc | apply z4b | apply z4c) | exact HB.out)) hb); clear HB; have HB := n0_; clear n0_; (try clear hb); (try clear hb2); (try clear hk); (try clear hi)))
       go_ret
       exact ⟨by first | rfl | (simp [errW_none, errW_some] <;> rfl) | (simp [*, errW_none, errW_some] <;> rfl), by repeat (first | (with_reducible first | exact HB.out | apply below_alloc | apply z4b | apply z4c) | exact HB.out)⟩
    ·rw [if_neg c3] at H
     exact absurd H (by simp)
   ·rw [if_neg c2] at H
    have c2b0 : decide (x3_1 < (l0.length : Int)) = false := decide_eq_false c2
    clear c2
    obtain rfl := Option.some.inj H
    go_wp2
    go_ret
    exact ⟨by first | rfl | (simp [errW_none, errW_some] <;> rfl) | (simp [*, errW_none, errW_some] <;> rfl), by repeat (first | (with_reducible first | exact HB.out | apply below_alloc | apply z4b | apply z4c) | exact HB.out)⟩
end Go.Proofs.Ytkcicbigpbdjpaa.P
end
