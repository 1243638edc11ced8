-- merged by pack.py out of Px17 Px18 Px1 Px26 (words: printed by the kit's print.sh; what this claim does not use is left out)

import Derived.Test.YtkcicbigpbdjpaaKFnExactExternalSort1
import Derived.Test.YtkcicbigpbdjpaaKFnExactExternalSort2
import Derived.Test.YtkcicbigpbdjpaaKFnExactExternalSort6
import Derived.Test.YtkcicbigpbdjpaaKFnExactExternalSort7
namespace Go.Proofs.Ytkcicbigpbdjpaa
abbrev zt10 : Bool := true
abbrev zf10 : Bool := false
section
open Go.RowKit Go.Proofs.YtkcicbigpbdjpaaW.PrintWords Go.Proofs.YtkcicbigpbdjpaaW.PrintLast Go.Proofs.YtkcicbigpbdjpaaW.PrintMore
abbrev z10a := @Aside0.mk
abbrev z10b := @pw_below_drewN
abbrev z10c := @below_drew1
abbrev z10d := @below_alloc
abbrev z10e := @World.block_lt_of_cell?
abbrev z10f := @of_decide_eq_true
end
theorem zp10a {α : Type} (l : List α) (i : Nat) (a : α) : l.toArray.setIfInBounds i a = (l.set i a).toArray := List.setIfInBounds_toArray l i a
theorem zp10b {α : Type} (x : α) (l : List α) (a : α) : (x :: l).set 0 a = a :: l := List.set_cons_zero
theorem zp10c {α : Type} (x : α) (l : List α) (n : Nat) (a : α) : (x :: l).set (n + 1) a = x :: l.set n a := List.set_cons_succ
end Go.Proofs.Ytkcicbigpbdjpaa
set_option maxHeartbeats 8000000
set_option maxRecDepth 100000
section
namespace Go.Proofs.Ytkcicbigpbdjpaa.P
open Go.RowKit Go.Proofs.YtkcicbigpbdjpaaW.PrintWords Go.Proofs.YtkcicbigpbdjpaaW.PrintLast Go.Proofs.YtkcicbigpbdjpaaW.PrintMore
attribute [local go_sem] max2_int min2_int max_two min_two max_three min_three max_four min_four
set_option linter.unusedVariables false
set_option linter.unusedSimpArgs false
def y_j.l0 : Nat → List (S71) → Int → Option (Bool)
 | 0, _, _ => none
 | k + 1, x0, x3 => if x3 < (x0.length : Int) then (if 0 ≤ x3 then (if 0 ≤ (wrap64 (x3 - 1)) then (if (wrap64 (x3 - 1)) < (x0.length : Int) then ((y_eb.f ((rd_T71 x0 x3).f0) ((rd_T71 x0 x3).f1) ((rd_T71 x0 x3).f2) ((rd_T71 x0 (wrap64 (x3 - 1))).f0) ((rd_T71 x0 (wrap64 (x3 - 1))).f1) ((rd_T71 x0 (wrap64 (x3 - 1))).f2)).bind fun t539 => (if t539 < 0 then (some false) else (y_j.l0 k x0 (wrap64 (x3 + 1))))) else (none)) else (none)) else (none)) else (some true)
def y_j.f (k : Nat) (l0 : List (S71)) : Option (Bool) := y_j.l0 k l0 1
theorem y_j.mono_l : ∀ k, (∀ y0 y1, LeO (y_j.l0 k y0 y1) (y_j.l0 (k + 1) y0 y1))
 | 0 => fun _ _ r h => by simp [y_j.l0] at h
 | k + 1 => by
  have ih0 := y_j.mono_l k
  ·intro y0 y1
   unfold y_j.l0
   repeat' first
   | (with_reducible exact ih0 _ _)
   | (with_reducible exact LeO.refl _)
   | (with_reducible exact LeO.none _)
   | (with_reducible refine LeO.ite ?_ ?_)
   | (with_reducible refine LeO.bind ?_ (fun _ => ?_))
   | exact ih0 _ _
   | exact LeO.none _
   | refine LeO.ite ?_ ?_
   | refine LeO.bind ?_ (fun _ => ?_)
theorem y_j.mono : ∀ a0 k, LeO (y_j.f k a0) (y_j.f (k + 1) a0) := by
 intro a0 k
 have ih0 := y_j.mono_l k
 unfold y_j.f
 repeat' first
   | (with_reducible exact ih0 _ _)
   | (with_reducible exact LeO.refl _)
   | (with_reducible exact LeO.none _)
   | (with_reducible refine LeO.ite ?_ ?_)
   | (with_reducible refine LeO.bind ?_ (fun _ => ?_))
   | exact ih0 _ _
   | exact LeO.none _
   | refine LeO.ite ?_ ?_
   | refine LeO.bind ?_ (fun _ => ?_)
def y_j.T4 : Bool × List (List Nat × List Nat) := (true, [([], []), ([], []), ([0, 1], [0, 1]), ([2], [2]), ([], []), ([], []), ([5], [5]), ([4, 6], [4, 6]), ([7], [7]), ([3, 8], [3, 8]), ([9], [9])])
def y_j.B4 : List Nat := [0, 0, 3, 7, 0, 0, 32, 112, 240, 511, 1023]
theorem y_j.tab4 : rtab .any (opsOf Try.f53 4) = y_j.T4 := by kernel_rfl
theorem y_j.bits4 : waitsOk y_j.T4.2 y_j.B4 = true := by kernel_rfl
theorem y_j.calls (k : Nat) (A0 : Option Addr) (c0 : Nat) (l0 : List (S71)) (r : Bool) (w : World) (hr0 : Kd.C k71 w A0 l0.length l0) (hc0 : l0.length ≤ c0) (h : y_j.f k l0 = some r) :
  Calls Try.prog 53 #[.slice A0 l0.length c0] w fun e w' => e = .returned (.bool r) ∧ Below w.heap.size w w' := by
 have hu71 := Try.underlying71
 have HR0 := z10a hr0
 have HC0 := z10a hc0
 clear hr0 hc0
 have HB := z10a (Below.refl w.heap.size w)
 have H : (y_j.l0 k l0 1) = some r := h
 clear h
 have H' := z10a H
 clear H
 go_enter Try.func53, Try.ntmps53
 go_wp2
 go_loopg [3] k (fun kq v3 w' => ∃ (x3_1 : Int), v3 = .int .i64 x3_1 ∧ Aside0 (y_j.l0 kq l0 x3_1 = some r) ∧ Aside0 (kq ≤ k) ∧ Aside0 (Below w.heap.size w w'))
 case atStart => exact ⟨(1), (by first | rfl | (simp; done) | (simp [*]; done)), H', ⟨Nat.le_refl _⟩, ⟨by repeat (first | (with_reducible first | exact HB.out | apply z10d | apply z10b | apply z10c) | exact HB.out)⟩⟩
 case round =>
  clear H'
  obtain ⟨x3_1, rfl, HA, HK1, HB⟩ := hrel
  cases gk with
  | zero => exact absurd HA.out (by simp [y_j.l0])
  | succ k1 =>
   have H := HA.out
   clear HA
   simp only [y_j.l0] at H
   by_cases c2 : x3_1 < (l0.length : Int)
   ·rw [if_pos c2] at H
    have c2b0 : decide (x3_1 < (l0.length : Int)) = true := decide_eq_true c2
    clear c2
    by_cases c3 : 0 ≤ x3_1
    ·rw [if_pos c3] at H
     have c3b0 : decide (0 ≤ x3_1) = true := decide_eq_true c3
     clear c3
     obtain ⟨ji4, hji4⟩ : ∃ j_ : Int, (wrap64 (x3_1 - 1)) = j_ := ⟨_, rfl⟩
     replace H : (if 0 ≤ (ji4) then (if (ji4) < (l0.length : Int) then ((y_eb.f ((rd_T71 l0 x3_1).f0) ((rd_T71 l0 x3_1).f1) ((rd_T71 l0 x3_1).f2) ((rd_T71 l0 (ji4)).f0) ((rd_T71 l0 (ji4)).f1) ((rd_T71 l0 (ji4)).f2)).bind fun t539 => (if t539 < 0 then (some false) else (y_j.l0 k1 l0 (wrap64 (x3_1 + 1))))) else (none)) else (none)) = some r := by first | (rw [hji4] at H; exact H) | (simp only [hji4] at H ⊢; exact H)
     have hji4w : (IntKind.i64.wrap (x3_1 - 1)) = ji4 := (i64_w _).trans hji4
     by_cases c5 : 0 ≤ (ji4)
     ·rw [if_pos c5] at H
      have c5b0 : decide (0 ≤ (ji4)) = true := decide_eq_true c5
      clear c5
      by_cases c6 : (ji4) < (l0.length : Int)
      ·rw [if_pos c6] at H
       have c6b0 : decide ((ji4) < (l0.length : Int)) = true := decide_eq_true c6
       clear c6
       replace H := Option.bind_eq_some_iff.mp H
       obtain ⟨t539, A70, H⟩ := H
       have A7 := z10a A70
       clear A70
       by_cases c8 : t539 < 0
       ·rw [if_pos c8] at H
        have c8b0 : decide (t539 < 0) = true := decide_eq_true c8
        clear c8
        obtain rfl := Option.some.inj H
        try go_wp2
        have n0_ := z10a (z10c HB.out)
        clear HB
        have HB := n0_
        clear n0_
        have p537 : 0 ≤ (x3_1 : Int) := z10f (by first | (with_reducible assumption) | assumption)
        have q537 : x3_1 < (l0.length : Int) := z10f (by first | (with_reducible assumption) | assumption)
        obtain ⟨ad537, e537, hx537_0, hx537_1, hx537_2⟩ := at_T71 HR0.out x3_1 p537 q537
        have hw537_2 := hx537_2
        have hw537_1 := hx537_1
        have hw537_0 := hx537_0
        cases e537
        replace hx537_0 := (HB.out.cell (z10e w _ hx537_0)).trans hx537_0
        replace hx537_1 := (HB.out.cell (z10e w _ hx537_1)).trans hx537_1
        replace hx537_2 := (HB.out.cell (z10e w _ hx537_2)).trans hx537_2
        replace p537 := eq_true p537
        replace q537 := eq_true q537
        have p538 : 0 ≤ ((ji4) : Int) := z10f (by first | (with_reducible assumption) | assumption)
        have q538 : (ji4) < (l0.length : Int) := z10f (by first | (with_reducible assumption) | assumption)
        obtain ⟨ad538, e538, hx538_0, hx538_1, hx538_2⟩ := at_T71 HR0.out (ji4) p538 q538
        have hw538_2 := hx538_2
        have hw538_1 := hx538_1
        have hw538_0 := hx538_0
        obtain rfl : ad537 = ad538 := (by injection e538)
        replace hx538_0 := (HB.out.cell (z10e w _ hx538_0)).trans hx538_0
        replace hx538_1 := (HB.out.cell (z10e w _ hx538_1)).trans hx538_1
        replace hx538_2 := (HB.out.cell (z10e w _ hx538_2)).trans hx538_2
        replace p538 := eq_true p538
        replace q538 := eq_true q538
        refine start_ (n := 11) (S := fun w' => w'.cell? (ad537.add ((x3_1).toNat * 3)) = some (.int .i64 ((rd_T71 l0 x3_1).f0)) ∧ w'.cell? ⟨(ad537.add ((x3_1).toNat * 3)).block, (ad537.add ((x3_1).toNat * 3)).off + 1, none⟩ = some (.int .i64 ((rd_T71 l0 x3_1).f1)) ∧ w'.cell? ⟨(ad537.add ((x3_1).toNat * 3)).block, (ad537.add ((x3_1).toNat * 3)).off + 2, none⟩ = some (.int .i64 ((rd_T71 l0 x3_1).f2)) ∧ w'.cell? (ad537.add (((ji4)).toNat * 3)) = some (.int .i64 ((rd_T71 l0 (ji4)).f0)) ∧ w'.cell? ⟨(ad537.add (((ji4)).toNat * 3)).block, (ad537.add (((ji4)).toNat * 3)).off + 1, none⟩ = some (.int .i64 ((rd_T71 l0 (ji4)).f1)) ∧ w'.cell? ⟨(ad537.add (((ji4)).toNat * 3)).block, (ad537.add (((ji4)).toNat * 3)).off + 2, none⟩ = some (.int .i64 ((rd_T71 l0 (ji4)).f2))) (ds := []) #[zf10,zf10,zf10,zf10,zf10,zf10,zf10,zf10,zf10,zf10,zf10] (by kernel_rfl) rfl rfl ⟨((HB.out.cell (z10e w _ hw537_0)).trans hw537_0), ((HB.out.cell (z10e w _ hw537_1)).trans hw537_1), ((HB.out.cell (z10e w _ hw537_2)).trans hw537_2), ((HB.out.cell (z10e w _ hw538_0)).trans hw538_0), ((HB.out.cell (z10e w _ hw538_1)).trans hw538_1), ((HB.out.cell (z10e w _ hw538_2)).trans hw538_2)⟩ (fun hHeld => ?_); refine with_tabW y_j.tab4 y_j.bits4 (fun HT_ HW_ => ?_)
        generalize wr.drew = w9 at HB hx537_0 hx537_1 hx537_2 hx538_0 hx538_1 hx538_2 hHeld ⊢
        refine pure_ (i := 0) (N := some 10) (v := ?_) (a' := ?_) #[zt10,zf10,zf10,zf10,zf10,zf10,zf10,zf10,zf10,zf10,zf10] rfl rfl (any_of HT_.out (by kernel_rfl)) (fun _ _ _ h => h) (Or.inl ⟨by rfl, ?_⟩) ?_ ?_
        rotate_left
        ·intro w'
         go_simp
         with_reducible rfl
        rotate_left
        ·simp only [Act.put, zp10a, zp10b, zp10c, i64_w, i32_w]
         rfl
        refine pure_ (i := 1) (N := some 11) (v := ?_) (a' := ?_) #[zt10,zt10,zf10,zf10,zf10,zf10,zf10,zf10,zf10,zf10,zf10] rfl rfl (any_of HT_.out (by kernel_rfl)) (fun _ _ _ h => h) (Or.inl ⟨by rfl, ?_⟩) ?_ ?_
        rotate_left
        ·intro w'
         go_simp
         with_reducible rfl
        rotate_left
        ·simp only [Act.put, zp10a, zp10b, zp10c, i64_w, i32_w]
         rfl
        refine pure_ (i := 2) (N := some 12) (v := ?_) (a' := ?_) #[zt10,zt10,zt10,zf10,zf10,zf10,zf10,zf10,zf10,zf10,zf10] rfl rfl (any_of HT_.out (by kernel_rfl)) (fun _ _ _ h => h) (Or.inl ⟨by rfl, ?_⟩) ?_ ?_
        rotate_left
        ·intro w'
         go_simp
         with_reducible rfl
        rotate_left
        ·simp only [Act.put, zp10a, zp10b, zp10c, i64_w, i32_w]
         rfl
        refine pure_ (i := 4) (N := some 14) (v := ?_) (a' := ?_) #[zt10,zt10,zt10,zf10,zt10,zf10,zf10,zf10,zf10,zf10,zf10] rfl rfl (any_of HT_.out (by kernel_rfl)) (fun _ _ _ h => h) (Or.inl ⟨by rfl, ?_⟩) ?_ ?_
        rotate_left
        ·intro w'
         go_simp
         with_reducible rfl
        rotate_left
        ·simp only [Act.put, zp10a, zp10b, zp10c, i64_w, i32_w]
         rfl
        refine pure_ (i := 5) (N := some 15) (v := ?_) (a' := ?_) #[zt10,zt10,zt10,zf10,zt10,zt10,zf10,zf10,zf10,zf10,zf10] rfl rfl (any_of HT_.out (by kernel_rfl)) (fun _ _ _ h => h) (Or.inl ⟨by rfl, ?_⟩) ?_ ?_
        rotate_left
        ·intro w'
         go_simp
         with_reducible rfl
        rotate_left
        ·simp only [Act.put, zp10a, zp10b, zp10c, i64_w, i32_w]
         rfl
        refine pure_ (i := 6) (N := some 16) (v := ?_) (a' := ?_) #[zt10,zt10,zt10,zf10,zt10,zt10,zt10,zf10,zf10,zf10,zf10] rfl rfl (any_of HT_.out (by kernel_rfl)) (fun _ _ _ h => h) (Or.inl ⟨by rfl, ?_⟩) ?_ ?_
        rotate_left
        ·intro w'
         go_simp
         with_reducible rfl
        rotate_left
        ·simp only [Act.put, zp10a, zp10b, zp10c, i64_w, i32_w]
         rfl
        refine pure_ (i := 7) (N := some 17) (v := ?_) (a' := ?_) #[zt10,zt10,zt10,zf10,zt10,zt10,zt10,zt10,zf10,zf10,zf10] rfl rfl (any_of HT_.out (by kernel_rfl)) (fun _ _ _ h => h) (Or.inl ⟨by rfl, ?_⟩) ?_ ?_
        rotate_left
        ·intro w'
         go_simp
         with_reducible rfl
        rotate_left
        ·simp only [Act.put, zp10a, zp10b, zp10c, i64_w, i32_w]
         rfl
        refine take_ (i := 3) (N := some 13) (v := ?_) (a' := ?_) #[zt10,zt10,zt10,zt10,zt10,zt10,zt10,zt10,zf10,zf10,zf10] rfl rfl (take_ofW HT_.out HW_.out (by kernel_rfl)) (fun _ _ _ h => h) (Or.inl ⟨by rfl, ?_⟩) hHeld ?_ ?_
        rotate_left
        ·rintro w' ⟨s0, s1, s2, s3, s4, s5⟩
         go_simp
         with_reducible rfl
        rotate_left
        ·simp only [Act.put, zp10a, zp10b, zp10c, i64_w, i32_w]
         rfl
        refine take_ (i := 8) (N := some 18) (v := ?_) (a' := ?_) #[zt10,zt10,zt10,zt10,zt10,zt10,zt10,zt10,zt10,zf10,zf10] rfl rfl (take_ofW HT_.out HW_.out (by kernel_rfl)) (fun _ _ _ h => h) (Or.inl ⟨by rfl, ?_⟩) hHeld ?_ ?_
        rotate_left
        ·rintro w' ⟨s0, s1, s2, s3, s4, s5⟩
         go_simp
         with_reducible rfl
        rotate_left
        ·simp only [Act.put, zp10a, zp10b, zp10c, i64_w, i32_w]
         rfl
        refine one_ (i := 9) (N := some 19) #[zt10,zt10,zt10,zt10,zt10,zt10,zt10,zt10,zt10,zt10,zf10] rfl rfl (one_of HT_.out (by kernel_rfl)) (by decide) (fun K hK => ?_)
        refine goes_ Try.func122 (by kernel_rfl) rfl #[.agg #[.int .i64 ((rd_T71 l0 x3_1).f0), .int .i64 ((rd_T71 l0 x3_1).f1), .int .i64 ((rd_T71 l0 x3_1).f2)], .agg #[.int .i64 ((rd_T71 l0 (ji4)).f0), .int .i64 ((rd_T71 l0 (ji4)).f1), .int .i64 ((rd_T71 l0 (ji4)).f2)]] (by rfl) rfl rfl (by (try simp only [List.map_toArray, List.map_cons, List.map_nil]); first | done | (simp only [hji4]; rfl) | rfl | (simp only [List.length_drop, List.length_take]; rfl)) ?_
        with_reducible refine (y_eb.calls ((rd_T71 l0 x3_1).f0) ((rd_T71 l0 x3_1).f1) ((rd_T71 l0 x3_1).f2) ((rd_T71 l0 (ji4)).f0) ((rd_T71 l0 (ji4)).f1) ((rd_T71 l0 (ji4)).f2) t539 _ A7.out).mono ?_
        rintro e w10 ⟨rfl, hb⟩
        refine ⟨_, rfl, ?_⟩
        have n0_ := z10a (below_step (by repeat (first | (with_reducible first | exact HB.out | apply z10d | apply z10b | apply z10c) | exact HB.out)) hb)
        clear HB
        have HB := n0_
        clear n0_
        (try clear hb)
        (try clear hb2)
        (try clear hk)
        (try clear hi)
        refine hK.out _ _ ⟨((HB.out.cell (z10e w _ hw537_0)).trans hw537_0), ((HB.out.cell (z10e w _ hw537_1)).trans hw537_1), ((HB.out.cell (z10e w _ hw537_2)).trans hw537_2), ((HB.out.cell (z10e w _ hw538_0)).trans hw538_0), ((HB.out.cell (z10e w _ hw538_1)).trans hw538_1), ((HB.out.cell (z10e w _ hw538_2)).trans hw538_2)⟩ (fun hHeld => ?_)
        clear hK K
        refine norm_ (a' := ?_) ?_ ?_
        rotate_left
        ·show Act.put _ (some 19) _ = _
         simp only [Act.put, zp10a, zp10b, zp10c, i64_w, i32_w]
         rfl
        refine pure_ (i := 10) (N := some 20) (v := ?_) (a' := ?_) #[zt10,zt10,zt10,zt10,zt10,zt10,zt10,zt10,zt10,zt10,zt10] rfl rfl (any_of HT_.out (by kernel_rfl)) (fun _ _ _ h => h) (Or.inl ⟨by rfl, ?_⟩) ?_ ?_
        rotate_left
        ·intro w'
         go_simp
         with_reducible rfl
        rotate_left
        ·simp only [Act.put, zp10a, zp10b, zp10c, i64_w, i32_w]
         rfl
        refine done_ (done_of HT_.out (by kernel_rfl)) ?_
        try go_wp2
        go_ret
        exact ⟨by first | rfl | (simp [errW_none, errW_some] <;> rfl) | (simp only [← hji4]; first | rfl | (simp [errW_none, errW_some] <;> rfl)) | (simp [*, errW_none, errW_some] <;> rfl), by repeat (first | (with_reducible first | exact HB.out | apply z10d | apply z10b | apply z10c) | exact HB.out)⟩
       ·rw [if_neg c8] at H
        have c8b0 : decide (t539 < 0) = false := decide_eq_false c8
        clear c8
        have H' := z10a H
        clear H
        try go_wp2
        have n0_ := z10a (z10c HB.out)
        clear HB
        have HB := n0_
        clear n0_
        have p537 : 0 ≤ (x3_1 : Int) := z10f (by first | (with_reducible assumption) | assumption)
        have q537 : x3_1 < (l0.length : Int) := z10f (by first | (with_reducible assumption) | assumption)
        obtain ⟨ad537, e537, hx537_0, hx537_1, hx537_2⟩ := at_T71 HR0.out x3_1 p537 q537
        have hw537_2 := hx537_2
        have hw537_1 := hx537_1
        have hw537_0 := hx537_0
        cases e537
        replace hx537_0 := (HB.out.cell (z10e w _ hx537_0)).trans hx537_0
        replace hx537_1 := (HB.out.cell (z10e w _ hx537_1)).trans hx537_1
        replace hx537_2 := (HB.out.cell (z10e w _ hx537_2)).trans hx537_2
        replace p537 := eq_true p537
        replace q537 := eq_true q537
        have p538 : 0 ≤ ((ji4) : Int) := z10f (by first | (with_reducible assumption) | assumption)
        have q538 : (ji4) < (l0.length : Int) := z10f (by first | (with_reducible assumption) | assumption)
        obtain ⟨ad538, e538, hx538_0, hx538_1, hx538_2⟩ := at_T71 HR0.out (ji4) p538 q538
        have hw538_2 := hx538_2
        have hw538_1 := hx538_1
        have hw538_0 := hx538_0
        obtain rfl : ad537 = ad538 := (by injection e538)
        replace hx538_0 := (HB.out.cell (z10e w _ hx538_0)).trans hx538_0
        replace hx538_1 := (HB.out.cell (z10e w _ hx538_1)).trans hx538_1
        replace hx538_2 := (HB.out.cell (z10e w _ hx538_2)).trans hx538_2
        replace p538 := eq_true p538
        replace q538 := eq_true q538
        refine start_ (n := 11) (S := fun w' => w'.cell? (ad537.add ((x3_1).toNat * 3)) = some (.int .i64 ((rd_T71 l0 x3_1).f0)) ∧ w'.cell? ⟨(ad537.add ((x3_1).toNat * 3)).block, (ad537.add ((x3_1).toNat * 3)).off + 1, none⟩ = some (.int .i64 ((rd_T71 l0 x3_1).f1)) ∧ w'.cell? ⟨(ad537.add ((x3_1).toNat * 3)).block, (ad537.add ((x3_1).toNat * 3)).off + 2, none⟩ = some (.int .i64 ((rd_T71 l0 x3_1).f2)) ∧ w'.cell? (ad537.add (((ji4)).toNat * 3)) = some (.int .i64 ((rd_T71 l0 (ji4)).f0)) ∧ w'.cell? ⟨(ad537.add (((ji4)).toNat * 3)).block, (ad537.add (((ji4)).toNat * 3)).off + 1, none⟩ = some (.int .i64 ((rd_T71 l0 (ji4)).f1)) ∧ w'.cell? ⟨(ad537.add (((ji4)).toNat * 3)).block, (ad537.add (((ji4)).toNat * 3)).off + 2, none⟩ = some (.int .i64 ((rd_T71 l0 (ji4)).f2))) (ds := []) #[zf10,zf10,zf10,zf10,zf10,zf10,zf10,zf10,zf10,zf10,zf10] (by kernel_rfl) rfl rfl ⟨((HB.out.cell (z10e w _ hw537_0)).trans hw537_0), ((HB.out.cell (z10e w _ hw537_1)).trans hw537_1), ((HB.out.cell (z10e w _ hw537_2)).trans hw537_2), ((HB.out.cell (z10e w _ hw538_0)).trans hw538_0), ((HB.out.cell (z10e w _ hw538_1)).trans hw538_1), ((HB.out.cell (z10e w _ hw538_2)).trans hw538_2)⟩ (fun hHeld => ?_); refine with_tabW y_j.tab4 y_j.bits4 (fun HT_ HW_ => ?_)
        generalize wr.drew = w11 at HB hx537_0 hx537_1 hx537_2 hx538_0 hx538_1 hx538_2 hHeld ⊢
        refine pure_ (i := 0) (N := some 10) (v := ?_) (a' := ?_) #[zt10,zf10,zf10,zf10,zf10,zf10,zf10,zf10,zf10,zf10,zf10] rfl rfl (any_of HT_.out (by kernel_rfl)) (fun _ _ _ h => h) (Or.inl ⟨by rfl, ?_⟩) ?_ ?_
        rotate_left
        ·intro w'
         go_simp
         with_reducible rfl
        rotate_left
        ·simp only [Act.put, zp10a, zp10b, zp10c, i64_w, i32_w]
         rfl
        refine pure_ (i := 1) (N := some 11) (v := ?_) (a' := ?_) #[zt10,zt10,zf10,zf10,zf10,zf10,zf10,zf10,zf10,zf10,zf10] rfl rfl (any_of HT_.out (by kernel_rfl)) (fun _ _ _ h => h) (Or.inl ⟨by rfl, ?_⟩) ?_ ?_
        rotate_left
        ·intro w'
         go_simp
         with_reducible rfl
        rotate_left
        ·simp only [Act.put, zp10a, zp10b, zp10c, i64_w, i32_w]
         rfl
        refine pure_ (i := 2) (N := some 12) (v := ?_) (a' := ?_) #[zt10,zt10,zt10,zf10,zf10,zf10,zf10,zf10,zf10,zf10,zf10] rfl rfl (any_of HT_.out (by kernel_rfl)) (fun _ _ _ h => h) (Or.inl ⟨by rfl, ?_⟩) ?_ ?_
        rotate_left
        ·intro w'
         go_simp
         with_reducible rfl
        rotate_left
        ·simp only [Act.put, zp10a, zp10b, zp10c, i64_w, i32_w]
         rfl
        refine pure_ (i := 4) (N := some 14) (v := ?_) (a' := ?_) #[zt10,zt10,zt10,zf10,zt10,zf10,zf10,zf10,zf10,zf10,zf10] rfl rfl (any_of HT_.out (by kernel_rfl)) (fun _ _ _ h => h) (Or.inl ⟨by rfl, ?_⟩) ?_ ?_
        rotate_left
        ·intro w'
         go_simp
         with_reducible rfl
        rotate_left
        ·simp only [Act.put, zp10a, zp10b, zp10c, i64_w, i32_w]
         rfl
        refine pure_ (i := 5) (N := some 15) (v := ?_) (a' := ?_) #[zt10,zt10,zt10,zf10,zt10,zt10,zf10,zf10,zf10,zf10,zf10] rfl rfl (any_of HT_.out (by kernel_rfl)) (fun _ _ _ h => h) (Or.inl ⟨by rfl, ?_⟩) ?_ ?_
        rotate_left
        ·intro w'
         go_simp
         with_reducible rfl
        rotate_left
        ·simp only [Act.put, zp10a, zp10b, zp10c, i64_w, i32_w]
         rfl
        refine pure_ (i := 6) (N := some 16) (v := ?_) (a' := ?_) #[zt10,zt10,zt10,zf10,zt10,zt10,zt10,zf10,zf10,zf10,zf10] rfl rfl (any_of HT_.out (by kernel_rfl)) (fun _ _ _ h => h) (Or.inl ⟨by rfl, ?_⟩) ?_ ?_
        rotate_left
        ·intro w'
         go_simp
         with_reducible rfl
        rotate_left
        ·simp only [Act.put, zp10a, zp10b, zp10c, i64_w, i32_w]
         rfl
        refine pure_ (i := 7) (N := some 17) (v := ?_) (a' := ?_) #[zt10,zt10,zt10,zf10,zt10,zt10,zt10,zt10,zf10,zf10,zf10] rfl rfl (any_of HT_.out (by kernel_rfl)) (fun _ _ _ h => h) (Or.inl ⟨by rfl, ?_⟩) ?_ ?_
        rotate_left
        ·intro w'
         go_simp
         with_reducible rfl
        rotate_left
        ·simp only [Act.put, zp10a, zp10b, zp10c, i64_w, i32_w]
         rfl
        refine take_ (i := 3) (N := some 13) (v := ?_) (a' := ?_) #[zt10,zt10,zt10,zt10,zt10,zt10,zt10,zt10,zf10,zf10,zf10] rfl rfl (take_ofW HT_.out HW_.out (by kernel_rfl)) (fun _ _ _ h => h) (Or.inl ⟨by rfl, ?_⟩) hHeld ?_ ?_
        rotate_left
        ·rintro w' ⟨s0, s1, s2, s3, s4, s5⟩
         go_simp
         with_reducible rfl
        rotate_left
        ·simp only [Act.put, zp10a, zp10b, zp10c, i64_w, i32_w]
         rfl
        refine take_ (i := 8) (N := some 18) (v := ?_) (a' := ?_) #[zt10,zt10,zt10,zt10,zt10,zt10,zt10,zt10,zt10,zf10,zf10] rfl rfl (take_ofW HT_.out HW_.out (by kernel_rfl)) (fun _ _ _ h => h) (Or.inl ⟨by rfl, ?_⟩) hHeld ?_ ?_
        rotate_left
        ·rintro w' ⟨s0, s1, s2, s3, s4, s5⟩
         go_simp
         with_reducible rfl
        rotate_left
        ·simp only [Act.put, zp10a, zp10b, zp10c, i64_w, i32_w]
         rfl
        refine one_ (i := 9) (N := some 19) #[zt10,zt10,zt10,zt10,zt10,zt10,zt10,zt10,zt10,zt10,zf10] rfl rfl (one_of HT_.out (by kernel_rfl)) (by decide) (fun K hK => ?_)
        refine goes_ Try.func122 (by kernel_rfl) rfl #[.agg #[.int .i64 ((rd_T71 l0 x3_1).f0), .int .i64 ((rd_T71 l0 x3_1).f1), .int .i64 ((rd_T71 l0 x3_1).f2)], .agg #[.int .i64 ((rd_T71 l0 (ji4)).f0), .int .i64 ((rd_T71 l0 (ji4)).f1), .int .i64 ((rd_T71 l0 (ji4)).f2)]] (by rfl) rfl rfl (by (try simp only [List.map_toArray, List.map_cons, List.map_nil]); first | done | (simp only [hji4]; rfl) | rfl | (simp only [List.length_drop, List.length_take]; rfl)) ?_
        with_reducible refine (y_eb.calls ((rd_T71 l0 x3_1).f0) ((rd_T71 l0 x3_1).f1) ((rd_T71 l0 x3_1).f2) ((rd_T71 l0 (ji4)).f0) ((rd_T71 l0 (ji4)).f1) ((rd_T71 l0 (ji4)).f2) t539 _ A7.out).mono ?_
        rintro e w12 ⟨rfl, hb⟩
        refine ⟨_, rfl, ?_⟩
        have n0_ := z10a (below_step (by repeat (first | (with_reducible first | exact HB.out | apply z10d | apply z10b | apply z10c) | exact HB.out)) hb)
        clear HB
        have HB := n0_
        clear n0_
        (try clear hb)
        (try clear hb2)
        (try clear hk)
        (try clear hi)
        refine hK.out _ _ ⟨((HB.out.cell (z10e w _ hw537_0)).trans hw537_0), ((HB.out.cell (z10e w _ hw537_1)).trans hw537_1), ((HB.out.cell (z10e w _ hw537_2)).trans hw537_2), ((HB.out.cell (z10e w _ hw538_0)).trans hw538_0), ((HB.out.cell (z10e w _ hw538_1)).trans hw538_1), ((HB.out.cell (z10e w _ hw538_2)).trans hw538_2)⟩ (fun hHeld => ?_)
        clear hK K
        refine norm_ (a' := ?_) ?_ ?_
        rotate_left
        ·show Act.put _ (some 19) _ = _
         simp only [Act.put, zp10a, zp10b, zp10c, i64_w, i32_w]
         rfl
        refine pure_ (i := 10) (N := some 20) (v := ?_) (a' := ?_) #[zt10,zt10,zt10,zt10,zt10,zt10,zt10,zt10,zt10,zt10,zt10] rfl rfl (any_of HT_.out (by kernel_rfl)) (fun _ _ _ h => h) (Or.inl ⟨by rfl, ?_⟩) ?_ ?_
        rotate_left
        ·intro w'
         go_simp
         with_reducible rfl
        rotate_left
        ·simp only [Act.put, zp10a, zp10b, zp10c, i64_w, i32_w]
         rfl
        refine done_ (done_of HT_.out (by kernel_rfl)) ?_
        try go_wp2
        go_roundg k1
        case measure => have := HK1.out; omega
        case rel => exact ⟨(wrap64 (x3_1 + 1)), (by first | rfl | (simp; done) | (simp [*]; done)), H', ⟨by have := HK1.out; omega⟩, ⟨by repeat (first | (with_reducible first | exact HB.out | apply z10d | apply z10b | apply z10c) | exact HB.out)⟩⟩
      ·rw [if_neg c6] at H
       exact absurd H (by simp)
     ·rw [if_neg c5] at H
      exact absurd H (by simp)
    ·rw [if_neg c3] at H
     exact absurd H (by simp)
   ·rw [if_neg c2] at H
    have c2b0 : decide (x3_1 < (l0.length : Int)) = false := decide_eq_false c2
    clear c2
    obtain rfl := Option.some.inj H
    go_wp2
    go_ret
    exact ⟨by first | rfl | (simp [errW_none, errW_some] <;> rfl) | (simp [*, errW_none, errW_some] <;> rfl), by repeat (first | (with_reducible first | exact HB.out | apply z10d | apply z10b | apply z10c) | exact HB.out)⟩
def y_n.l0 : Nat → List (S39) → Int → Int → Option (Bool)
 | 0, _, _, _ => none
 | k + 1, x5, x6, x7 => if x7 < x6 then (if 0 ≤ x7 then (if x7 < (x5.length : Int) then (if (((rd_T39 x5 x7).f0).length : Int) = 0 then (some false) else ((y_j.f k ((rd_T39 x5 x7).f0)).bind fun t542 => (if t542 = true then ((y_t.f k ((rd_T39 x5 x7).f0)).bind fun t543 => (if t543 = true then (y_n.l0 k x5 x6 (wrap64 (x7 + 1))) else (some false))) else (some false)))) else (none)) else (none)) else (some true)
def y_n.f (k : Nat) (l0 : List (S39)) : Option (Bool) := y_n.l0 k l0 (l0.length : Int) 0
theorem y_n.mono_l : ∀ k, (∀ y0 y1 y2, LeO (y_n.l0 k y0 y1 y2) (y_n.l0 (k + 1) y0 y1 y2))
 | 0 => fun _ _ _ r h => by simp [y_n.l0] at h
 | k + 1 => by
  have ih0 := y_n.mono_l k
  ·intro y0 y1 y2
   unfold y_n.l0
   repeat' first
   | (with_reducible exact ih0 _ _ _)
   | (with_reducible exact y_t.mono _ _)
   | (with_reducible exact y_j.mono _ _)
   | (with_reducible exact LeO.refl _)
   | (with_reducible exact LeO.none _)
   | (with_reducible refine LeO.ite ?_ ?_)
   | (with_reducible refine LeO.bind ?_ (fun _ => ?_))
   | exact ih0 _ _ _
   | exact y_t.mono _ _
   | exact y_j.mono _ _
   | exact LeO.none _
   | refine LeO.ite ?_ ?_
   | refine LeO.bind ?_ (fun _ => ?_)
theorem y_n.mono : ∀ a0 k, LeO (y_n.f k a0) (y_n.f (k + 1) a0) := by
 intro a0 k
 have ih0 := y_n.mono_l k
 unfold y_n.f
 repeat' first
   | (with_reducible exact ih0 _ _ _)
   | (with_reducible exact y_t.mono _ _)
   | (with_reducible exact y_j.mono _ _)
   | (with_reducible exact LeO.refl _)
   | (with_reducible exact LeO.none _)
   | (with_reducible refine LeO.ite ?_ ?_)
   | (with_reducible refine LeO.bind ?_ (fun _ => ?_))
   | exact ih0 _ _ _
   | exact y_t.mono _ _
   | exact y_j.mono _ _
   | exact LeO.none _
   | refine LeO.ite ?_ ?_
   | refine LeO.bind ?_ (fun _ => ?_)
theorem y_n.calls (k : Nat) (A0 : Option Addr) (c0 : Nat) (l0 : List (S39)) (r : Bool) (w : World) (hr0 : Kd.C k39 w A0 l0.length l0) (hc0 : l0.length ≤ c0) (h : y_n.f k l0 = some r) :
  Calls Try.prog 22 #[.slice A0 l0.length c0] w fun e w' => e = .returned (.bool r) ∧ Below w.heap.size w w' := by
 have hu39 := Try.underlying39
 have HR0 := z10a hr0
 have HC0 := z10a hc0
 clear hr0 hc0
 have HB := z10a (Below.refl w.heap.size w)
 have H : (y_n.l0 k l0 (l0.length : Int) 0) = some r := h
 clear h
 have H' := z10a H
 clear H
 go_enter Try.func22, Try.ntmps22
 go_wp2
 go_loopg [7] k (fun kq v7 w' => ∃ (x7_1 : Int), v7 = .int .i64 x7_1 ∧ Aside0 (y_n.l0 kq l0 (l0.length : Int) x7_1 = some r) ∧ Aside0 (kq ≤ k) ∧ Aside0 (Below w.heap.size w w'))
 case atStart => exact ⟨(0), (by first | rfl | (simp; done) | (simp [*]; done)), H', ⟨Nat.le_refl _⟩, ⟨by repeat (first | (with_reducible first | exact HB.out | apply z10d | apply z10b | apply z10c) | exact HB.out)⟩⟩
 case round =>
  clear H'
  obtain ⟨x7_1, rfl, HA, HK1, HB⟩ := hrel
  cases gk with
  | zero => exact absurd HA.out (by simp [y_n.l0])
  | succ k1 =>
   have H := HA.out
   clear HA
   simp only [y_n.l0] at H
   by_cases c2 : x7_1 < (l0.length : Int)
   ·rw [if_pos c2] at H
    have c2b0 : decide (x7_1 < (l0.length : Int)) = true := decide_eq_true c2
    clear c2
    by_cases c3 : 0 ≤ x7_1
    ·rw [if_pos c3] at H
     have c3b0 : decide (0 ≤ x7_1) = true := decide_eq_true c3
     clear c3
     by_cases c4 : x7_1 < (l0.length : Int)
     ·rw [if_pos c4] at H
      have c4b0 : decide (x7_1 < (l0.length : Int)) = true := decide_eq_true c4
      clear c4
      by_cases c5 : (((rd_T39 l0 x7_1).f0).length : Int) = 0
      ·rw [if_pos c5] at H
       have c5b0 : ((((rd_T39 l0 x7_1).f0).length : Int) == 0) = true := beq_iff_eq.mpr c5
       have c5b1 : ((((rd_T39 l0 x7_1).f0).length : Int) != 0) = false := bne_eq_false_iff_eq.mpr c5
       clear c5
       obtain rfl := Option.some.inj H
       have p540 : 0 ≤ (x7_1 : Int) := z10f (by first | (with_reducible assumption) | assumption)
       have q540 : x7_1 < (l0.length : Int) := z10f (by first | (with_reducible assumption) | assumption)
       obtain ⟨ad540, A540_0, c540_0, e540, hx540_0, hl540_0, hi540_0⟩ := at_T39 HR0.out x7_1 p540 q540
       cases e540
       replace hx540_0 := (HB.out.cell (z10e w _ hx540_0)).trans hx540_0
       have HR540_0 := z10a hi540_0
       have HC540_0 := z10a hl540_0
       clear hi540_0 hl540_0
       replace p540 := eq_true p540
       replace q540 := eq_true q540
       go_wp2_with (first | ((with_reducible refine gate_dst (N := 4) rfl ?_); refine box_event ?hg (N := 4) ?hd (cs := #[.slice none 0 0]) (t := 39) ?hr ?_; (case hd => rfl); (case hg => rfl); (case hr => first | (go_simp; done) | (go_simp; rfl)); intro gb541 hg w6 hbox hb; have n0_ := z10a (below_step (by repeat (first | (with_reducible first | exact HB.out | apply z10d | apply z10b | apply z10c) | exact HB.out)) hb); have n1_ := z10a (hbox); have n2_ := z10a ((by rw [hg]; exact (below_size (by repeat (first | (with_reducible first | exact HB.out | apply z10d | apply z10b | apply z10c) | exact HB.out))) : w.heap.size ≤ gb541)); have n3_ := z10a ((by rw [hg]; exact (below_size (by repeat (first | (with_reducible first | exact HB.out | apply z10d | apply z10b | apply z10c) | exact HB.out))) : w.heap.size ≤ gb541)); clear HB; have HB := n0_; have BK541 := n1_; have GW541 := n2_; have GE541 := n3_; clear n0_ n1_ n2_ n3_; clear hb hbox hg; have hcz7_0 : w6.cell? ⟨gb541, 0, none⟩ = some (.slice none 0 0) := (blk_cell BK541.out 0).trans rfl; have hfz7_0 := blk_frozen BK541.out 0))
       go_ret
       exact ⟨by first | rfl | (simp [errW_none, errW_some] <;> rfl) | (simp [*, errW_none, errW_some] <;> rfl), by repeat (first | (with_reducible first | exact HB.out | apply z10d | apply z10b | apply z10c | refine below_set ?_ GE541.out) | exact HB.out)⟩
      ·rw [if_neg c5] at H
       have c5b0 : ((((rd_T39 l0 x7_1).f0).length : Int) == 0) = false := beq_eq_false_iff_ne.mpr c5
       have c5b1 : ((((rd_T39 l0 x7_1).f0).length : Int) != 0) = true := bne_iff_ne.mpr c5
       have c5b2 : ¬ (((rd_T39 l0 x7_1).f0) = []) := fun h_ => c5 (by rw [h_]; rfl)
       replace H := Option.bind_eq_some_iff.mp H
       obtain ⟨t542, A80, H⟩ := H
       have A8 := z10a A80
       clear A80
       by_cases c9 : t542 = true
       ·subst c9
        rw [if_pos rfl] at H
        replace H := Option.bind_eq_some_iff.mp H
        obtain ⟨t543, A100, H⟩ := H
        have A10 := z10a A100
        clear A100
        by_cases c11 : t543 = true
        ·subst c11
         rw [if_pos rfl] at H
         have H' := z10a H
         clear H
         have p540 : 0 ≤ (x7_1 : Int) := z10f (by first | (with_reducible assumption) | assumption)
         have q540 : x7_1 < (l0.length : Int) := z10f (by first | (with_reducible assumption) | assumption)
         obtain ⟨ad540, A540_0, c540_0, e540, hx540_0, hl540_0, hi540_0⟩ := at_T39 HR0.out x7_1 p540 q540
         cases e540
         replace hx540_0 := (HB.out.cell (z10e w _ hx540_0)).trans hx540_0
         have HR540_0 := z10a hi540_0
         have HC540_0 := z10a hl540_0
         clear hi540_0 hl540_0
         replace p540 := eq_true p540
         replace q540 := eq_true q540
         go_wp2_with (first | ((with_reducible refine gate_dst (N := 4) rfl ?_); refine box_event ?hg (N := 4) ?hd (cs := #[.slice none 0 0]) (t := 39) ?hr ?_; (case hd => rfl); (case hg => rfl); (case hr => first | (go_simp; done) | (go_simp; rfl)); intro gb541 hg w12 hbox hb; have n0_ := z10a (below_step (by repeat (first | (with_reducible first | exact HB.out | apply z10d | apply z10b | apply z10c) | exact HB.out)) hb); have n1_ := z10a (hbox); have n2_ := z10a ((by rw [hg]; exact (below_size (by repeat (first | (with_reducible first | exact HB.out | apply z10d | apply z10b | apply z10c) | exact HB.out))) : w.heap.size ≤ gb541)); have n3_ := z10a ((by rw [hg]; exact (below_size (by repeat (first | (with_reducible first | exact HB.out | apply z10d | apply z10b | apply z10c) | exact HB.out))) : w.heap.size ≤ gb541)); clear HB; have HB := n0_; have BK541 := n1_; have GW541 := n2_; have GE541 := n3_; clear n0_ n1_ n2_ n3_; clear hb hbox hg; have hcz13_0 : w12.cell? ⟨gb541, 0, none⟩ = some (.slice none 0 0) := (blk_cell BK541.out 0).trans rfl; have hfz13_0 := blk_frozen BK541.out 0) | (go_at_call 53; (with_reducible refine (y_j.calls k1 _ _ ((rd_T39 l0 x7_1).f0) true _ ?side1 ?side2 A8.out).mono ?_); (case side1 => exact Kd.C_below HR540_0.out (by repeat (first | (with_reducible first | exact HB.out | apply z10d | apply z10b | apply z10c | refine below_set ?_ GE541.out) | exact HB.out))); (case side2 => exact HC540_0.out); rintro e w14 ⟨rfl, hb⟩; have n0_ := z10a (blk_below (g := gb541) (o := .cells #[.slice A540_0 ((rd_T39 l0 x7_1).f0).length c540_0] 39 (0, 0)) (by (with_reducible repeat (first | refine blk_drewN ?_ _ | refine blk_drew ?_ | refine blk_alloc ?_ _)); refine blk_put (cs := #[.slice none 0 0]) ?_ 0 _ rfl; (with_reducible repeat (first | refine blk_drewN ?_ _ | refine blk_drew ?_ | refine blk_alloc ?_ _)); exact BK541.out) hb); have n1_ := z10a (below_step (by repeat (first | (with_reducible first | exact HB.out | apply z10d | apply z10b | apply z10c | refine below_set ?_ GE541.out) | exact HB.out)) hb); clear BK541; clear HB; have BK541 := n0_; have HB := n1_; clear n0_ n1_; (try clear hb); (try clear hb2); (try clear hk); (try clear hi); have hcz15_0 : w14.cell? ⟨gb541, 0, none⟩ = some (.slice A540_0 ((rd_T39 l0 x7_1).f0).length c540_0) := (blk_cell BK541.out 0).trans rfl; have hfz15_0 := blk_frozen BK541.out 0) | (go_at_call 107; (with_reducible refine (y_t.calls k1 _ _ ((rd_T39 l0 x7_1).f0) true _ ?side1 ?side2 A10.out).mono ?_); (case side1 => repeat (first | exact (Kd.C_below HR540_0.out HB.out) | (with_reducible refine Kd.C_alloc ?_ _) | (with_reducible refine Kd.C_drewN ?_ _) | (with_reducible refine Kd.C_drew ?_))); (case side2 => exact HC540_0.out); rintro e w16 ⟨rfl, hb⟩; have n0_ := z10a (blk_below (g := gb541) (o := .cells #[.slice A540_0 ((rd_T39 l0 x7_1).f0).length c540_0] 39 (0, 0)) (by (with_reducible repeat (first | refine blk_drewN ?_ _ | refine blk_drew ?_ | refine blk_alloc ?_ _)); exact BK541.out) hb); have n1_ := z10a (below_step (by repeat (first | (with_reducible first | exact HB.out | apply z10d | apply z10b | apply z10c | refine below_set ?_ GE541.out) | exact HB.out)) hb); clear BK541; clear HB; have BK541 := n0_; have HB := n1_; clear n0_ n1_; (try clear hb); (try clear hb2); (try clear hk); (try clear hi)))
         go_roundg k1
         case measure => have := HK1.out; omega
         case rel => exact ⟨(wrap64 (x7_1 + 1)), (by first | rfl | (simp; done) | (simp [*]; done)), H', ⟨by have := HK1.out; omega⟩, ⟨by repeat (first | (with_reducible first | exact HB.out | apply z10d | apply z10b | apply z10c | refine below_set ?_ GE541.out) | exact HB.out)⟩⟩
        ·replace c11 := Bool.eq_false_iff.mpr c11
         subst c11
         have H1 : (some false) = some r := by rw [if_neg (show ¬ (false = true) by decide)] at H; exact H
         clear H
         have H := H1
         clear H1
         obtain rfl := Option.some.inj H
         have p540 : 0 ≤ (x7_1 : Int) := z10f (by first | (with_reducible assumption) | assumption)
         have q540 : x7_1 < (l0.length : Int) := z10f (by first | (with_reducible assumption) | assumption)
         obtain ⟨ad540, A540_0, c540_0, e540, hx540_0, hl540_0, hi540_0⟩ := at_T39 HR0.out x7_1 p540 q540
         cases e540
         replace hx540_0 := (HB.out.cell (z10e w _ hx540_0)).trans hx540_0
         have HR540_0 := z10a hi540_0
         have HC540_0 := z10a hl540_0
         clear hi540_0 hl540_0
         replace p540 := eq_true p540
         replace q540 := eq_true q540
         go_wp2_with (first | ((with_reducible refine gate_dst (N := 4) rfl ?_); refine box_event ?hg (N := 4) ?hd (cs := #[.slice none 0 0]) (t := 39) ?hr ?_; (case hd => rfl); (case hg => rfl); (case hr => first | (go_simp; done) | (go_simp; rfl)); intro gb541 hg w17 hbox hb; have n0_ := z10a (below_step (by repeat (first | (with_reducible first | exact HB.out | apply z10d | apply z10b | apply z10c) | exact HB.out)) hb); have n1_ := z10a (hbox); have n2_ := z10a ((by rw [hg]; exact (below_size (by repeat (first | (with_reducible first | exact HB.out | apply z10d | apply z10b | apply z10c) | exact HB.out))) : w.heap.size ≤ gb541)); have n3_ := z10a ((by rw [hg]; exact (below_size (by repeat (first | (with_reducible first | exact HB.out | apply z10d | apply z10b | apply z10c) | exact HB.out))) : w.heap.size ≤ gb541)); clear HB; have HB := n0_; have BK541 := n1_; have GW541 := n2_; have GE541 := n3_; clear n0_ n1_ n2_ n3_; clear hb hbox hg; have hcz18_0 : w17.cell? ⟨gb541, 0, none⟩ = some (.slice none 0 0) := (blk_cell BK541.out 0).trans rfl; have hfz18_0 := blk_frozen BK541.out 0) | (go_at_call 53; (with_reducible refine (y_j.calls k1 _ _ ((rd_T39 l0 x7_1).f0) true _ ?side1 ?side2 A8.out).mono ?_); (case side1 => exact Kd.C_below HR540_0.out (by repeat (first | (with_reducible first | exact HB.out | apply z10d | apply z10b | apply z10c | refine below_set ?_ GE541.out) | exact HB.out))); (case side2 => exact HC540_0.out); rintro e w19 ⟨rfl, hb⟩; have n0_ := z10a (blk_below (g := gb541) (o := .cells #[.slice A540_0 ((rd_T39 l0 x7_1).f0).length c540_0] 39 (0, 0)) (by (with_reducible repeat (first | refine blk_drewN ?_ _ | refine blk_drew ?_ | refine blk_alloc ?_ _)); refine blk_put (cs := #[.slice none 0 0]) ?_ 0 _ rfl; (with_reducible repeat (first | refine blk_drewN ?_ _ | refine blk_drew ?_ | refine blk_alloc ?_ _)); exact BK541.out) hb); have n1_ := z10a (below_step (by repeat (first | (with_reducible first | exact HB.out | apply z10d | apply z10b | apply z10c | refine below_set ?_ GE541.out) | exact HB.out)) hb); clear BK541; clear HB; have BK541 := n0_; have HB := n1_; clear n0_ n1_; (try clear hb); (try clear hb2); (try clear hk); (try clear hi); have hcz20_0 : w19.cell? ⟨gb541, 0, none⟩ = some (.slice A540_0 ((rd_T39 l0 x7_1).f0).length c540_0) := (blk_cell BK541.out 0).trans rfl; have hfz20_0 := blk_frozen BK541.out 0) | (go_at_call 107; (with_reducible refine (y_t.calls k1 _ _ ((rd_T39 l0 x7_1).f0) false _ ?side1 ?side2 A10.out).mono ?_); (case side1 => repeat (first | exact (Kd.C_below HR540_0.out HB.out) | (with_reducible refine Kd.C_alloc ?_ _) | (with_reducible refine Kd.C_drewN ?_ _) | (with_reducible refine Kd.C_drew ?_))); (case side2 => exact HC540_0.out); rintro e w21 ⟨rfl, hb⟩; have n0_ := z10a (blk_below (g := gb541) (o := .cells #[.slice A540_0 ((rd_T39 l0 x7_1).f0).length c540_0] 39 (0, 0)) (by (with_reducible repeat (first | refine blk_drewN ?_ _ | refine blk_drew ?_ | refine blk_alloc ?_ _)); exact BK541.out) hb); have n1_ := z10a (below_step (by repeat (first | (with_reducible first | exact HB.out | apply z10d | apply z10b | apply z10c | refine below_set ?_ GE541.out) | exact HB.out)) hb); clear BK541; clear HB; have BK541 := n0_; have HB := n1_; clear n0_ n1_; (try clear hb); (try clear hb2); (try clear hk); (try clear hi)))
         go_ret
         exact ⟨by first | rfl | (simp [errW_none, errW_some] <;> rfl) | (simp [*, errW_none, errW_some] <;> rfl), by repeat (first | (with_reducible first | exact HB.out | apply z10d | apply z10b | apply z10c | refine below_set ?_ GE541.out) | exact HB.out)⟩
       ·replace c9 := Bool.eq_false_iff.mpr c9
        subst c9
        have H1 : (some false) = some r := by rw [if_neg (show ¬ (false = true) by decide)] at H; exact H
        clear H
        have H := H1
        clear H1
        obtain rfl := Option.some.inj H
        have p540 : 0 ≤ (x7_1 : Int) := z10f (by first | (with_reducible assumption) | assumption)
        have q540 : x7_1 < (l0.length : Int) := z10f (by first | (with_reducible assumption) | assumption)
        obtain ⟨ad540, A540_0, c540_0, e540, hx540_0, hl540_0, hi540_0⟩ := at_T39 HR0.out x7_1 p540 q540
        cases e540
        replace hx540_0 := (HB.out.cell (z10e w _ hx540_0)).trans hx540_0
        have HR540_0 := z10a hi540_0
        have HC540_0 := z10a hl540_0
        clear hi540_0 hl540_0
        replace p540 := eq_true p540
        replace q540 := eq_true q540
        go_wp2_with (first | ((with_reducible refine gate_dst (N := 4) rfl ?_); refine box_event ?hg (N := 4) ?hd (cs := #[.slice none 0 0]) (t := 39) ?hr ?_; (case hd => rfl); (case hg => rfl); (case hr => first | (go_simp; done) | (go_simp; rfl)); intro gb541 hg w22 hbox hb; have n0_ := z10a (below_step (by repeat (first | (with_reducible first | exact HB.out | apply z10d | apply z10b | apply z10c) | exact HB.out)) hb); have n1_ := z10a (hbox); have n2_ := z10a ((by rw [hg]; exact (below_size (by repeat (first | (with_reducible first | exact HB.out | apply z10d | apply z10b | apply z10c) | exact HB.out))) : w.heap.size ≤ gb541)); have n3_ := z10a ((by rw [hg]; exact (below_size (by repeat (first | (with_reducible first | exact HB.out | apply z10d | apply z10b | apply z10c) | exact HB.out))) : w.heap.size ≤ gb541)); clear HB; have HB := n0_; have BK541 := n1_; have GW541 := n2_; have GE541 := n3_; clear n0_ n1_ n2_ n3_; clear hb hbox hg; have hcz23_0 : w22.cell? ⟨gb541, 0, none⟩ = some (.slice none 0 0) := (blk_cell BK541.out 0).trans rfl; have hfz23_0 := blk_frozen BK541.out 0) | (go_at_call 53; (with_reducible refine (y_j.calls k1 _ _ ((rd_T39 l0 x7_1).f0) false _ ?side1 ?side2 A8.out).mono ?_); (case side1 => exact Kd.C_below HR540_0.out (by repeat (first | (with_reducible first | exact HB.out | apply z10d | apply z10b | apply z10c | refine below_set ?_ GE541.out) | exact HB.out))); (case side2 => exact HC540_0.out); rintro e w24 ⟨rfl, hb⟩; have n0_ := z10a (blk_below (g := gb541) (o := .cells #[.slice A540_0 ((rd_T39 l0 x7_1).f0).length c540_0] 39 (0, 0)) (by (with_reducible repeat (first | refine blk_drewN ?_ _ | refine blk_drew ?_ | refine blk_alloc ?_ _)); refine blk_put (cs := #[.slice none 0 0]) ?_ 0 _ rfl; (with_reducible repeat (first | refine blk_drewN ?_ _ | refine blk_drew ?_ | refine blk_alloc ?_ _)); exact BK541.out) hb); have n1_ := z10a (below_step (by repeat (first | (with_reducible first | exact HB.out | apply z10d | apply z10b | apply z10c | refine below_set ?_ GE541.out) | exact HB.out)) hb); clear BK541; clear HB; have BK541 := n0_; have HB := n1_; clear n0_ n1_; (try clear hb); (try clear hb2); (try clear hk); (try clear hi)))
        go_ret
        exact ⟨by first | rfl | (simp [errW_none, errW_some] <;> rfl) | (simp [*, errW_none, errW_some] <;> rfl), by repeat (first | (with_reducible first | exact HB.out | apply z10d | apply z10b | apply z10c | refine below_set ?_ GE541.out) | exact HB.out)⟩
     ·rw [if_neg c4] at H
      exact absurd H (by simp)
    ·rw [if_neg c3] at H
     exact absurd H (by simp)
   ·rw [if_neg c2] at H
    have c2b0 : decide (x7_1 < (l0.length : Int)) = false := decide_eq_false c2
    clear c2
    obtain rfl := Option.some.inj H
    go_wp2
    go_ret
    exact ⟨by first | rfl | (simp [errW_none, errW_some] <;> rfl) | (simp [*, errW_none, errW_some] <;> rfl), by repeat (first | (with_reducible first | exact HB.out | apply z10d | apply z10b | apply z10c) | exact HB.out)⟩
theorem eqA71 (d : Nat) (w : World) (x0 y0 : Int) (x1 y1 : Int) (x2 y2 : Int) :
  (Op.equalIn (d + 2) 71 (.agg #[.int .i64 x0, .int .i64 x1, .int .i64 x2]) (.agg #[.int .i64 y0, .int .i64 y1, .int .i64 y2])).run Try.prog w = .ok (x0 == y0 && (x1 == y1 && (x2 == y2))) w := by
 refine eqA_of Try.underlying71 (by kernel_rfl) ?_
 refine eqf_cons (by rfl) (by go_simp; rfl) (by go_simp; rfl) (by go_simp) ?_
 refine eqf_cons (by rfl) (by go_simp; rfl) (by go_simp; rfl) (by go_simp) ?_
 exact eqf_last (by rfl) (by go_simp; rfl) (by go_simp; rfl) (by go_simp)
end Go.Proofs.Ytkcicbigpbdjpaa.P
end
section
namespace Go.Proofs.Ytkcicbigpbdjpaa.P
open Go.RowKit Go.Proofs.YtkcicbigpbdjpaaW.PrintWords Go.Proofs.YtkcicbigpbdjpaaW.PrintLast Go.Proofs.YtkcicbigpbdjpaaW.PrintMore
attribute [local go_sem] max2_int min2_int max_two min_two max_three min_three max_four min_four
set_option linter.unusedVariables false
set_option linter.unusedSimpArgs false
attribute [local go_sem high] eqA71
def y_q.l0 : Nat → List (S71) → List (S39) → Int → Int → Option ((List (S71)))
 | 0, _, _, _, _ => none
 | k + 1, x3, x7, x8, x9 => if x9 < x8 then (if 0 ≤ x9 then (if x9 < (x7.length : Int) then (if x3.length + ((rd_T39 x7 x9).f0).length < 5864062014805 then (y_q.l0 k (x3 ++ ((rd_T39 x7 x9).f0)) x7 x8 (wrap64 (x9 + 1))) else (none)) else (none)) else (none)) else (some x3)
def y_q.f (k : Nat) (l0 : List (S39)) : Option ((List (S71))) := y_q.l0 k (([] : List (S71))) l0 (l0.length : Int) 0
theorem y_q.mono_l : ∀ k, (∀ y0 y1 y2 y3, LeO (y_q.l0 k y0 y1 y2 y3) (y_q.l0 (k + 1) y0 y1 y2 y3))
 | 0 => fun _ _ _ _ r h => by simp [y_q.l0] at h
 | k + 1 => by
  have ih0 := y_q.mono_l k
  ·intro y0 y1 y2 y3
   unfold y_q.l0
   repeat' first
   | (with_reducible exact ih0 _ _ _ _)
   | (with_reducible exact LeO.refl _)
   | (with_reducible exact LeO.none _)
   | (with_reducible refine LeO.ite ?_ ?_)
   | (with_reducible refine LeO.bind ?_ (fun _ => ?_))
   | exact ih0 _ _ _ _
   | exact LeO.none _
   | refine LeO.ite ?_ ?_
   | refine LeO.bind ?_ (fun _ => ?_)
theorem y_q.mono : ∀ a0 k, LeO (y_q.f k a0) (y_q.f (k + 1) a0) := by
 intro a0 k
 have ih0 := y_q.mono_l k
 unfold y_q.f
 repeat' first
   | (with_reducible exact ih0 _ _ _ _)
   | (with_reducible exact LeO.refl _)
   | (with_reducible exact LeO.none _)
   | (with_reducible refine LeO.ite ?_ ?_)
   | (with_reducible refine LeO.bind ?_ (fun _ => ?_))
   | exact ih0 _ _ _ _
   | exact LeO.none _
   | refine LeO.ite ?_ ?_
   | refine LeO.bind ?_ (fun _ => ?_)
theorem y_q.calls (k : Nat) (A0 : Option Addr) (c0 : Nat) (l0 : List (S39)) (r : List (S71)) (w : World) (hr0 : Kd.C k39 w A0 l0.length l0) (hc0 : l0.length ≤ c0) (h : y_q.f k l0 = some r) :
  Calls Try.prog 29 #[.slice A0 l0.length c0] w fun e w' => ∃ v0_ : Value, e = .returned (v0_) ∧ Kd.R k71 71 w' w.heap.size (fun _ => True) v0_ r ∧ Below w.heap.size w w' := by
 have hu39 := Try.underlying39
 have HR0 := z10a hr0
 have HC0 := z10a hc0
 clear hr0 hc0
 have HB := z10a (Below.refl w.heap.size w)
 have H : (y_q.l0 k (([] : List (S71))) l0 (l0.length : Int) 0) = some r := h
 clear h
 obtain ⟨y609, hy609⟩ : ∃ y_ : List (S71), y_ = (([] : List (S71))) := ⟨_, rfl⟩
 replace H : (y_q.l0 k y609 l0 (l0.length : Int) 0) = some r := by first | (rw [hy609]; with_reducible exact H) | (have H2_ := (Option.bind_some _ _).symm.trans H; rw [hy609]; with_reducible exact H2_) | (have H2_ := (Option.bind_some _ _).symm.trans H; with_reducible exact H2_) | with_reducible exact H | (rw [hy609]; exact H) | exact H
 have Ny609 := z10a hy609
 clear hy609
 have H' := z10a H
 clear H
 go_enter Try.func29, Try.ntmps29
 go_wp2_with (first | ((with_reducible refine gate_dst (N := 6) rfl ?_); refine Kd.R_lit k71 _ 71 ?hg (N := 6) ?hd (xs := ([] : List (S71))) (inner := []) (ok := fun _ => True) (okp := fun _ => True) ?hr ?hp (fun _ hk => hk) trivial (Below.refl _ _) (Nat.le_refl _) (by simp) ?_; (case hd => rfl); (case hg => rfl); (case hr => first | (go_simp; done) | (go_simp; rfl)); (case hp => exact (Reps.none _ _)); intro v610 w2 ho3 hb hg_ hnew_; clear hg_ hnew_; (first | rw [← Ny609.out] at ho3 | (simp only [Int.reduceToNat] at ho3; rw [← Ny609.out] at ho3)); have n0_ := z10a (Kd.R_lower ho3 (below_size (by repeat (first | (with_reducible first | exact HB.out | apply z10d | apply z10b | apply z10c) | exact HB.out)))); have n1_ := z10a (below_step (by repeat (first | (with_reducible first | exact HB.out | apply z10d | apply z10b | apply z10c) | exact HB.out)) hb); clear HB; have HO611 := n0_; have HB := n1_; clear n0_ n1_; clear hb ho3))
 go_loopg [3, 9] k (fun kq v3 v9 w' => ∃ (x3_1 : List (S71)) (x9_1 : Int), v9 = .int .i64 x9_1 ∧ Aside0 (y_q.l0 kq x3_1 l0 (l0.length : Int) x9_1 = some r) ∧ Aside0 (kq ≤ k) ∧ Aside0 (Kd.R k71 71 w' w.heap.size (fun _ => True) v3 x3_1) ∧ Aside0 (Below w.heap.size w w'))
 case atStart => exact ⟨(y609), (0), (by first | rfl | (simp; done) | (simp [*]; done)), H', ⟨Nat.le_refl _⟩, ⟨by (with_reducible repeat (first | apply Kd.R_alloc | apply Kd.R_drewN | apply Kd.R_drew)); exact HO611.out⟩, ⟨by repeat (first | (with_reducible first | exact HB.out | apply z10d | apply z10b | apply z10c) | exact HB.out)⟩⟩
 case round =>
  clear H'
  try clear c2
  try clear p2
  obtain ⟨x3_1, x9_1, rfl, HA, HK1, HO_3, HB⟩ := hrel
  cases gk with
  | zero => exact absurd HA.out (by simp [y_q.l0])
  | succ k1 =>
   have H := HA.out
   clear HA
   simp only [y_q.l0] at H
   by_cases c4 : x9_1 < (l0.length : Int)
   ·rw [if_pos c4] at H
    have c4b0 : decide (x9_1 < (l0.length : Int)) = true := decide_eq_true c4
    clear c4
    by_cases c5 : 0 ≤ x9_1
    ·rw [if_pos c5] at H
     have c5b0 : decide (0 ≤ x9_1) = true := decide_eq_true c5
     clear c5
     by_cases c6 : x9_1 < (l0.length : Int)
     ·rw [if_pos c6] at H
      have c6b0 : decide (x9_1 < (l0.length : Int)) = true := decide_eq_true c6
      clear c6
      by_cases c7 : x3_1.length + ((rd_T39 l0 x9_1).f0).length < 5864062014805
      ·rw [if_pos c7] at H
       have LMc7 := z10a c7
       clear c7
       obtain ⟨y614, hy614⟩ : ∃ y_ : List (S71), y_ = (x3_1 ++ ((rd_T39 l0 x9_1).f0)) := ⟨_, rfl⟩
       replace H : (y_q.l0 k1 y614 l0 (l0.length : Int) (wrap64 (x9_1 + 1))) = some r := by first | (rw [hy614]; with_reducible exact H) | (have H2_ := (Option.bind_some _ _).symm.trans H; rw [hy614]; with_reducible exact H2_) | (have H2_ := (Option.bind_some _ _).symm.trans H; with_reducible exact H2_) | with_reducible exact H | (rw [hy614]; exact H) | exact H
       have Ny614 := z10a hy614
       clear hy614
       have H' := z10a H
       clear H
       have p612 : 0 ≤ (x9_1 : Int) := z10f (by first | (with_reducible assumption) | assumption)
       have q612 : x9_1 < (l0.length : Int) := z10f (by first | (with_reducible assumption) | assumption)
       obtain ⟨ad612, A612_0, c612_0, e612, hx612_0, hl612_0, hi612_0⟩ := at_T39 HR0.out x9_1 p612 q612
       cases e612
       replace hx612_0 := (HB.out.cell (z10e w _ hx612_0)).trans hx612_0
       have HR612_0 := z10a hi612_0
       have HC612_0 := z10a hl612_0
       clear hi612_0 hl612_0
       replace p612 := eq_true p612
       replace q612 := eq_true q612
       go_wp2_with (first | ((with_reducible refine gate_dst (N := 5) rfl ?_); refine box_event ?hg (N := 5) ?hd (cs := #[.slice none 0 0]) (t := 39) ?hr ?_; (case hd => rfl); (case hg => rfl); (case hr => first | (go_simp; done) | (go_simp; rfl)); intro gb613 hg w8 hbox hb; have n0_ := z10a (Kd.R_below (by (with_reducible repeat (first | apply Kd.R_alloc | apply Kd.R_drewN | apply Kd.R_drew)); exact HO_3.out) hb); have n1_ := z10a (below_step (by repeat (first | (with_reducible first | exact HB.out | apply z10d | apply z10b | apply z10c) | exact HB.out)) hb); have n2_ := z10a (hbox); have n3_ := z10a ((by rw [hg]; exact (below_size (by repeat (first | (with_reducible first | exact HB.out | apply z10d | apply z10b | apply z10c) | exact HB.out))) : w.heap.size ≤ gb613)); have n4_ := z10a ((by rw [hg]; exact (below_size (by repeat (first | (with_reducible first | exact HB.out | apply z10d | apply z10b | apply z10c) | exact HB.out))) : w.heap.size ≤ gb613)); clear HO_3; clear HB; have HO_3 := n0_; have HB := n1_; have BK613 := n2_; have GW613 := n3_; have GE613 := n4_; clear n0_ n1_ n2_ n3_ n4_; clear hb hbox hg; have hcz9_0 : w8.cell? ⟨gb613, 0, none⟩ = some (.slice none 0 0) := (blk_cell BK613.out 0).trans rfl; have hfz9_0 := blk_frozen BK613.out 0) | ((with_reducible refine gate_builtin (b := .append) (xs := #[.tmp 13, .tmp 15]) rfl ?_); at_builtin; refine Kd.R_append_rows k71 (w0 := w) w.heap.size rfl (.tmp 13) (.tmp 15) 24 71 (.agg #[(.int .i64 0), (.int .i64 0), (.int .i64 0)]) 24 rfl Try.underlying24 info71 rfl (by decide) (by omega) u3 x3_1 ((rd_T39 l0 x9_1).f0) _ _ _ (fun _ => True) (fun _ => False) rfl rfl ?aO ?aR (fun _ _ h => h) (fun _ h => h.elim) ?aF ?aB ?aS ?aL ?_; (case aR => exact Kd.C_below HR612_0.out (by repeat (first | (with_reducible first | exact HB.out | apply z10d | apply z10b | apply z10c | refine below_set ?_ GE613.out) | exact HB.out))); (case aB => exact (by repeat (first | (with_reducible first | exact HB.out | apply z10d | apply z10b | apply z10c | refine below_set ?_ GE613.out) | exact HB.out))); (case aF => exact (fun _ _ => trivial)); (case aO => exact (by (with_reducible repeat (first | apply Kd.R_alloc | apply Kd.R_drewN | apply Kd.R_drew)); exact Kd.R_mono (Kd.R_far (p := ⟨gb613, 0, none⟩) (Kd.R_types HO_3.out BK613.out (by decide)) (fun _ hk => hk.2) (.slice A612_0 ((rd_T39 l0 x9_1).f0).length c612_0)) (fun _ hk => trivial))); (case aS => exact (below_size (by repeat (first | (with_reducible first | exact HB.out | apply z10d | apply z10b | apply z10c | refine below_set ?_ GE613.out) | exact HB.out)))); (case aL => have := LMc7.out; omega); intro v615 w10 ho hb hg hat; rw [← Ny614.out] at ho; have n0_ := z10a (blk_grown (g := gb613) (o := .cells #[.slice A612_0 ((rd_T39 l0 x9_1).f0).length c612_0] 39 (0, 0)) (by (with_reducible repeat (first | refine blk_drewN ?_ _ | refine blk_drew ?_ | refine blk_alloc ?_ _)); refine blk_put (cs := #[.slice none 0 0]) ?_ 0 _ rfl; (with_reducible repeat (first | refine blk_drewN ?_ _ | refine blk_drew ?_ | refine blk_alloc ?_ _)); exact BK613.out) hg (Kd.R_ne HO_3.out BK613.out (by decide))); have n1_ := z10a (hb); have n2_ := z10a (ho); clear BK613; clear HB; clear HO_3; have BK613 := n0_; have HB := n1_; have HO616 := n2_; clear n0_ n1_ n2_; clear ho hb hg hat))
       go_roundg k1
       case measure => have := HK1.out; omega
       case rel => exact ⟨(y614), (wrap64 (x9_1 + 1)), (by first | rfl | (simp; done) | (simp [*]; done)), H', ⟨by have := HK1.out; omega⟩, ⟨by (with_reducible repeat (first | apply Kd.R_alloc | apply Kd.R_drewN | apply Kd.R_drew)); exact HO616.out⟩, ⟨by repeat (first | (with_reducible first | exact HB.out | apply z10d | apply z10b | apply z10c | refine below_set ?_ GE613.out) | exact HB.out)⟩⟩
      ·rw [if_neg c7] at H
       exact absurd H (by simp)
     ·rw [if_neg c6] at H
      exact absurd H (by simp)
    ·rw [if_neg c5] at H
     exact absurd H (by simp)
   ·rw [if_neg c4] at H
    have c4b0 : decide (x9_1 < (l0.length : Int)) = false := decide_eq_false c4
    clear c4
    obtain rfl := Option.some.inj H
    go_wp2
    go_ret
    exact ⟨_, by first | rfl | (simp [errW_none, errW_some] <;> rfl) | (simp [*, errW_none, errW_some] <;> rfl), by (with_reducible repeat (first | apply Kd.R_alloc | apply Kd.R_drewN | apply Kd.R_drew)); exact HO_3.out, by repeat (first | (with_reducible first | exact HB.out | apply z10d | apply z10b | apply z10c) | exact HB.out)⟩
end Go.Proofs.Ytkcicbigpbdjpaa.P
end
