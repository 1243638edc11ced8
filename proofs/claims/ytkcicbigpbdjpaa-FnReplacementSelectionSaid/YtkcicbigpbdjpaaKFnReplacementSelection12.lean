-- merged by pack.py out of Px22 Px23 Px24 Px25 (words: printed by the kit's print.sh; what this claim does not use is left out)

import Derived.Test.YtkcicbigpbdjpaaKFnReplacementSelection1
import Derived.Test.YtkcicbigpbdjpaaKFnReplacementSelection3
import Derived.Test.YtkcicbigpbdjpaaKFnReplacementSelection6
import Derived.Test.YtkcicbigpbdjpaaKFnReplacementSelection11
namespace Go.Proofs.Ytkcicbigpbdjpaa
abbrev zt12 : Bool := true
abbrev zf12 : Bool := false
section
open Go.RowKit Go.Proofs.YtkcicbigpbdjpaaW.PrintWords Go.Proofs.YtkcicbigpbdjpaaW.PrintLast Go.Proofs.YtkcicbigpbdjpaaW.PrintMore
abbrev z12a := @Aside0.mk
abbrev z12b := @pw_below_drewN
abbrev z12c := @below_drew1
abbrev z12d := @below_alloc
abbrev z12e := @World.block_lt_of_cell?
abbrev z12f := @Option.bind_eq_some_iff
abbrev z12g := @of_decide_eq_true
abbrev z12h := @decide_eq_true
end
theorem zm12a {α β : Type} (f : α → β) (l : List α) : l.toArray.map f = (l.map f).toArray := by simp
theorem zm12b {α β : Type} (f : α → β) (a : α) (l : List α) : (a :: l).map f = f a :: l.map f := rfl
theorem zm12c {α β : Type} (f : α → β) : ([] : List α).map f = [] := rfl
theorem zm12d {α : Type} (n : Nat) (l : List α) : (l.drop n).length = l.length - n := List.length_drop
theorem zm12e {α : Type} (n : Nat) (l : List α) : (l.take n).length = min n l.length := List.length_take
theorem zp12a {α : Type} (l : List α) (i : Nat) (a : α) : l.toArray.setIfInBounds i a = (l.set i a).toArray := List.setIfInBounds_toArray l i a
theorem zp12b {α : Type} (x : α) (l : List α) (a : α) : (x :: l).set 0 a = a :: l := List.set_cons_zero
theorem zp12c {α : Type} (x : α) (l : List α) (n : Nat) (a : α) : (x :: l).set (n + 1) a = x :: l.set n a := List.set_cons_succ
end Go.Proofs.Ytkcicbigpbdjpaa
set_option maxHeartbeats 8000000
set_option maxRecDepth 100000
section
namespace Go.Proofs.Ytkcicbigpbdjpaa.P
open Go.RowKit Go.Proofs.YtkcicbigpbdjpaaW.PrintWords Go.Proofs.YtkcicbigpbdjpaaW.PrintLast Go.Proofs.YtkcicbigpbdjpaaW.PrintMore
attribute [local go_sem] max2_int min2_int max_two min_two max_three min_three max_four min_four
set_option linter.unusedVariables false
set_option linter.unusedSimpArgs false
def y_sb.f (k : Nat) (a0_0 : Int) (a0_1 : Int) (a0_2 : Int) : Option (ByteArray) := (y_tb.f a0_0 a0_1 a0_2).bind fun t563 => (if t563 = true then ((y_fb.f k a0_0).bind fun t564 => (if t564.size + 1 ≤ 9223372036854775807 then ((y_fb.f k a0_1).bind fun t565 => (if (t564 ++ (⟨#[46]⟩ : ByteArray)).size + t565.size ≤ 9223372036854775807 then (if ((t564 ++ (⟨#[46]⟩ : ByteArray)) ++ t565).size + 1 ≤ 9223372036854775807 then ((y_fb.f k a0_2).bind fun t566 => (if (((t564 ++ (⟨#[46]⟩ : ByteArray)) ++ t565) ++ (⟨#[46]⟩ : ByteArray)).size + t566.size ≤ 9223372036854775807 then (some ((((t564 ++ (⟨#[46]⟩ : ByteArray)) ++ t565) ++ (⟨#[46]⟩ : ByteArray)) ++ t566)) else (none))) else (none)) else (none))) else (none))) else (some (⟨#[]⟩ : ByteArray)))
def y_sb.T3 : Bool × List (List Nat × List Nat) := (true, [([], []), ([0], [0]), ([1], [1]), ([2], [2]), ([], []), ([4], [4]), ([5, 2], [5]), ([3, 6], [3, 6]), ([7], [7]), ([], []), ([9], [9]), ([10, 6], [10]), ([8, 11], [8, 11]), ([12, 11, 0, 1, 2, 3, 4, 5, 6, 7, 8, 9, 10, 11, 12], [12])])
def y_sb.B3 : List Nat := [0, 1, 3, 7, 0, 16, 55, 127, 255, 0, 512, 1655, 4095, 8191]
theorem y_sb.tab3 : rtab .any (opsOf Try.f139 3) = y_sb.T3 := by kernel_rfl
theorem y_sb.bits3 : waitsOk y_sb.T3.2 y_sb.B3 = true := by kernel_rfl
theorem y_sb.calls (k : Nat) (a0_0 : Int) (a0_1 : Int) (a0_2 : Int) (r : ByteArray) (w : World) (h : y_sb.f k a0_0 a0_1 a0_2 = some r) :
  Calls Try.prog 139 #[.agg #[.int .i64 a0_0, .int .i64 a0_1, .int .i64 a0_2]] w fun e w' => e = .returned (.string r) ∧ Below w.heap.size w w' := by
 have hu71 := Try.underlying71
 have HB := z12a (Below.refl w.heap.size w)
 have H := h
 unfold y_sb.f at H
 clear h
 replace H := z12f.mp H
 obtain ⟨t563, A20, H⟩ := H
 have A2 := z12a A20
 clear A20
 by_cases c3 : t563 = true
 ·subst c3
  rw [if_pos rfl] at H
  replace H := z12f.mp H
  obtain ⟨t564, A40, H⟩ := H
  have A4 := z12a A40
  clear A40
  by_cases c5 : t564.size + 1 ≤ 9223372036854775807
  ·rw [if_pos c5] at H
   have c5b0 := eq_true c5
   have c5b1 : decide (t564.size + 1 ≤ 9223372036854775807) = true := z12h c5
   try have c5b2 : (9223372036854775807 < t564.size + 1) = False := eq_false (Nat.not_lt.2 c5)
   replace H := z12f.mp H
   obtain ⟨t565, A60, H⟩ := H
   have A6 := z12a A60
   clear A60
   by_cases c7 : (t564 ++ (⟨#[46]⟩ : ByteArray)).size + t565.size ≤ 9223372036854775807
   ·rw [if_pos c7] at H
    have c7b0 := eq_true c7
    have c7b1 : decide ((t564 ++ (⟨#[46]⟩ : ByteArray)).size + t565.size ≤ 9223372036854775807) = true := z12h c7
    try have c7b2 : (9223372036854775807 < (t564 ++ (⟨#[46]⟩ : ByteArray)).size + t565.size) = False := eq_false (Nat.not_lt.2 c7)
    try have c7b3 : (9223372036854775807 < t564.size + 1 + t565.size) = False := eq_false (by have h_ := c7; simp only [ByteArray.size_append, show ∀ b_ : UInt8, (⟨#[b_]⟩ : ByteArray).size = 1 from fun _ => rfl] at h_; omega)
    by_cases c8 : ((t564 ++ (⟨#[46]⟩ : ByteArray)) ++ t565).size + 1 ≤ 9223372036854775807
    ·rw [if_pos c8] at H
     have c8b0 := eq_true c8
     have c8b1 : decide (((t564 ++ (⟨#[46]⟩ : ByteArray)) ++ t565).size + 1 ≤ 9223372036854775807) = true := z12h c8
     try have c8b2 : (9223372036854775807 < ((t564 ++ (⟨#[46]⟩ : ByteArray)) ++ t565).size + 1) = False := eq_false (Nat.not_lt.2 c8)
     try have c8b3 : (9223372036854775807 < t564.size + 1 + t565.size + 1) = False := eq_false (by have h_ := c8; simp only [ByteArray.size_append, show ∀ b_ : UInt8, (⟨#[b_]⟩ : ByteArray).size = 1 from fun _ => rfl] at h_; omega)
     replace H := z12f.mp H
     obtain ⟨t566, A90, H⟩ := H
     have A9 := z12a A90
     clear A90
     by_cases c10 : (((t564 ++ (⟨#[46]⟩ : ByteArray)) ++ t565) ++ (⟨#[46]⟩ : ByteArray)).size + t566.size ≤ 9223372036854775807
     ·rw [if_pos c10] at H
      have c10b0 := eq_true c10
      have c10b1 : decide ((((t564 ++ (⟨#[46]⟩ : ByteArray)) ++ t565) ++ (⟨#[46]⟩ : ByteArray)).size + t566.size ≤ 9223372036854775807) = true := z12h c10
      try have c10b2 : (9223372036854775807 < (((t564 ++ (⟨#[46]⟩ : ByteArray)) ++ t565) ++ (⟨#[46]⟩ : ByteArray)).size + t566.size) = False := eq_false (Nat.not_lt.2 c10)
      try have c10b3 : (9223372036854775807 < t564.size + 1 + t565.size + 1 + t566.size) = False := eq_false (by have h_ := c10; simp only [ByteArray.size_append, show ∀ b_ : UInt8, (⟨#[b_]⟩ : ByteArray).size = 1 from fun _ => rfl] at h_; omega)
      obtain rfl := Option.some.inj H
      go_enter Try.func139, Try.ntmps139
      try go_wp2_with (first | ((with_reducible refine gate_dst (N := 1) rfl ?_); refine box_event ?hg (N := 1) ?hd (cs := #[.int .i64 a0_0, .int .i64 a0_1, .int .i64 a0_2]) (t := 71) ?hr ?_; (case hd => rfl); (case hg => rfl); (case hr => first | (go_simp; done) | (go_simp; rfl)); intro gb562 hg w11 hbox hb; have n0_ := z12a (below_step (by repeat (first | (with_reducible first | exact HB.out | apply z12d | apply z12b | apply z12c) | exact HB.out)) hb); have n1_ := z12a (hbox); have n2_ := z12a ((by rw [hg]; exact (below_size (by repeat (first | (with_reducible first | exact HB.out | apply z12d | apply z12b | apply z12c) | exact HB.out))) : w.heap.size ≤ gb562)); have n3_ := z12a ((by rw [hg]; exact (below_size (by repeat (first | (with_reducible first | exact HB.out | apply z12d | apply z12b | apply z12c) | exact HB.out))) : w.heap.size ≤ gb562)); clear HB; have HB := n0_; have BK562 := n1_; have GW562 := n2_; have GE562 := n3_; clear n0_ n1_ n2_ n3_; clear hb hbox hg; obtain ⟨hcz12_0, hcz12_1, hcz12_2⟩ := cells_3 BK562.out; obtain ⟨hfz12_0, hfz12_1, hfz12_2⟩ := frz_3 BK562.out) | ((with_reducible refine gate_callee (f := 157) rfl ?_); refine goesL_ (some 4) rfl rfl Try.func157 (by kernel_rfl) rfl #[.agg #[.int .i64 a0_0, .int .i64 a0_1, .int .i64 a0_2]] rfl (by (try simp only [zm12a, zm12b, zm12c]); first | done | rfl | (simp only [zm12d, zm12e]; rfl)) ?_; (with_reducible refine (y_tb.calls a0_0 a0_1 a0_2 true _ A2.out).mono ?_); rintro e w13 ⟨rfl, hb⟩; refine ⟨_, rfl, ?_⟩; have n0_ := z12a (blk_below (g := gb562) (o := .cells #[.int .i64 a0_0, .int .i64 a0_1, .int .i64 a0_2] 71 (0, 0)) (by (with_reducible repeat (first | refine blk_drewN ?_ _ | refine blk_drew ?_ | refine blk_alloc ?_ _)); exact BK562.out) hb); have n1_ := z12a (below_step (by repeat (first | (with_reducible first | exact HB.out | apply z12d | apply z12b | apply z12c | refine below_set ?_ GE562.out) | exact HB.out)) hb); clear BK562; clear HB; have BK562 := n0_; have HB := n1_; clear n0_ n1_; (try clear hb); (try clear hb2); (try clear hk); (try clear hi)))
      have n0_ := z12a (blk_drew BK562.out)
      have n1_ := z12a (z12c HB.out)
      clear BK562
      clear HB
      have BK562 := n0_
      have HB := n1_
      clear n0_ n1_
      refine start_ (n := 14) (S := fun w' => w'.cell? ⟨gb562, 0, none⟩ = some (.int .i64 a0_0) ∧ w'.cell? ⟨gb562, 1, none⟩ = some (.int .i64 a0_1) ∧ w'.cell? ⟨gb562, 2, none⟩ = some (.int .i64 a0_2)) (ds := []) #[zf12,zf12,zf12,zf12,zf12,zf12,zf12,zf12,zf12,zf12,zf12,zf12,zf12,zf12] (by kernel_rfl) rfl rfl ⟨(blk_cell BK562.out 0).trans rfl, (blk_cell BK562.out 1).trans rfl, (blk_cell BK562.out 2).trans rfl⟩ (fun hHeld => ?_); refine with_tabW y_sb.tab3 y_sb.bits3 (fun HT_ HW_ => ?_)
      generalize w13.drew = w14 at BK562 HB hHeld ⊢
      refine pure_ (i := 0) (N := some 6) (v := ?_) (a' := ?_) #[zt12,zf12,zf12,zf12,zf12,zf12,zf12,zf12,zf12,zf12,zf12,zf12,zf12,zf12] rfl rfl (any_of HT_.out (by kernel_rfl)) (fun _ _ _ h => h) (Or.inl ⟨by rfl, ?_⟩) ?_ ?_
      rotate_left
      ·intro w'
       go_simp
       with_reducible rfl
      rotate_left
      ·simp only [Act.put, zp12a, zp12b, zp12c, i64_w, i32_w]
       rfl
      refine pure_ (i := 4) (N := some 10) (v := ?_) (a' := ?_) #[zt12,zf12,zf12,zf12,zt12,zf12,zf12,zf12,zf12,zf12,zf12,zf12,zf12,zf12] rfl rfl (any_of HT_.out (by kernel_rfl)) (fun _ _ _ h => h) (Or.inl ⟨by rfl, ?_⟩) ?_ ?_
      rotate_left
      ·intro w'
       go_simp
       with_reducible rfl
      rotate_left
      ·simp only [Act.put, zp12a, zp12b, zp12c, i64_w, i32_w]
       rfl
      refine pure_ (i := 9) (N := some 15) (v := ?_) (a' := ?_) #[zt12,zf12,zf12,zf12,zt12,zf12,zf12,zf12,zf12,zt12,zf12,zf12,zf12,zf12] rfl rfl (any_of HT_.out (by kernel_rfl)) (fun _ _ _ h => h) (Or.inl ⟨by rfl, ?_⟩) ?_ ?_
      rotate_left
      ·intro w'
       go_simp
       with_reducible rfl
      rotate_left
      ·simp only [Act.put, zp12a, zp12b, zp12c, i64_w, i32_w]
       rfl
      refine take_ (i := 1) (N := some 7) (v := ?_) (a' := ?_) #[zt12,zt12,zf12,zf12,zt12,zf12,zf12,zf12,zf12,zt12,zf12,zf12,zf12,zf12] rfl rfl (take_ofW HT_.out HW_.out (by kernel_rfl)) (fun _ _ _ h => h) (Or.inl ⟨by rfl, ?_⟩) hHeld ?_ ?_
      rotate_left
      ·rintro w' ⟨s0, s1, s2⟩
       go_simp
       with_reducible rfl
      rotate_left
      ·simp only [Act.put, zp12a, zp12b, zp12c, i64_w, i32_w]
       rfl
      refine take_ (i := 5) (N := some 11) (v := ?_) (a' := ?_) #[zt12,zt12,zf12,zf12,zt12,zt12,zf12,zf12,zf12,zt12,zf12,zf12,zf12,zf12] rfl rfl (take_ofW HT_.out HW_.out (by kernel_rfl)) (fun _ _ _ h => h) (Or.inl ⟨by rfl, ?_⟩) hHeld ?_ ?_
      rotate_left
      ·rintro w' ⟨s0, s1, s2⟩
       go_simp
       with_reducible rfl
      rotate_left
      ·simp only [Act.put, zp12a, zp12b, zp12c, i64_w, i32_w]
       rfl
      refine take_ (i := 10) (N := some 16) (v := ?_) (a' := ?_) #[zt12,zt12,zf12,zf12,zt12,zt12,zf12,zf12,zf12,zt12,zt12,zf12,zf12,zf12] rfl rfl (take_ofW HT_.out HW_.out (by kernel_rfl)) (fun _ _ _ h => h) (Or.inl ⟨by rfl, ?_⟩) hHeld ?_ ?_
      rotate_left
      ·rintro w' ⟨s0, s1, s2⟩
       go_simp
       with_reducible rfl
      rotate_left
      ·simp only [Act.put, zp12a, zp12b, zp12c, i64_w, i32_w]
       rfl
      refine one_ (i := 2) (N := some 8) #[zt12,zt12,zt12,zf12,zt12,zt12,zf12,zf12,zf12,zt12,zt12,zf12,zf12,zf12] rfl rfl (one_of HT_.out (by kernel_rfl)) (by decide) (fun K hK => ?_)
      refine goes_ Try.func162 (by kernel_rfl) rfl #[.int .i64 a0_0] (by rfl) rfl rfl (by (try simp only [zm12a, zm12b, zm12c]); first | done | rfl | (simp only [zm12d, zm12e]; rfl)) ?_
      with_reducible refine (y_fb.calls k a0_0 t564 _ A4.out).mono ?_
      rintro e w15 ⟨rfl, hb⟩
      refine ⟨_, rfl, ?_⟩
      have n0_ := z12a (blk_below (g := gb562) (o := .cells #[.int .i64 a0_0, .int .i64 a0_1, .int .i64 a0_2] 71 (0, 0)) (by (with_reducible repeat (first | refine blk_drewN ?_ _ | refine blk_drew ?_ | refine blk_alloc ?_ _)); exact BK562.out) hb)
      have n1_ := z12a (below_step (by repeat (first | (with_reducible first | exact HB.out | apply z12d | apply z12b | apply z12c | refine below_set ?_ GE562.out) | exact HB.out)) hb)
      clear BK562
      clear HB
      have BK562 := n0_
      have HB := n1_
      clear n0_ n1_
      (try clear hb)
      (try clear hb2)
      (try clear hk)
      (try clear hi)
      refine hK.out _ _ ⟨(blk_cell BK562.out 0).trans rfl, (blk_cell BK562.out 1).trans rfl, (blk_cell BK562.out 2).trans rfl⟩ (fun hHeld => ?_)
      clear hK K
      refine norm_ (a' := ?_) ?_ ?_
      rotate_left
      ·show Act.put _ (some 8) _ = _
       simp only [Act.put, zp12a, zp12b, zp12c, i64_w, i32_w]
       rfl
      refine pure_ (i := 3) (N := some 9) (v := ?_) (a' := ?_) #[zt12,zt12,zt12,zt12,zt12,zt12,zf12,zf12,zf12,zt12,zt12,zf12,zf12,zf12] rfl rfl (any_of HT_.out (by kernel_rfl)) (fun _ _ _ h => h) (Or.inl ⟨by rfl, ?_⟩) ?_ ?_
      rotate_left
      ·intro w'
       go_simp
       with_reducible rfl
      rotate_left
      ·simp only [Act.put, zp12a, zp12b, zp12c, i64_w, i32_w]
       rfl
      refine one_ (i := 6) (N := some 12) #[zt12,zt12,zt12,zt12,zt12,zt12,zt12,zf12,zf12,zt12,zt12,zf12,zf12,zf12] rfl rfl (one_of HT_.out (by kernel_rfl)) (by decide) (fun K hK => ?_)
      refine goes_ Try.func162 (by kernel_rfl) rfl #[.int .i64 a0_1] (by rfl) rfl rfl (by (try simp only [zm12a, zm12b, zm12c]); first | done | rfl | (simp only [zm12d, zm12e]; rfl)) ?_
      with_reducible refine (y_fb.calls k a0_1 t565 _ A6.out).mono ?_
      rintro e w16 ⟨rfl, hb⟩
      refine ⟨_, rfl, ?_⟩
      have n0_ := z12a (blk_below (g := gb562) (o := .cells #[.int .i64 a0_0, .int .i64 a0_1, .int .i64 a0_2] 71 (0, 0)) (by (with_reducible repeat (first | refine blk_drewN ?_ _ | refine blk_drew ?_ | refine blk_alloc ?_ _)); exact BK562.out) hb)
      have n1_ := z12a (below_step (by repeat (first | (with_reducible first | exact HB.out | apply z12d | apply z12b | apply z12c | refine below_set ?_ GE562.out) | exact HB.out)) hb)
      clear BK562
      clear HB
      have BK562 := n0_
      have HB := n1_
      clear n0_ n1_
      (try clear hb)
      (try clear hb2)
      (try clear hk)
      (try clear hi)
      refine hK.out _ _ ⟨(blk_cell BK562.out 0).trans rfl, (blk_cell BK562.out 1).trans rfl, (blk_cell BK562.out 2).trans rfl⟩ (fun hHeld => ?_)
      clear hK K
      refine norm_ (a' := ?_) ?_ ?_
      rotate_left
      ·show Act.put _ (some 12) _ = _
       simp only [Act.put, zp12a, zp12b, zp12c, i64_w, i32_w]
       rfl
      refine pure_ (i := 7) (N := some 13) (v := ?_) (a' := ?_) #[zt12,zt12,zt12,zt12,zt12,zt12,zt12,zt12,zf12,zt12,zt12,zf12,zf12,zf12] rfl rfl (any_of HT_.out (by kernel_rfl)) (fun _ _ _ h => h) (Or.inl ⟨by rfl, ?_⟩) ?_ ?_
      rotate_left
      ·intro w'
       go_simp
       with_reducible rfl
      rotate_left
      ·simp only [Act.put, zp12a, zp12b, zp12c, i64_w, i32_w]
       rfl
      refine pure_ (i := 8) (N := some 14) (v := ?_) (a' := ?_) #[zt12,zt12,zt12,zt12,zt12,zt12,zt12,zt12,zt12,zt12,zt12,zf12,zf12,zf12] rfl rfl (any_of HT_.out (by kernel_rfl)) (fun _ _ _ h => h) (Or.inl ⟨by rfl, ?_⟩) ?_ ?_
      rotate_left
      ·intro w'
       go_simp
       with_reducible rfl
      rotate_left
      ·simp only [Act.put, zp12a, zp12b, zp12c, i64_w, i32_w]
       rfl
      refine one_ (i := 11) (N := some 17) #[zt12,zt12,zt12,zt12,zt12,zt12,zt12,zt12,zt12,zt12,zt12,zt12,zf12,zf12] rfl rfl (one_of HT_.out (by kernel_rfl)) (by decide) (fun K hK => ?_)
      refine goes_ Try.func162 (by kernel_rfl) rfl #[.int .i64 a0_2] (by rfl) rfl rfl (by (try simp only [zm12a, zm12b, zm12c]); first | done | rfl | (simp only [zm12d, zm12e]; rfl)) ?_
      with_reducible refine (y_fb.calls k a0_2 t566 _ A9.out).mono ?_
      rintro e w17 ⟨rfl, hb⟩
      refine ⟨_, rfl, ?_⟩
      have n0_ := z12a (blk_below (g := gb562) (o := .cells #[.int .i64 a0_0, .int .i64 a0_1, .int .i64 a0_2] 71 (0, 0)) (by (with_reducible repeat (first | refine blk_drewN ?_ _ | refine blk_drew ?_ | refine blk_alloc ?_ _)); exact BK562.out) hb)
      have n1_ := z12a (below_step (by repeat (first | (with_reducible first | exact HB.out | apply z12d | apply z12b | apply z12c | refine below_set ?_ GE562.out) | exact HB.out)) hb)
      clear BK562
      clear HB
      have BK562 := n0_
      have HB := n1_
      clear n0_ n1_
      (try clear hb)
      (try clear hb2)
      (try clear hk)
      (try clear hi)
      refine hK.out _ _ ⟨(blk_cell BK562.out 0).trans rfl, (blk_cell BK562.out 1).trans rfl, (blk_cell BK562.out 2).trans rfl⟩ (fun hHeld => ?_)
      clear hK K
      refine norm_ (a' := ?_) ?_ ?_
      rotate_left
      ·show Act.put _ (some 17) _ = _
       simp only [Act.put, zp12a, zp12b, zp12c, i64_w, i32_w]
       rfl
      refine pure_ (i := 12) (N := some 18) (v := ?_) (a' := ?_) #[zt12,zt12,zt12,zt12,zt12,zt12,zt12,zt12,zt12,zt12,zt12,zt12,zt12,zf12] rfl rfl (any_of HT_.out (by kernel_rfl)) (fun _ _ _ h => h) (Or.inl ⟨by rfl, ?_⟩) ?_ ?_
      rotate_left
      ·intro w'
       go_simp
       with_reducible rfl
      rotate_left
      ·simp only [Act.put, zp12a, zp12b, zp12c, i64_w, i32_w]
       rfl
      refine pure_ (i := 13) (N := some 2) (v := ?_) (a' := ?_) #[zt12,zt12,zt12,zt12,zt12,zt12,zt12,zt12,zt12,zt12,zt12,zt12,zt12,zt12] rfl rfl (any_of HT_.out (by kernel_rfl)) (fun _ _ _ h => h) (Or.inl ⟨by rfl, ?_⟩) ?_ ?_
      rotate_left
      ·intro w'
       go_simp
       with_reducible rfl
      rotate_left
      ·simp only [Act.put, zp12a, zp12b, zp12c, i64_w, i32_w]
       rfl
      refine done_ (done_of HT_.out (by kernel_rfl)) ?_
      try go_wp2
      go_ret
      exact ⟨by first | rfl | (simp [errW_none, errW_some] <;> rfl) | (simp [*, errW_none, errW_some] <;> rfl), by repeat (first | (with_reducible first | exact HB.out | apply z12d | apply z12b | apply z12c | refine below_set ?_ GE562.out) | exact HB.out)⟩
     ·rw [if_neg c10] at H
      exact absurd H (by simp)
    ·rw [if_neg c8] at H
     exact absurd H (by simp)
   ·rw [if_neg c7] at H
    exact absurd H (by simp)
  ·rw [if_neg c5] at H
   exact absurd H (by simp)
 ·replace c3 := Bool.eq_false_iff.mpr c3
  subst c3
  have H1 : (some (⟨#[]⟩ : ByteArray)) = some r := by rw [if_neg (show ¬ (false = true) by decide)] at H; exact H
  clear H
  have H := H1
  clear H1
  obtain rfl := Option.some.inj H
  go_enter Try.func139, Try.ntmps139
  go_wp2_with (first | ((with_reducible refine gate_dst (N := 1) rfl ?_); refine box_event ?hg (N := 1) ?hd (cs := #[.int .i64 a0_0, .int .i64 a0_1, .int .i64 a0_2]) (t := 71) ?hr ?_; (case hd => rfl); (case hg => rfl); (case hr => first | (go_simp; done) | (go_simp; rfl)); intro gb562 hg w18 hbox hb; have n0_ := z12a (below_step (by repeat (first | (with_reducible first | exact HB.out | apply z12d | apply z12b | apply z12c) | exact HB.out)) hb); have n1_ := z12a (hbox); have n2_ := z12a ((by rw [hg]; exact (below_size (by repeat (first | (with_reducible first | exact HB.out | apply z12d | apply z12b | apply z12c) | exact HB.out))) : w.heap.size ≤ gb562)); have n3_ := z12a ((by rw [hg]; exact (below_size (by repeat (first | (with_reducible first | exact HB.out | apply z12d | apply z12b | apply z12c) | exact HB.out))) : w.heap.size ≤ gb562)); clear HB; have HB := n0_; have BK562 := n1_; have GW562 := n2_; have GE562 := n3_; clear n0_ n1_ n2_ n3_; clear hb hbox hg; obtain ⟨hcz19_0, hcz19_1, hcz19_2⟩ := cells_3 BK562.out; obtain ⟨hfz19_0, hfz19_1, hfz19_2⟩ := frz_3 BK562.out) | ((with_reducible refine gate_callee (f := 157) rfl ?_); refine goesL_ (some 4) rfl rfl Try.func157 (by kernel_rfl) rfl #[.agg #[.int .i64 a0_0, .int .i64 a0_1, .int .i64 a0_2]] rfl (by (try simp only [zm12a, zm12b, zm12c]); first | done | rfl | (simp only [zm12d, zm12e]; rfl)) ?_; (with_reducible refine (y_tb.calls a0_0 a0_1 a0_2 false _ A2.out).mono ?_); rintro e w20 ⟨rfl, hb⟩; refine ⟨_, rfl, ?_⟩; have n0_ := z12a (blk_below (g := gb562) (o := .cells #[.int .i64 a0_0, .int .i64 a0_1, .int .i64 a0_2] 71 (0, 0)) (by (with_reducible repeat (first | refine blk_drewN ?_ _ | refine blk_drew ?_ | refine blk_alloc ?_ _)); exact BK562.out) hb); have n1_ := z12a (below_step (by repeat (first | (with_reducible first | exact HB.out | apply z12d | apply z12b | apply z12c | refine below_set ?_ GE562.out) | exact HB.out)) hb); clear BK562; clear HB; have BK562 := n0_; have HB := n1_; clear n0_ n1_; (try clear hb); (try clear hb2); (try clear hk); (try clear hi)))
  go_ret
  exact ⟨by first | rfl | (simp [errW_none, errW_some] <;> rfl) | (simp [*, errW_none, errW_some] <;> rfl), by repeat (first | (with_reducible first | exact HB.out | apply z12d | apply z12b | apply z12c | refine below_set ?_ GE562.out) | exact HB.out)⟩
def y_hb.l0 : Nat → List ByteArray → List (S71) → Int → Int → Option (ByteArray)
 | 0, _, _, _, _ => none
 | k + 1, x3, x7, x8, x9 => if x9 < x8 then (if 0 ≤ x9 then (if x9 < (x7.length : Int) then ((y_sb.f k ((rd_T71 x7 x9).f0) ((rd_T71 x7 x9).f1) ((rd_T71 x7 x9).f2)).bind fun t572 => (if x3.length < 8796093022208 then (y_hb.l0 k (x3 ++ [t572]) x7 x8 (wrap64 (x9 + 1))) else (none))) else (none)) else (none)) else ((y_kb.f k x3 (⟨#[32]⟩ : ByteArray)).bind fun t576 => (some t576))
def y_hb.f (k : Nat) (l0 : List (S71)) : Option (ByteArray) := y_hb.l0 k (([] : List ByteArray)) l0 (l0.length : Int) 0
theorem y_hb.calls (k : Nat) (A0 : Option Addr) (c0 : Nat) (l0 : List (S71)) (r : ByteArray) (w : World) (hr0 : Kd.C k71 w A0 l0.length l0) (hc0 : l0.length ≤ c0) (h : y_hb.f k l0 = some r) :
  Calls Try.prog 158 #[.slice A0 l0.length c0] w fun e w' => e = .returned (.string r) ∧ Below w.heap.size w w' := by
 have hu71 := Try.underlying71
 have HR0 := z12a hr0
 have HC0 := z12a hc0
 clear hr0 hc0
 have HB := z12a (Below.refl w.heap.size w)
 have H : (y_hb.l0 k (([] : List ByteArray)) l0 (l0.length : Int) 0) = some r := h
 clear h
 obtain ⟨y567, hy567⟩ : ∃ y_ : List ByteArray, y_ = (([] : List ByteArray)) := ⟨_, rfl⟩
 replace H : (y_hb.l0 k y567 l0 (l0.length : Int) 0) = some r := by first | (rw [hy567]; with_reducible exact H) | (have H2_ := (Option.bind_some _ _).symm.trans H; rw [hy567]; with_reducible exact H2_) | (have H2_ := (Option.bind_some _ _).symm.trans H; with_reducible exact H2_) | with_reducible exact H | (rw [hy567]; exact H) | exact H
 have Ny567 := z12a hy567
 clear hy567
 have H' := z12a H
 clear H
 go_enter Try.func158, Try.ntmps158
 go_wp2_with (first | ((with_reducible refine gate_dst (N := 6) rfl ?_); refine Kd.R_lit Kd.string _ 9 ?hg (N := 6) ?hd (xs := ([] : List ByteArray)) (inner := []) (ok := fun _ => True) (okp := fun _ => True) ?hr ?hp (fun _ hk => hk) trivial (Below.refl _ _) (Nat.le_refl _) (by simp) ?_; (case hd => rfl); (case hg => rfl); (case hr => first | (go_simp; done) | (go_simp; rfl)); (case hp => exact (Reps.none _ _)); intro v568 w2 ho3 hb hg_ hnew_; clear hg_ hnew_; (first | rw [← Ny567.out] at ho3 | (simp only [Int.reduceToNat] at ho3; rw [← Ny567.out] at ho3)); have n0_ := z12a (Kd.R_lower ho3 (below_size (by repeat (first | (with_reducible first | exact HB.out | apply z12d | apply z12b | apply z12c) | exact HB.out)))); have n1_ := z12a (below_step (by repeat (first | (with_reducible first | exact HB.out | apply z12d | apply z12b | apply z12c) | exact HB.out)) hb); clear HB; have HO569 := n0_; have HB := n1_; clear n0_ n1_; clear hb ho3))
 go_loopg [3, 9] k (fun kq v3 v9 w' => ∃ (x3_1 : List ByteArray) (x9_1 : Int), v9 = .int .i64 x9_1 ∧ Aside0 (y_hb.l0 kq x3_1 l0 (l0.length : Int) x9_1 = some r) ∧ Aside0 (kq ≤ k) ∧ Aside0 (Kd.R Kd.string 9 w' w.heap.size (fun _ => True) v3 x3_1) ∧ Aside0 (Below w.heap.size w w'))
 case atStart => exact ⟨(y567), (0), (by first | rfl | (simp; done) | (simp [*]; done)), H', ⟨Nat.le_refl _⟩, ⟨by (with_reducible repeat (first | apply Kd.R_alloc | apply Kd.R_drewN | apply Kd.R_drew)); exact HO569.out⟩, ⟨by repeat (first | (with_reducible first | exact HB.out | apply z12d | apply z12b | apply z12c) | exact HB.out)⟩⟩
 case round =>
  clear H'
  try clear c1
  try clear p2
  obtain ⟨x3_1, x9_1, rfl, HA, HK1, HO_3, HB⟩ := hrel
  cases gk with
  | zero => exact absurd HA.out (by simp [y_hb.l0])
  | succ k1 =>
   have H := HA.out
   clear HA
   simp only [y_hb.l0] at H
   by_cases c4 : x9_1 < (l0.length : Int)
   ·rw [if_pos c4] at H
    have c4b0 : decide (x9_1 < (l0.length : Int)) = true := z12h c4
    clear c4
    by_cases c5 : 0 ≤ x9_1
    ·rw [if_pos c5] at H
     have c5b0 : decide (0 ≤ x9_1) = true := z12h c5
     clear c5
     by_cases c6 : x9_1 < (l0.length : Int)
     ·rw [if_pos c6] at H
      have c6b0 : decide (x9_1 < (l0.length : Int)) = true := z12h c6
      clear c6
      replace H := z12f.mp H
      obtain ⟨t572, A70, H⟩ := H
      have A7 := z12a A70
      clear A70
      by_cases c8 : x3_1.length < 8796093022208
      ·rw [if_pos c8] at H
       have LMc8 := z12a c8
       clear c8
       obtain ⟨y573, hy573⟩ : ∃ y_ : List ByteArray, y_ = (x3_1 ++ [t572]) := ⟨_, rfl⟩
       replace H : (y_hb.l0 k1 y573 l0 (l0.length : Int) (wrap64 (x9_1 + 1))) = some r := by first | (rw [hy573]; with_reducible exact H) | (have H2_ := (Option.bind_some _ _).symm.trans H; rw [hy573]; with_reducible exact H2_) | (have H2_ := (Option.bind_some _ _).symm.trans H; with_reducible exact H2_) | with_reducible exact H | (rw [hy573]; exact H) | exact H
       have Ny573 := z12a hy573
       clear hy573
       have H' := z12a H
       clear H
       have p570 : 0 ≤ (x9_1 : Int) := z12g (by first | (with_reducible assumption) | assumption)
       have q570 : x9_1 < (l0.length : Int) := z12g (by first | (with_reducible assumption) | assumption)
       obtain ⟨ad570, e570, hx570_0, hx570_1, hx570_2⟩ := at_T71 HR0.out x9_1 p570 q570
       cases e570
       replace hx570_0 := (HB.out.cell (z12e w _ hx570_0)).trans hx570_0
       replace hx570_1 := (HB.out.cell (z12e w _ hx570_1)).trans hx570_1
       replace hx570_2 := (HB.out.cell (z12e w _ hx570_2)).trans hx570_2
       replace p570 := eq_true p570
       replace q570 := eq_true q570
       go_wp2_with (first | ((with_reducible refine gate_dst (N := 5) rfl ?_); refine box_event ?hg (N := 5) ?hd (cs := #[.int .i64 0, .int .i64 0, .int .i64 0]) (t := 71) ?hr ?_; (case hd => rfl); (case hg => rfl); (case hr => first | (go_simp; done) | (go_simp; rfl)); intro gb571 hg w9 hbox hb; have n0_ := z12a (Kd.R_below (by (with_reducible repeat (first | apply Kd.R_alloc | apply Kd.R_drewN | apply Kd.R_drew)); exact HO_3.out) hb); have n1_ := z12a (below_step (by repeat (first | (with_reducible first | exact HB.out | apply z12d | apply z12b | apply z12c) | exact HB.out)) hb); have n2_ := z12a (hbox); have n3_ := z12a ((by rw [hg]; exact (below_size (by repeat (first | (with_reducible first | exact HB.out | apply z12d | apply z12b | apply z12c) | exact HB.out))) : w.heap.size ≤ gb571)); have n4_ := z12a ((by rw [hg]; exact (below_size (by repeat (first | (with_reducible first | exact HB.out | apply z12d | apply z12b | apply z12c) | exact HB.out))) : w.heap.size ≤ gb571)); clear HO_3; clear HB; have HO_3 := n0_; have HB := n1_; have BK571 := n2_; have GW571 := n3_; have GE571 := n4_; clear n0_ n1_ n2_ n3_ n4_; clear hb hbox hg; obtain ⟨hcz10_0, hcz10_1, hcz10_2⟩ := cells_3 BK571.out; obtain ⟨hfz10_0, hfz10_1, hfz10_2⟩ := frz_3 BK571.out) | ((with_reducible refine gate_callee (f := 139) rfl ?_); refine goesL_ (some 15) rfl rfl Try.func139 (by kernel_rfl) rfl #[.agg #[.int .i64 ((rd_T71 l0 x9_1).f0), .int .i64 ((rd_T71 l0 x9_1).f1), .int .i64 ((rd_T71 l0 x9_1).f2)]] rfl (by (try simp only [zm12a, zm12b, zm12c]); first | done | rfl | (simp only [zm12d, zm12e]; rfl)) ?_; (with_reducible refine (y_sb.calls k1 ((rd_T71 l0 x9_1).f0) ((rd_T71 l0 x9_1).f1) ((rd_T71 l0 x9_1).f2) t572 _ A7.out).mono ?_); rintro e w11 ⟨rfl, hb⟩; refine ⟨_, rfl, ?_⟩; have n0_ := z12a (Kd.R_below (by (with_reducible repeat (first | apply Kd.R_alloc | apply Kd.R_drewN | apply Kd.R_drew)); exact (Kd.R_mono (Kd.R_far (p := ⟨gb571, 2, none⟩) (Kd.R_far (p := ⟨gb571, 1, none⟩) (Kd.R_far (p := ⟨gb571, 0, none⟩) (Kd.R_types HO_3.out BK571.out (by decide)) (fun _ hk => hk.2) (.int .i64 ((rd_T71 l0 x9_1).f0))) (fun _ hk => hk.2) (.int .i64 ((rd_T71 l0 x9_1).f1))) (fun _ hk => hk.2) (.int .i64 ((rd_T71 l0 x9_1).f2))) (fun _ h_ => h_.1))) hb); have n1_ := z12a (blk_below (g := gb571) (o := .cells #[.int .i64 ((rd_T71 l0 x9_1).f0), .int .i64 ((rd_T71 l0 x9_1).f1), .int .i64 ((rd_T71 l0 x9_1).f2)] 71 (0, 0)) (by (with_reducible repeat (first | refine blk_drewN ?_ _ | refine blk_drew ?_ | refine blk_alloc ?_ _)); refine blk_put (cs := #[.int .i64 ((rd_T71 l0 x9_1).f0), .int .i64 ((rd_T71 l0 x9_1).f1), .int .i64 0]) ?_ 2 _ rfl; (with_reducible repeat (first | refine blk_drewN ?_ _ | refine blk_drew ?_ | refine blk_alloc ?_ _)); refine blk_put (cs := #[.int .i64 ((rd_T71 l0 x9_1).f0), .int .i64 0, .int .i64 0]) ?_ 1 _ rfl; (with_reducible repeat (first | refine blk_drewN ?_ _ | refine blk_drew ?_ | refine blk_alloc ?_ _)); refine blk_put (cs := #[.int .i64 0, .int .i64 0, .int .i64 0]) ?_ 0 _ rfl; (with_reducible repeat (first | refine blk_drewN ?_ _ | refine blk_drew ?_ | refine blk_alloc ?_ _)); exact BK571.out) hb); have n2_ := z12a (below_step (by repeat (first | (with_reducible first | exact HB.out | apply z12d | apply z12b | apply z12c | refine below_set ?_ GE571.out) | exact HB.out)) hb); clear HO_3; clear BK571; clear HB; have HO_3 := n0_; have BK571 := n1_; have HB := n2_; clear n0_ n1_ n2_; (try clear hb); (try clear hb2); (try clear hk); (try clear hi)) | ((with_reducible refine gate_builtin (b := .append) (xs := #[.tmp 13, .tmp 16]) rfl ?_); at_builtin; refine Kd.R_append Kd.string (w0 := w) w.heap.size rfl (.tmp 13) (.tmp 16) 114 9 (.string ⟨#[]⟩) 16 rfl Try.underlying114 info9 rfl (by decide) (by omega) u3 x3_1 t572 [.string t572] (fun _ => True) (fun _ => False) rfl rfl ?aP (fun _ hk => hk.elim) ?aF ?aO ?aB ?aS ?aL ?_; (case aP => exact rfl); (case aB => exact (by repeat (first | (with_reducible first | exact HB.out | apply z12d | apply z12b | apply z12c | refine below_set ?_ GE571.out) | exact HB.out))); (case aF => exact (fun _ _ => trivial)); (case aO => exact (by (with_reducible repeat (first | apply Kd.R_alloc | apply Kd.R_drewN | apply Kd.R_drew)); exact HO_3.out)); (case aS => exact (below_size (by repeat (first | (with_reducible first | exact HB.out | apply z12d | apply z12b | apply z12c | refine below_set ?_ GE571.out) | exact HB.out)))); (case aL => have := LMc8.out; omega); intro v574 w12 ho hb hg hat; rw [← Ny573.out] at ho; have n0_ := z12a (blk_grown (g := gb571) (o := .cells #[.int .i64 ((rd_T71 l0 x9_1).f0), .int .i64 ((rd_T71 l0 x9_1).f1), .int .i64 ((rd_T71 l0 x9_1).f2)] 71 (0, 0)) (by (with_reducible repeat (first | refine blk_drewN ?_ _ | refine blk_drew ?_ | refine blk_alloc ?_ _)); exact BK571.out) hg (Kd.R_ne HO_3.out BK571.out (by decide))); have n1_ := z12a (hb); have n2_ := z12a (ho); clear BK571; clear HB; clear HO_3; have BK571 := n0_; have HB := n1_; have HO575 := n2_; clear n0_ n1_ n2_; clear ho hb hg hat))
       go_roundg k1
       case measure => have := HK1.out; omega
       case rel => exact ⟨(y573), (wrap64 (x9_1 + 1)), (by first | rfl | (simp; done) | (simp [*]; done)), H', ⟨by have := HK1.out; omega⟩, ⟨by (with_reducible repeat (first | apply Kd.R_alloc | apply Kd.R_drewN | apply Kd.R_drew)); exact HO575.out⟩, ⟨by repeat (first | (with_reducible first | exact HB.out | apply z12d | apply z12b | apply z12c | refine below_set ?_ GE571.out) | exact HB.out)⟩⟩
      ·rw [if_neg c8] at H
       exact absurd H (by simp)
     ·rw [if_neg c6] at H
      exact absurd H (by simp)
    ·rw [if_neg c5] at H
     exact absurd H (by simp)
   ·rw [if_neg c4] at H
    have c4b0 : decide (x9_1 < (l0.length : Int)) = false := decide_eq_false c4
    clear c4
    replace H := z12f.mp H
    obtain ⟨t576, A130, H⟩ := H
    have A13 := z12a A130
    clear A130
    obtain rfl := Option.some.inj H
    obtain ⟨Ao14, co14, eo14⟩ := Kd.R_slice HO_3.out
    subst eo14
    go_wp2_with (first | ((with_reducible refine gate_callee (f := 120) rfl ?_); refine goesL_ (some 20) rfl rfl Try.func120 (by kernel_rfl) rfl #[.slice Ao14 x3_1.length co14, .string (⟨#[32]⟩ : ByteArray)] rfl (by (try simp only [zm12a, zm12b, zm12c]); first | done | rfl | (simp only [zm12d, zm12e]; rfl)) ?_; (with_reducible refine (y_kb.calls k1 _ _ x3_1 (⟨#[32]⟩ : ByteArray) t576 _ ?side1 ?side2 A13.out).mono ?_); (case side1 => repeat (first | exact (Kd.R_reads' HO_3.out).2.2 | (with_reducible refine Kd.C_alloc ?_ _) | (with_reducible refine Kd.C_drewN ?_ _) | (with_reducible refine Kd.C_drew ?_))); (case side2 => exact (Kd.R_reads' HO_3.out).2.1); rintro e w' ⟨rfl, ⟨nd, rfl⟩⟩; refine ⟨_, rfl, ?_⟩))
    go_ret
    exact ⟨by first | rfl | (simp [errW_none, errW_some] <;> rfl) | (simp [*, errW_none, errW_some] <;> rfl), by repeat (first | (with_reducible first | exact HB.out | apply z12d | apply z12b | apply z12c) | exact HB.out)⟩
def y_ic.f (k : Nat) (l0 : List (S71)) : Option (ByteArray) := (y_qb.f k l0).bind fun t577 => (if t577 = true then ((y_hb.f k l0).bind fun t578 => (some t578)) else (some (⟨#[]⟩ : ByteArray)))
theorem y_ic.calls (k : Nat) (A0 : Option Addr) (c0 : Nat) (l0 : List (S71)) (r : ByteArray) (w : World) (hr0 : Kd.C k71 w A0 l0.length l0) (hc0 : l0.length ≤ c0) (h : y_ic.f k l0 = some r) :
  Calls Try.prog 119 #[.slice A0 l0.length c0] w fun e w' => e = .returned (.string r) ∧ Below w.heap.size w w' := by
 have HR0 := z12a hr0
 have HC0 := z12a hc0
 clear hr0 hc0
 have HB := z12a (Below.refl w.heap.size w)
 have H := h
 unfold y_ic.f at H
 clear h
 replace H := z12f.mp H
 obtain ⟨t577, A20, H⟩ := H
 have A2 := z12a A20
 clear A20
 by_cases c3 : t577 = true
 ·subst c3
  rw [if_pos rfl] at H
  replace H := z12f.mp H
  obtain ⟨t578, A40, H⟩ := H
  have A4 := z12a A40
  clear A40
  obtain rfl := Option.some.inj H
  go_enter Try.func119, Try.ntmps119
  go_wp2_with (first | ((with_reducible refine gate_callee (f := 107) rfl ?_); refine goesL_ (some 4) rfl rfl Try.func107 (by kernel_rfl) rfl #[.slice A0 l0.length c0] rfl (by (try simp only [zm12a, zm12b, zm12c]); first | done | rfl | (simp only [zm12d, zm12e]; rfl)) ?_; (with_reducible refine (y_qb.calls k _ _ l0 true _ ?side1 ?side2 A2.out).mono ?_); (case side1 => repeat (first | exact HR0.out | (with_reducible refine Kd.C_alloc ?_ _) | (with_reducible refine Kd.C_drewN ?_ _) | (with_reducible refine Kd.C_drew ?_))); (case side2 => exact HC0.out); rintro e w5 ⟨rfl, hb⟩; refine ⟨_, rfl, ?_⟩; have n0_ := z12a (below_step (by repeat (first | (with_reducible first | exact HB.out | apply z12d | apply z12b | apply z12c) | exact HB.out)) hb); clear HB; have HB := n0_; clear n0_; (try clear hb); (try clear hb2); (try clear hk); (try clear hi)) | ((with_reducible refine gate_callee (f := 158) rfl ?_); refine goesL_ (some 7) rfl rfl Try.func158 (by kernel_rfl) rfl #[.slice A0 l0.length c0] rfl (by (try simp only [zm12a, zm12b, zm12c]); first | done | rfl | (simp only [zm12d, zm12e]; rfl)) ?_; (with_reducible refine (y_hb.calls k _ _ l0 t578 _ ?side1 ?side2 A4.out).mono ?_); (case side1 => repeat (first | exact (Kd.C_below HR0.out HB.out) | (with_reducible refine Kd.C_alloc ?_ _) | (with_reducible refine Kd.C_drewN ?_ _) | (with_reducible refine Kd.C_drew ?_))); (case side2 => exact HC0.out); rintro e w6 ⟨rfl, hb⟩; refine ⟨_, rfl, ?_⟩; have n0_ := z12a (below_step (by repeat (first | (with_reducible first | exact HB.out | apply z12d | apply z12b | apply z12c) | exact HB.out)) hb); clear HB; have HB := n0_; clear n0_; (try clear hb); (try clear hb2); (try clear hk); (try clear hi)))
  go_ret
  exact ⟨by first | rfl | (simp [errW_none, errW_some] <;> rfl) | (simp [*, errW_none, errW_some] <;> rfl), by repeat (first | (with_reducible first | exact HB.out | apply z12d | apply z12b | apply z12c) | exact HB.out)⟩
 ·replace c3 := Bool.eq_false_iff.mpr c3
  subst c3
  have H1 : (some (⟨#[]⟩ : ByteArray)) = some r := by rw [if_neg (show ¬ (false = true) by decide)] at H; exact H
  clear H
  have H := H1
  clear H1
  obtain rfl := Option.some.inj H
  go_enter Try.func119, Try.ntmps119
  go_wp2_with (first | ((with_reducible refine gate_callee (f := 107) rfl ?_); refine goesL_ (some 4) rfl rfl Try.func107 (by kernel_rfl) rfl #[.slice A0 l0.length c0] rfl (by (try simp only [zm12a, zm12b, zm12c]); first | done | rfl | (simp only [zm12d, zm12e]; rfl)) ?_; (with_reducible refine (y_qb.calls k _ _ l0 false _ ?side1 ?side2 A2.out).mono ?_); (case side1 => repeat (first | exact HR0.out | (with_reducible refine Kd.C_alloc ?_ _) | (with_reducible refine Kd.C_drewN ?_ _) | (with_reducible refine Kd.C_drew ?_))); (case side2 => exact HC0.out); rintro e w7 ⟨rfl, hb⟩; refine ⟨_, rfl, ?_⟩; have n0_ := z12a (below_step (by repeat (first | (with_reducible first | exact HB.out | apply z12d | apply z12b | apply z12c) | exact HB.out)) hb); clear HB; have HB := n0_; clear n0_; (try clear hb); (try clear hb2); (try clear hk); (try clear hi)))
  go_ret
  exact ⟨by first | rfl | (simp [errW_none, errW_some] <;> rfl) | (simp [*, errW_none, errW_some] <;> rfl), by repeat (first | (with_reducible first | exact HB.out | apply z12d | apply z12b | apply z12c) | exact HB.out)⟩
def y_t.l0 : Nat → List ByteArray → List (S39) → Int → Int → Option (ByteArray)
 | 0, _, _, _, _ => none
 | k + 1, x3, x7, x8, x9 => if x9 < x8 then (if 0 ≤ x9 then (if x9 < (x7.length : Int) then ((y_ic.f k ((rd_T39 x7 x9).f0)).bind fun t584 => (if x3.length < 8796093022208 then (y_t.l0 k (x3 ++ [t584]) x7 x8 (wrap64 (x9 + 1))) else (none))) else (none)) else (none)) else ((y_kb.f k x3 (⟨#[124]⟩ : ByteArray)).bind fun t588 => (some t588))
def y_t.f (k : Nat) (l0 : List (S39)) : Option (ByteArray) := y_t.l0 k (([] : List ByteArray)) l0 (l0.length : Int) 0
theorem y_t.calls (k : Nat) (A0 : Option Addr) (c0 : Nat) (l0 : List (S39)) (r : ByteArray) (w : World) (hr0 : Kd.C k39 w A0 l0.length l0) (hc0 : l0.length ≤ c0) (h : y_t.f k l0 = some r) :
  Calls Try.prog 24 #[.slice A0 l0.length c0] w fun e w' => e = .returned (.string r) ∧ Below w.heap.size w w' := by
 have hu39 := Try.underlying39
 have HR0 := z12a hr0
 have HC0 := z12a hc0
 clear hr0 hc0
 have HB := z12a (Below.refl w.heap.size w)
 have H : (y_t.l0 k (([] : List ByteArray)) l0 (l0.length : Int) 0) = some r := h
 clear h
 obtain ⟨y579, hy579⟩ : ∃ y_ : List ByteArray, y_ = (([] : List ByteArray)) := ⟨_, rfl⟩
 replace H : (y_t.l0 k y579 l0 (l0.length : Int) 0) = some r := by first | (rw [hy579]; with_reducible exact H) | (have H2_ := (Option.bind_some _ _).symm.trans H; rw [hy579]; with_reducible exact H2_) | (have H2_ := (Option.bind_some _ _).symm.trans H; with_reducible exact H2_) | with_reducible exact H | (rw [hy579]; exact H) | exact H
 have Ny579 := z12a hy579
 clear hy579
 have H' := z12a H
 clear H
 go_enter Try.func24, Try.ntmps24
 go_wp2_with (first | ((with_reducible refine gate_dst (N := 6) rfl ?_); refine Kd.R_lit Kd.string _ 9 ?hg (N := 6) ?hd (xs := ([] : List ByteArray)) (inner := []) (ok := fun _ => True) (okp := fun _ => True) ?hr ?hp (fun _ hk => hk) trivial (Below.refl _ _) (Nat.le_refl _) (by simp) ?_; (case hd => rfl); (case hg => rfl); (case hr => first | (go_simp; done) | (go_simp; rfl)); (case hp => exact (Reps.none _ _)); intro v580 w2 ho3 hb hg_ hnew_; clear hg_ hnew_; (first | rw [← Ny579.out] at ho3 | (simp only [Int.reduceToNat] at ho3; rw [← Ny579.out] at ho3)); have n0_ := z12a (Kd.R_lower ho3 (below_size (by repeat (first | (with_reducible first | exact HB.out | apply z12d | apply z12b | apply z12c) | exact HB.out)))); have n1_ := z12a (below_step (by repeat (first | (with_reducible first | exact HB.out | apply z12d | apply z12b | apply z12c) | exact HB.out)) hb); clear HB; have HO581 := n0_; have HB := n1_; clear n0_ n1_; clear hb ho3))
 go_loopg [3, 9] k (fun kq v3 v9 w' => ∃ (x3_1 : List ByteArray) (x9_1 : Int), v9 = .int .i64 x9_1 ∧ Aside0 (y_t.l0 kq x3_1 l0 (l0.length : Int) x9_1 = some r) ∧ Aside0 (kq ≤ k) ∧ Aside0 (Kd.R Kd.string 9 w' w.heap.size (fun _ => True) v3 x3_1) ∧ Aside0 (Below w.heap.size w w'))
 case atStart => exact ⟨(y579), (0), (by first | rfl | (simp; done) | (simp [*]; done)), H', ⟨Nat.le_refl _⟩, ⟨by (with_reducible repeat (first | apply Kd.R_alloc | apply Kd.R_drewN | apply Kd.R_drew)); exact HO581.out⟩, ⟨by repeat (first | (with_reducible first | exact HB.out | apply z12d | apply z12b | apply z12c) | exact HB.out)⟩⟩
 case round =>
  clear H'
  try clear c2
  try clear p2
  obtain ⟨x3_1, x9_1, rfl, HA, HK1, HO_3, HB⟩ := hrel
  cases gk with
  | zero => exact absurd HA.out (by simp [y_t.l0])
  | succ k1 =>
   have H := HA.out
   clear HA
   simp only [y_t.l0] at H
   by_cases c4 : x9_1 < (l0.length : Int)
   ·rw [if_pos c4] at H
    have c4b0 : decide (x9_1 < (l0.length : Int)) = true := z12h c4
    clear c4
    by_cases c5 : 0 ≤ x9_1
    ·rw [if_pos c5] at H
     have c5b0 : decide (0 ≤ x9_1) = true := z12h c5
     clear c5
     by_cases c6 : x9_1 < (l0.length : Int)
     ·rw [if_pos c6] at H
      have c6b0 : decide (x9_1 < (l0.length : Int)) = true := z12h c6
      clear c6
      replace H := z12f.mp H
      obtain ⟨t584, A70, H⟩ := H
      have A7 := z12a A70
      clear A70
      by_cases c8 : x3_1.length < 8796093022208
      ·rw [if_pos c8] at H
       have LMc8 := z12a c8
       clear c8
       obtain ⟨y585, hy585⟩ : ∃ y_ : List ByteArray, y_ = (x3_1 ++ [t584]) := ⟨_, rfl⟩
       replace H : (y_t.l0 k1 y585 l0 (l0.length : Int) (wrap64 (x9_1 + 1))) = some r := by first | (rw [hy585]; with_reducible exact H) | (have H2_ := (Option.bind_some _ _).symm.trans H; rw [hy585]; with_reducible exact H2_) | (have H2_ := (Option.bind_some _ _).symm.trans H; with_reducible exact H2_) | with_reducible exact H | (rw [hy585]; exact H) | exact H
       have Ny585 := z12a hy585
       clear hy585
       have H' := z12a H
       clear H
       have p582 : 0 ≤ (x9_1 : Int) := z12g (by first | (with_reducible assumption) | assumption)
       have q582 : x9_1 < (l0.length : Int) := z12g (by first | (with_reducible assumption) | assumption)
       obtain ⟨ad582, A582_0, c582_0, e582, hx582_0, hl582_0, hi582_0⟩ := at_T39 HR0.out x9_1 p582 q582
       cases e582
       replace hx582_0 := (HB.out.cell (z12e w _ hx582_0)).trans hx582_0
       have HR582_0 := z12a hi582_0
       have HC582_0 := z12a hl582_0
       clear hi582_0 hl582_0
       replace p582 := eq_true p582
       replace q582 := eq_true q582
       go_wp2_with (first | ((with_reducible refine gate_dst (N := 5) rfl ?_); refine box_event ?hg (N := 5) ?hd (cs := #[.slice none 0 0]) (t := 39) ?hr ?_; (case hd => rfl); (case hg => rfl); (case hr => first | (go_simp; done) | (go_simp; rfl)); intro gb583 hg w9 hbox hb; have n0_ := z12a (Kd.R_below (by (with_reducible repeat (first | apply Kd.R_alloc | apply Kd.R_drewN | apply Kd.R_drew)); exact HO_3.out) hb); have n1_ := z12a (below_step (by repeat (first | (with_reducible first | exact HB.out | apply z12d | apply z12b | apply z12c) | exact HB.out)) hb); have n2_ := z12a (hbox); have n3_ := z12a ((by rw [hg]; exact (below_size (by repeat (first | (with_reducible first | exact HB.out | apply z12d | apply z12b | apply z12c) | exact HB.out))) : w.heap.size ≤ gb583)); have n4_ := z12a ((by rw [hg]; exact (below_size (by repeat (first | (with_reducible first | exact HB.out | apply z12d | apply z12b | apply z12c) | exact HB.out))) : w.heap.size ≤ gb583)); clear HO_3; clear HB; have HO_3 := n0_; have HB := n1_; have BK583 := n2_; have GW583 := n3_; have GE583 := n4_; clear n0_ n1_ n2_ n3_ n4_; clear hb hbox hg; have hcz10_0 : w9.cell? ⟨gb583, 0, none⟩ = some (.slice none 0 0) := (blk_cell BK583.out 0).trans rfl; have hfz10_0 := blk_frozen BK583.out 0) | ((with_reducible refine gate_callee (f := 119) rfl ?_); refine goesL_ (some 16) rfl rfl Try.func119 (by kernel_rfl) rfl #[.slice A582_0 ((rd_T39 l0 x9_1).f0).length c582_0] rfl (by (try simp only [zm12a, zm12b, zm12c]); first | done | rfl | (simp only [zm12d, zm12e]; rfl)) ?_; (with_reducible refine (y_ic.calls k1 _ _ ((rd_T39 l0 x9_1).f0) t584 _ ?side1 ?side2 A7.out).mono ?_); (case side1 => exact Kd.C_below HR582_0.out (by repeat (first | (with_reducible first | exact HB.out | apply z12d | apply z12b | apply z12c | refine below_set ?_ GE583.out) | exact HB.out))); (case side2 => exact HC582_0.out); rintro e w11 ⟨rfl, hb⟩; refine ⟨_, rfl, ?_⟩; have n0_ := z12a (Kd.R_below (by (with_reducible repeat (first | apply Kd.R_alloc | apply Kd.R_drewN | apply Kd.R_drew)); exact (Kd.R_mono (Kd.R_far (p := ⟨gb583, 0, none⟩) (Kd.R_types HO_3.out BK583.out (by decide)) (fun _ hk => hk.2) (.slice A582_0 ((rd_T39 l0 x9_1).f0).length c582_0)) (fun _ h_ => h_.1))) hb); have n1_ := z12a (blk_below (g := gb583) (o := .cells #[.slice A582_0 ((rd_T39 l0 x9_1).f0).length c582_0] 39 (0, 0)) (by (with_reducible repeat (first | refine blk_drewN ?_ _ | refine blk_drew ?_ | refine blk_alloc ?_ _)); refine blk_put (cs := #[.slice none 0 0]) ?_ 0 _ rfl; (with_reducible repeat (first | refine blk_drewN ?_ _ | refine blk_drew ?_ | refine blk_alloc ?_ _)); exact BK583.out) hb); have n2_ := z12a (below_step (by repeat (first | (with_reducible first | exact HB.out | apply z12d | apply z12b | apply z12c | refine below_set ?_ GE583.out) | exact HB.out)) hb); clear HO_3; clear BK583; clear HB; have HO_3 := n0_; have BK583 := n1_; have HB := n2_; clear n0_ n1_ n2_; (try clear hb); (try clear hb2); (try clear hk); (try clear hi)) | ((with_reducible refine gate_builtin (b := .append) (xs := #[.tmp 13, .tmp 17]) rfl ?_); at_builtin; refine Kd.R_append Kd.string (w0 := w) w.heap.size rfl (.tmp 13) (.tmp 17) 114 9 (.string ⟨#[]⟩) 16 rfl Try.underlying114 info9 rfl (by decide) (by omega) u3 x3_1 t584 [.string t584] (fun _ => True) (fun _ => False) rfl rfl ?aP (fun _ hk => hk.elim) ?aF ?aO ?aB ?aS ?aL ?_; (case aP => exact rfl); (case aB => exact (by repeat (first | (with_reducible first | exact HB.out | apply z12d | apply z12b | apply z12c | refine below_set ?_ GE583.out) | exact HB.out))); (case aF => exact (fun _ _ => trivial)); (case aO => exact (by (with_reducible repeat (first | apply Kd.R_alloc | apply Kd.R_drewN | apply Kd.R_drew)); exact HO_3.out)); (case aS => exact (below_size (by repeat (first | (with_reducible first | exact HB.out | apply z12d | apply z12b | apply z12c | refine below_set ?_ GE583.out) | exact HB.out)))); (case aL => have := LMc8.out; omega); intro v586 w12 ho hb hg hat; rw [← Ny585.out] at ho; have n0_ := z12a (blk_grown (g := gb583) (o := .cells #[.slice A582_0 ((rd_T39 l0 x9_1).f0).length c582_0] 39 (0, 0)) (by (with_reducible repeat (first | refine blk_drewN ?_ _ | refine blk_drew ?_ | refine blk_alloc ?_ _)); exact BK583.out) hg (Kd.R_ne HO_3.out BK583.out (by decide))); have n1_ := z12a (hb); have n2_ := z12a (ho); clear BK583; clear HB; clear HO_3; have BK583 := n0_; have HB := n1_; have HO587 := n2_; clear n0_ n1_ n2_; clear ho hb hg hat))
       go_roundg k1
       case measure => have := HK1.out; omega
       case rel => exact ⟨(y585), (wrap64 (x9_1 + 1)), (by first | rfl | (simp; done) | (simp [*]; done)), H', ⟨by have := HK1.out; omega⟩, ⟨by (with_reducible repeat (first | apply Kd.R_alloc | apply Kd.R_drewN | apply Kd.R_drew)); exact HO587.out⟩, ⟨by repeat (first | (with_reducible first | exact HB.out | apply z12d | apply z12b | apply z12c | refine below_set ?_ GE583.out) | exact HB.out)⟩⟩
      ·rw [if_neg c8] at H
       exact absurd H (by simp)
     ·rw [if_neg c6] at H
      exact absurd H (by simp)
    ·rw [if_neg c5] at H
     exact absurd H (by simp)
   ·rw [if_neg c4] at H
    have c4b0 : decide (x9_1 < (l0.length : Int)) = false := decide_eq_false c4
    clear c4
    replace H := z12f.mp H
    obtain ⟨t588, A130, H⟩ := H
    have A13 := z12a A130
    clear A130
    obtain rfl := Option.some.inj H
    obtain ⟨Ao14, co14, eo14⟩ := Kd.R_slice HO_3.out
    subst eo14
    go_wp2_with (first | ((with_reducible refine gate_callee (f := 120) rfl ?_); refine goesL_ (some 21) rfl rfl Try.func120 (by kernel_rfl) rfl #[.slice Ao14 x3_1.length co14, .string (⟨#[124]⟩ : ByteArray)] rfl (by (try simp only [zm12a, zm12b, zm12c]); first | done | rfl | (simp only [zm12d, zm12e]; rfl)) ?_; (with_reducible refine (y_kb.calls k1 _ _ x3_1 (⟨#[124]⟩ : ByteArray) t588 _ ?side1 ?side2 A13.out).mono ?_); (case side1 => repeat (first | exact (Kd.R_reads' HO_3.out).2.2 | (with_reducible refine Kd.C_alloc ?_ _) | (with_reducible refine Kd.C_drewN ?_ _) | (with_reducible refine Kd.C_drew ?_))); (case side2 => exact (Kd.R_reads' HO_3.out).2.1); rintro e w' ⟨rfl, ⟨nd, rfl⟩⟩; refine ⟨_, rfl, ?_⟩))
    go_ret
    exact ⟨by first | rfl | (simp [errW_none, errW_some] <;> rfl) | (simp [*, errW_none, errW_some] <;> rfl), by repeat (first | (with_reducible first | exact HB.out | apply z12d | apply z12b | apply z12c) | exact HB.out)⟩
def y_k.l0 : Nat → Int → ByteArray → Bool → Option (ByteArray)
 | 0, _, _, _ => none
 | k + 1, x0, x3, x4 => if x0 = 0 then (if x4 = true then (if 1 + x3.size ≤ 9223372036854775807 then (some ((⟨#[45]⟩ : ByteArray) ++ x3)) else (none)) else (some x3)) else (if (Int.tmod x0 10) < 0 then ((some (([(wrap64 (48 + (wrap64 (-(Int.tmod x0 10))))) % 256] : List Int) : List Int)).bind fun y589 => (if (strOfNums y589).size + x3.size ≤ 9223372036854775807 then (y_k.l0 k (wrap64 (Int.tdiv x0 10)) ((strOfNums y589) ++ x3) x4) else (none))) else ((some (([(wrap64 (48 + (Int.tmod x0 10))) % 256] : List Int) : List Int)).bind fun y592 => (if (strOfNums y592).size + x3.size ≤ 9223372036854775807 then (y_k.l0 k (wrap64 (Int.tdiv x0 10)) ((strOfNums y592) ++ x3) x4) else (none))))
def y_k.f (k : Nat) (a0 : Int) : Option (ByteArray) := if a0 = 0 then (some (⟨#[48]⟩ : ByteArray)) else (y_k.l0 k a0 (⟨#[]⟩ : ByteArray) (decide (a0 < 0)))
theorem y_k.calls (k : Nat) (a0 : Int) (r : ByteArray) (w : World) (h : y_k.f k a0 = some r) :
  Calls Try.prog 151 #[.int .i64 a0] w fun e w' => e = .returned (.string r) ∧ Below w.heap.size w w' := by
 have HB := z12a (Below.refl w.heap.size w)
 have H := h
 unfold y_k.f at H
 clear h
 by_cases c2 : a0 = 0
 ·rw [if_pos c2] at H
  have c2b0 : (a0 == 0) = true := beq_iff_eq.mpr c2
  have c2b1 : (a0 != 0) = false := bne_eq_false_iff_eq.mpr c2
  clear c2
  obtain rfl := Option.some.inj H
  go_enter Try.func151, Try.ntmps151
  go_wp2
  go_ret
  exact ⟨by first | rfl | (simp [errW_none, errW_some] <;> rfl) | (simp [*, errW_none, errW_some] <;> rfl), by repeat (first | (with_reducible first | exact HB.out | apply z12d | apply z12b | apply z12c) | exact HB.out)⟩
 ·rw [if_neg c2] at H
  have c2b0 : (a0 == 0) = false := beq_eq_false_iff_ne.mpr c2
  have c2b1 : (a0 != 0) = true := bne_iff_ne.mpr c2
  have H' := z12a H
  clear H
  go_enter Try.func151, Try.ntmps151
  go_wp2
  go_loopg [0, 3] k (fun kq v0 v3 w' => ∃ (x0_1 : Int) (x3_1 : ByteArray), v0 = .int .i64 x0_1 ∧ v3 = .string x3_1 ∧ Aside0 (y_k.l0 kq x0_1 x3_1 (decide (a0 < 0)) = some r) ∧ Aside0 (kq ≤ k) ∧ Aside0 (Below w.heap.size w w'))
  case atStart => exact ⟨(a0), ((⟨#[]⟩ : ByteArray)), (by first | rfl | (simp; done) | (simp [*]; done)), (by first | rfl | (simp; done) | (simp [*]; done)), H', ⟨Nat.le_refl _⟩, ⟨by repeat (first | (with_reducible first | exact HB.out | apply z12d | apply z12b | apply z12c) | exact HB.out)⟩⟩
  case round =>
   clear H'
   try clear c1
   try clear c2
   try clear c2b0
   try clear c2b1
   try clear p2
   obtain ⟨x0_1, x3_1, rfl, rfl, HA, HK1, HB⟩ := hrel
   cases gk with
   | zero => exact absurd HA.out (by simp [y_k.l0])
   | succ k1 =>
    have H := HA.out
    clear HA
    simp only [y_k.l0] at H
    by_cases c3 : x0_1 = 0
    ·rw [if_pos c3] at H
     have c3b0 : (x0_1 == 0) = true := beq_iff_eq.mpr c3
     have c3b1 : (x0_1 != 0) = false := bne_eq_false_iff_eq.mpr c3
     clear c3
     by_cases c4 : (decide (a0 < 0)) = true
     ·rw [if_pos c4] at H
      have c4b0 : (decide (a0 < 0)) = true := c4
      have c4b1 : a0 < 0 := by simpa using c4
      clear c4
      by_cases c5 : 1 + x3_1.size ≤ 9223372036854775807
      ·rw [if_pos c5] at H
       have c5b0 := eq_true c5
       have c5b1 : decide (1 + x3_1.size ≤ 9223372036854775807) = true := z12h c5
       try have c5b2 : (9223372036854775807 < 1 + x3_1.size) = False := eq_false (Nat.not_lt.2 c5)
       obtain rfl := Option.some.inj H
       go_wp2
       go_ret
       exact ⟨by first | rfl | (simp [errW_none, errW_some] <;> rfl) | (simp [*, errW_none, errW_some] <;> rfl), by repeat (first | (with_reducible first | exact HB.out | apply z12d | apply z12b | apply z12c) | exact HB.out)⟩
      ·rw [if_neg c5] at H
       exact absurd H (by simp)
     ·rw [if_neg c4] at H
      have c4b0 : (decide (a0 < 0)) = false := by simpa using c4
      have c4b1 : ¬ (a0 < 0) := by simpa using c4
      clear c4
      obtain rfl := Option.some.inj H
      go_wp2
      go_ret
      exact ⟨by first | rfl | (simp [errW_none, errW_some] <;> rfl) | (simp [*, errW_none, errW_some] <;> rfl), by repeat (first | (with_reducible first | exact HB.out | apply z12d | apply z12b | apply z12c) | exact HB.out)⟩
    ·rw [if_neg c3] at H
     have c3b0 : (x0_1 == 0) = false := beq_eq_false_iff_ne.mpr c3
     have c3b1 : (x0_1 != 0) = true := bne_iff_ne.mpr c3
     by_cases c6 : (Int.tmod x0_1 10) < 0
     ·rw [if_pos c6] at H
      have c6b0 : decide ((Int.tmod x0_1 10) < 0) = true := z12h c6
      clear c6
      obtain ⟨y589, hy589⟩ : ∃ y_ : List Int, y_ = (([(wrap64 (48 + (wrap64 (-(Int.tmod x0_1 10))))) % 256] : List Int)) := ⟨_, rfl⟩
      replace H : (if (strOfNums y589).size + x3_1.size ≤ 9223372036854775807 then (y_k.l0 k1 (wrap64 (Int.tdiv x0_1 10)) ((strOfNums y589) ++ x3_1) (decide (a0 < 0))) else (none)) = some r := by first | (rw [hy589]; with_reducible exact H) | (have H2_ := (Option.bind_some _ _).symm.trans H; rw [hy589]; with_reducible exact H2_) | (have H2_ := (Option.bind_some _ _).symm.trans H; with_reducible exact H2_) | with_reducible exact H | (rw [hy589]; exact H) | exact H
      have Ny589 := z12a hy589
      clear hy589
      by_cases c7 : (strOfNums y589).size + x3_1.size ≤ 9223372036854775807
      ·rw [if_pos c7] at H
       have c7b0 := eq_true c7
       have c7b1 : decide ((strOfNums y589).size + x3_1.size ≤ 9223372036854775807) = true := z12h c7
       try have c7b2 : (9223372036854775807 < (strOfNums y589).size + x3_1.size) = False := eq_false (Nat.not_lt.2 c7)
       have H' := z12a H
       clear H
       go_wp2_with (first | ((with_reducible refine gate_dst (N := 21) rfl ?_); refine Kd.R_lit (Kd.int .u8) _ 5 ?hg (N := 21) ?hd (xs := ([(wrap64 (48 + (wrap64 (-(Int.tmod x0_1 10))))) % 256] : List Int)) (inner := [.int .u8 ((wrap64 (48 + (wrap64 (-(Int.tmod x0_1 10))))) % 256)]) (ok := fun _ => True) (okp := fun _ => True) ?hr ?hp (fun _ hk => hk) trivial (Below.refl _ _) (Nat.le_refl _) (by simp) ?_; (case hd => rfl); (case hg => rfl); (case hr => first | (go_simp; done) | (go_simp; rfl)); (case hp => exact (Reps.one (show Kd.M (Kd.int .u8) _ _ _ ((wrap64 (48 + (wrap64 (-(Int.tmod x0_1 10))))) % 256) [.int .u8 ((wrap64 (48 + (wrap64 (-(Int.tmod x0_1 10))))) % 256)] from rfl) (Reps.none _ _))); intro v590 w8 ho9 hb hg_ hnew_; clear hg_ hnew_; (first | rw [← Ny589.out] at ho9 | (simp only [Int.reduceToNat] at ho9; rw [← Ny589.out] at ho9)); have n0_ := z12a (Kd.R_lower ho9 (below_size (by repeat (first | (with_reducible first | exact HB.out | apply z12d | apply z12b | apply z12c) | exact HB.out)))); have n1_ := z12a (below_step (by repeat (first | (with_reducible first | exact HB.out | apply z12d | apply z12b | apply z12c) | exact HB.out)) hb); clear HB; have HO591 := n0_; have HB := n1_; clear n0_ n1_; clear hb ho9; have hcv10 := own_string (P := Try.prog) Try.underlying22 Try.underlying5 Try.underlying9 (Kd.own_of_R HO591.out)))
       go_roundg k1
       case measure => have := HK1.out; omega
       case rel => exact ⟨(wrap64 (Int.tdiv x0_1 10)), ((strOfNums y589) ++ x3_1), (by first | rfl | (simp; done) | (simp [*]; done)), (by first | rfl | (simp; done) | (simp [*]; done)), H', ⟨by have := HK1.out; omega⟩, ⟨by repeat (first | (with_reducible first | exact HB.out | apply z12d | apply z12b | apply z12c) | exact HB.out)⟩⟩
      ·rw [if_neg c7] at H
       exact absurd H (by simp)
     ·rw [if_neg c6] at H
      have c6b0 : decide ((Int.tmod x0_1 10) < 0) = false := decide_eq_false c6
      clear c6
      obtain ⟨y592, hy592⟩ : ∃ y_ : List Int, y_ = (([(wrap64 (48 + (Int.tmod x0_1 10))) % 256] : List Int)) := ⟨_, rfl⟩
      replace H : (if (strOfNums y592).size + x3_1.size ≤ 9223372036854775807 then (y_k.l0 k1 (wrap64 (Int.tdiv x0_1 10)) ((strOfNums y592) ++ x3_1) (decide (a0 < 0))) else (none)) = some r := by first | (rw [hy592]; with_reducible exact H) | (have H2_ := (Option.bind_some _ _).symm.trans H; rw [hy592]; with_reducible exact H2_) | (have H2_ := (Option.bind_some _ _).symm.trans H; with_reducible exact H2_) | with_reducible exact H | (rw [hy592]; exact H) | exact H
      have Ny592 := z12a hy592
      clear hy592
      by_cases c11 : (strOfNums y592).size + x3_1.size ≤ 9223372036854775807
      ·rw [if_pos c11] at H
       have c11b0 := eq_true c11
       have c11b1 : decide ((strOfNums y592).size + x3_1.size ≤ 9223372036854775807) = true := z12h c11
       try have c11b2 : (9223372036854775807 < (strOfNums y592).size + x3_1.size) = False := eq_false (Nat.not_lt.2 c11)
       have H' := z12a H
       clear H
       go_wp2_with (first | ((with_reducible refine gate_dst (N := 21) rfl ?_); refine Kd.R_lit (Kd.int .u8) _ 5 ?hg (N := 21) ?hd (xs := ([(wrap64 (48 + (Int.tmod x0_1 10))) % 256] : List Int)) (inner := [.int .u8 ((wrap64 (48 + (Int.tmod x0_1 10))) % 256)]) (ok := fun _ => True) (okp := fun _ => True) ?hr ?hp (fun _ hk => hk) trivial (Below.refl _ _) (Nat.le_refl _) (by simp) ?_; (case hd => rfl); (case hg => rfl); (case hr => first | (go_simp; done) | (go_simp; rfl)); (case hp => exact (Reps.one (show Kd.M (Kd.int .u8) _ _ _ ((wrap64 (48 + (Int.tmod x0_1 10))) % 256) [.int .u8 ((wrap64 (48 + (Int.tmod x0_1 10))) % 256)] from rfl) (Reps.none _ _))); intro v593 w12 ho13 hb hg_ hnew_; clear hg_ hnew_; (first | rw [← Ny592.out] at ho13 | (simp only [Int.reduceToNat] at ho13; rw [← Ny592.out] at ho13)); have n0_ := z12a (Kd.R_lower ho13 (below_size (by repeat (first | (with_reducible first | exact HB.out | apply z12d | apply z12b | apply z12c) | exact HB.out)))); have n1_ := z12a (below_step (by repeat (first | (with_reducible first | exact HB.out | apply z12d | apply z12b | apply z12c) | exact HB.out)) hb); clear HB; have HO594 := n0_; have HB := n1_; clear n0_ n1_; clear hb ho13; have hcv14 := own_string (P := Try.prog) Try.underlying22 Try.underlying5 Try.underlying9 (Kd.own_of_R HO594.out)))
       go_roundg k1
       case measure => have := HK1.out; omega
       case rel => exact ⟨(wrap64 (Int.tdiv x0_1 10)), ((strOfNums y592) ++ x3_1), (by first | rfl | (simp; done) | (simp [*]; done)), (by first | rfl | (simp; done) | (simp [*]; done)), H', ⟨by have := HK1.out; omega⟩, ⟨by repeat (first | (with_reducible first | exact HB.out | apply z12d | apply z12b | apply z12c) | exact HB.out)⟩⟩
      ·rw [if_neg c11] at H
       exact absurd H (by simp)
def y_nb.f (k : Nat) (a0_0 : Int) (a0_1 : Int) (a0_2 : Int) : Option (ByteArray) := (y_ub.f a0_0 a0_1 a0_2).bind fun t596 => (if t596 = true then ((y_k.f k a0_0).bind fun t597 => (if t597.size + 1 ≤ 9223372036854775807 then ((y_k.f k a0_1).bind fun t598 => (if (t597 ++ (⟨#[46]⟩ : ByteArray)).size + t598.size ≤ 9223372036854775807 then (if ((t597 ++ (⟨#[46]⟩ : ByteArray)) ++ t598).size + 1 ≤ 9223372036854775807 then ((y_k.f k a0_2).bind fun t599 => (if (((t597 ++ (⟨#[46]⟩ : ByteArray)) ++ t598) ++ (⟨#[46]⟩ : ByteArray)).size + t599.size ≤ 9223372036854775807 then (some ((((t597 ++ (⟨#[46]⟩ : ByteArray)) ++ t598) ++ (⟨#[46]⟩ : ByteArray)) ++ t599)) else (none))) else (none)) else (none))) else (none))) else (some (⟨#[]⟩ : ByteArray)))
def y_nb.T3 : Bool × List (List Nat × List Nat) := (true, [([], []), ([0], [0]), ([1], [1]), ([2], [2]), ([], []), ([4], [4]), ([5, 2], [5]), ([3, 6], [3, 6]), ([7], [7]), ([], []), ([9], [9]), ([10, 6], [10]), ([8, 11], [8, 11]), ([12, 11, 0, 1, 2, 3, 4, 5, 6, 7, 8, 9, 10, 11, 12], [12])])
def y_nb.B3 : List Nat := [0, 1, 3, 7, 0, 16, 55, 127, 255, 0, 512, 1655, 4095, 8191]
theorem y_nb.tab3 : rtab .any (opsOf Try.f140 3) = y_nb.T3 := by kernel_rfl
theorem y_nb.bits3 : waitsOk y_nb.T3.2 y_nb.B3 = true := by kernel_rfl
theorem y_nb.calls (k : Nat) (a0_0 : Int) (a0_1 : Int) (a0_2 : Int) (r : ByteArray) (w : World) (h : y_nb.f k a0_0 a0_1 a0_2 = some r) :
  Calls Try.prog 140 #[.agg #[.int .i64 a0_0, .int .i64 a0_1, .int .i64 a0_2]] w fun e w' => e = .returned (.string r) ∧ Below w.heap.size w w' := by
 have hu71 := Try.underlying71
 have HB := z12a (Below.refl w.heap.size w)
 have H := h
 unfold y_nb.f at H
 clear h
 replace H := z12f.mp H
 obtain ⟨t596, A20, H⟩ := H
 have A2 := z12a A20
 clear A20
 by_cases c3 : t596 = true
 ·subst c3
  rw [if_pos rfl] at H
  replace H := z12f.mp H
  obtain ⟨t597, A40, H⟩ := H
  have A4 := z12a A40
  clear A40
  by_cases c5 : t597.size + 1 ≤ 9223372036854775807
  ·rw [if_pos c5] at H
   have c5b0 := eq_true c5
   have c5b1 : decide (t597.size + 1 ≤ 9223372036854775807) = true := z12h c5
   try have c5b2 : (9223372036854775807 < t597.size + 1) = False := eq_false (Nat.not_lt.2 c5)
   replace H := z12f.mp H
   obtain ⟨t598, A60, H⟩ := H
   have A6 := z12a A60
   clear A60
   by_cases c7 : (t597 ++ (⟨#[46]⟩ : ByteArray)).size + t598.size ≤ 9223372036854775807
   ·rw [if_pos c7] at H
    have c7b0 := eq_true c7
    have c7b1 : decide ((t597 ++ (⟨#[46]⟩ : ByteArray)).size + t598.size ≤ 9223372036854775807) = true := z12h c7
    try have c7b2 : (9223372036854775807 < (t597 ++ (⟨#[46]⟩ : ByteArray)).size + t598.size) = False := eq_false (Nat.not_lt.2 c7)
    try have c7b3 : (9223372036854775807 < t597.size + 1 + t598.size) = False := eq_false (by have h_ := c7; simp only [ByteArray.size_append, show ∀ b_ : UInt8, (⟨#[b_]⟩ : ByteArray).size = 1 from fun _ => rfl] at h_; omega)
    by_cases c8 : ((t597 ++ (⟨#[46]⟩ : ByteArray)) ++ t598).size + 1 ≤ 9223372036854775807
    ·rw [if_pos c8] at H
     have c8b0 := eq_true c8
     have c8b1 : decide (((t597 ++ (⟨#[46]⟩ : ByteArray)) ++ t598).size + 1 ≤ 9223372036854775807) = true := z12h c8
     try have c8b2 : (9223372036854775807 < ((t597 ++ (⟨#[46]⟩ : ByteArray)) ++ t598).size + 1) = False := eq_false (Nat.not_lt.2 c8)
     try have c8b3 : (9223372036854775807 < t597.size + 1 + t598.size + 1) = False := eq_false (by have h_ := c8; simp only [ByteArray.size_append, show ∀ b_ : UInt8, (⟨#[b_]⟩ : ByteArray).size = 1 from fun _ => rfl] at h_; omega)
     replace H := z12f.mp H
     obtain ⟨t599, A90, H⟩ := H
     have A9 := z12a A90
     clear A90
     by_cases c10 : (((t597 ++ (⟨#[46]⟩ : ByteArray)) ++ t598) ++ (⟨#[46]⟩ : ByteArray)).size + t599.size ≤ 9223372036854775807
     ·rw [if_pos c10] at H
      have c10b0 := eq_true c10
      have c10b1 : decide ((((t597 ++ (⟨#[46]⟩ : ByteArray)) ++ t598) ++ (⟨#[46]⟩ : ByteArray)).size + t599.size ≤ 9223372036854775807) = true := z12h c10
      try have c10b2 : (9223372036854775807 < (((t597 ++ (⟨#[46]⟩ : ByteArray)) ++ t598) ++ (⟨#[46]⟩ : ByteArray)).size + t599.size) = False := eq_false (Nat.not_lt.2 c10)
      try have c10b3 : (9223372036854775807 < t597.size + 1 + t598.size + 1 + t599.size) = False := eq_false (by have h_ := c10; simp only [ByteArray.size_append, show ∀ b_ : UInt8, (⟨#[b_]⟩ : ByteArray).size = 1 from fun _ => rfl] at h_; omega)
      obtain rfl := Option.some.inj H
      go_enter Try.func140, Try.ntmps140
      try go_wp2_with (first | ((with_reducible refine gate_dst (N := 1) rfl ?_); refine box_event ?hg (N := 1) ?hd (cs := #[.int .i64 a0_0, .int .i64 a0_1, .int .i64 a0_2]) (t := 71) ?hr ?_; (case hd => rfl); (case hg => rfl); (case hr => first | (go_simp; done) | (go_simp; rfl)); intro gb595 hg w11 hbox hb; have n0_ := z12a (below_step (by repeat (first | (with_reducible first | exact HB.out | apply z12d | apply z12b | apply z12c) | exact HB.out)) hb); have n1_ := z12a (hbox); have n2_ := z12a ((by rw [hg]; exact (below_size (by repeat (first | (with_reducible first | exact HB.out | apply z12d | apply z12b | apply z12c) | exact HB.out))) : w.heap.size ≤ gb595)); have n3_ := z12a ((by rw [hg]; exact (below_size (by repeat (first | (with_reducible first | exact HB.out | apply z12d | apply z12b | apply z12c) | exact HB.out))) : w.heap.size ≤ gb595)); clear HB; have HB := n0_; have BK595 := n1_; have GW595 := n2_; have GE595 := n3_; clear n0_ n1_ n2_ n3_; clear hb hbox hg; obtain ⟨hcz12_0, hcz12_1, hcz12_2⟩ := cells_3 BK595.out; obtain ⟨hfz12_0, hfz12_1, hfz12_2⟩ := frz_3 BK595.out) | ((with_reducible refine gate_callee (f := 152) rfl ?_); refine goesL_ (some 4) rfl rfl Try.func152 (by kernel_rfl) rfl #[.agg #[.int .i64 a0_0, .int .i64 a0_1, .int .i64 a0_2]] rfl (by (try simp only [zm12a, zm12b, zm12c]); first | done | rfl | (simp only [zm12d, zm12e]; rfl)) ?_; (with_reducible refine (y_ub.calls a0_0 a0_1 a0_2 true _ A2.out).mono ?_); rintro e w13 ⟨rfl, hb⟩; refine ⟨_, rfl, ?_⟩; have n0_ := z12a (blk_below (g := gb595) (o := .cells #[.int .i64 a0_0, .int .i64 a0_1, .int .i64 a0_2] 71 (0, 0)) (by (with_reducible repeat (first | refine blk_drewN ?_ _ | refine blk_drew ?_ | refine blk_alloc ?_ _)); exact BK595.out) hb); have n1_ := z12a (below_step (by repeat (first | (with_reducible first | exact HB.out | apply z12d | apply z12b | apply z12c | refine below_set ?_ GE595.out) | exact HB.out)) hb); clear BK595; clear HB; have BK595 := n0_; have HB := n1_; clear n0_ n1_; (try clear hb); (try clear hb2); (try clear hk); (try clear hi)))
      have n0_ := z12a (blk_drew BK595.out)
      have n1_ := z12a (z12c HB.out)
      clear BK595
      clear HB
      have BK595 := n0_
      have HB := n1_
      clear n0_ n1_
      refine start_ (n := 14) (S := fun w' => w'.cell? ⟨gb595, 0, none⟩ = some (.int .i64 a0_0) ∧ w'.cell? ⟨gb595, 1, none⟩ = some (.int .i64 a0_1) ∧ w'.cell? ⟨gb595, 2, none⟩ = some (.int .i64 a0_2)) (ds := []) #[zf12,zf12,zf12,zf12,zf12,zf12,zf12,zf12,zf12,zf12,zf12,zf12,zf12,zf12] (by kernel_rfl) rfl rfl ⟨(blk_cell BK595.out 0).trans rfl, (blk_cell BK595.out 1).trans rfl, (blk_cell BK595.out 2).trans rfl⟩ (fun hHeld => ?_); refine with_tabW y_nb.tab3 y_nb.bits3 (fun HT_ HW_ => ?_)
      generalize w13.drew = w14 at BK595 HB hHeld ⊢
      refine pure_ (i := 0) (N := some 6) (v := ?_) (a' := ?_) #[zt12,zf12,zf12,zf12,zf12,zf12,zf12,zf12,zf12,zf12,zf12,zf12,zf12,zf12] rfl rfl (any_of HT_.out (by kernel_rfl)) (fun _ _ _ h => h) (Or.inl ⟨by rfl, ?_⟩) ?_ ?_
      rotate_left
      ·intro w'
       go_simp
       with_reducible rfl
      rotate_left
      ·simp only [Act.put, zp12a, zp12b, zp12c, i64_w, i32_w]
       rfl
      refine pure_ (i := 4) (N := some 10) (v := ?_) (a' := ?_) #[zt12,zf12,zf12,zf12,zt12,zf12,zf12,zf12,zf12,zf12,zf12,zf12,zf12,zf12] rfl rfl (any_of HT_.out (by kernel_rfl)) (fun _ _ _ h => h) (Or.inl ⟨by rfl, ?_⟩) ?_ ?_
      rotate_left
      ·intro w'
       go_simp
       with_reducible rfl
      rotate_left
      ·simp only [Act.put, zp12a, zp12b, zp12c, i64_w, i32_w]
       rfl
      refine pure_ (i := 9) (N := some 15) (v := ?_) (a' := ?_) #[zt12,zf12,zf12,zf12,zt12,zf12,zf12,zf12,zf12,zt12,zf12,zf12,zf12,zf12] rfl rfl (any_of HT_.out (by kernel_rfl)) (fun _ _ _ h => h) (Or.inl ⟨by rfl, ?_⟩) ?_ ?_
      rotate_left
      ·intro w'
       go_simp
       with_reducible rfl
      rotate_left
      ·simp only [Act.put, zp12a, zp12b, zp12c, i64_w, i32_w]
       rfl
      refine take_ (i := 1) (N := some 7) (v := ?_) (a' := ?_) #[zt12,zt12,zf12,zf12,zt12,zf12,zf12,zf12,zf12,zt12,zf12,zf12,zf12,zf12] rfl rfl (take_ofW HT_.out HW_.out (by kernel_rfl)) (fun _ _ _ h => h) (Or.inl ⟨by rfl, ?_⟩) hHeld ?_ ?_
      rotate_left
      ·rintro w' ⟨s0, s1, s2⟩
       go_simp
       with_reducible rfl
      rotate_left
      ·simp only [Act.put, zp12a, zp12b, zp12c, i64_w, i32_w]
       rfl
      refine take_ (i := 5) (N := some 11) (v := ?_) (a' := ?_) #[zt12,zt12,zf12,zf12,zt12,zt12,zf12,zf12,zf12,zt12,zf12,zf12,zf12,zf12] rfl rfl (take_ofW HT_.out HW_.out (by kernel_rfl)) (fun _ _ _ h => h) (Or.inl ⟨by rfl, ?_⟩) hHeld ?_ ?_
      rotate_left
      ·rintro w' ⟨s0, s1, s2⟩
       go_simp
       with_reducible rfl
      rotate_left
      ·simp only [Act.put, zp12a, zp12b, zp12c, i64_w, i32_w]
       rfl
      refine take_ (i := 10) (N := some 16) (v := ?_) (a' := ?_) #[zt12,zt12,zf12,zf12,zt12,zt12,zf12,zf12,zf12,zt12,zt12,zf12,zf12,zf12] rfl rfl (take_ofW HT_.out HW_.out (by kernel_rfl)) (fun _ _ _ h => h) (Or.inl ⟨by rfl, ?_⟩) hHeld ?_ ?_
      rotate_left
      ·rintro w' ⟨s0, s1, s2⟩
       go_simp
       with_reducible rfl
      rotate_left
      ·simp only [Act.put, zp12a, zp12b, zp12c, i64_w, i32_w]
       rfl
      refine one_ (i := 2) (N := some 8) #[zt12,zt12,zt12,zf12,zt12,zt12,zf12,zf12,zf12,zt12,zt12,zf12,zf12,zf12] rfl rfl (one_of HT_.out (by kernel_rfl)) (by decide) (fun K hK => ?_)
      refine goes_ Try.func151 (by kernel_rfl) rfl #[.int .i64 a0_0] (by rfl) rfl rfl (by (try simp only [zm12a, zm12b, zm12c]); first | done | rfl | (simp only [zm12d, zm12e]; rfl)) ?_
      with_reducible refine (y_k.calls k a0_0 t597 _ A4.out).mono ?_
      rintro e w15 ⟨rfl, hb⟩
      refine ⟨_, rfl, ?_⟩
      have n0_ := z12a (blk_below (g := gb595) (o := .cells #[.int .i64 a0_0, .int .i64 a0_1, .int .i64 a0_2] 71 (0, 0)) (by (with_reducible repeat (first | refine blk_drewN ?_ _ | refine blk_drew ?_ | refine blk_alloc ?_ _)); exact BK595.out) hb)
      have n1_ := z12a (below_step (by repeat (first | (with_reducible first | exact HB.out | apply z12d | apply z12b | apply z12c | refine below_set ?_ GE595.out) | exact HB.out)) hb)
      clear BK595
      clear HB
      have BK595 := n0_
      have HB := n1_
      clear n0_ n1_
      (try clear hb)
      (try clear hb2)
      (try clear hk)
      (try clear hi)
      refine hK.out _ _ ⟨(blk_cell BK595.out 0).trans rfl, (blk_cell BK595.out 1).trans rfl, (blk_cell BK595.out 2).trans rfl⟩ (fun hHeld => ?_)
      clear hK K
      refine norm_ (a' := ?_) ?_ ?_
      rotate_left
      ·show Act.put _ (some 8) _ = _
       simp only [Act.put, zp12a, zp12b, zp12c, i64_w, i32_w]
       rfl
      refine pure_ (i := 3) (N := some 9) (v := ?_) (a' := ?_) #[zt12,zt12,zt12,zt12,zt12,zt12,zf12,zf12,zf12,zt12,zt12,zf12,zf12,zf12] rfl rfl (any_of HT_.out (by kernel_rfl)) (fun _ _ _ h => h) (Or.inl ⟨by rfl, ?_⟩) ?_ ?_
      rotate_left
      ·intro w'
       go_simp
       with_reducible rfl
      rotate_left
      ·simp only [Act.put, zp12a, zp12b, zp12c, i64_w, i32_w]
       rfl
      refine one_ (i := 6) (N := some 12) #[zt12,zt12,zt12,zt12,zt12,zt12,zt12,zf12,zf12,zt12,zt12,zf12,zf12,zf12] rfl rfl (one_of HT_.out (by kernel_rfl)) (by decide) (fun K hK => ?_)
      refine goes_ Try.func151 (by kernel_rfl) rfl #[.int .i64 a0_1] (by rfl) rfl rfl (by (try simp only [zm12a, zm12b, zm12c]); first | done | rfl | (simp only [zm12d, zm12e]; rfl)) ?_
      with_reducible refine (y_k.calls k a0_1 t598 _ A6.out).mono ?_
      rintro e w16 ⟨rfl, hb⟩
      refine ⟨_, rfl, ?_⟩
      have n0_ := z12a (blk_below (g := gb595) (o := .cells #[.int .i64 a0_0, .int .i64 a0_1, .int .i64 a0_2] 71 (0, 0)) (by (with_reducible repeat (first | refine blk_drewN ?_ _ | refine blk_drew ?_ | refine blk_alloc ?_ _)); exact BK595.out) hb)
      have n1_ := z12a (below_step (by repeat (first | (with_reducible first | exact HB.out | apply z12d | apply z12b | apply z12c | refine below_set ?_ GE595.out) | exact HB.out)) hb)
      clear BK595
      clear HB
      have BK595 := n0_
      have HB := n1_
      clear n0_ n1_
      (try clear hb)
      (try clear hb2)
      (try clear hk)
      (try clear hi)
      refine hK.out _ _ ⟨(blk_cell BK595.out 0).trans rfl, (blk_cell BK595.out 1).trans rfl, (blk_cell BK595.out 2).trans rfl⟩ (fun hHeld => ?_)
      clear hK K
      refine norm_ (a' := ?_) ?_ ?_
      rotate_left
      ·show Act.put _ (some 12) _ = _
       simp only [Act.put, zp12a, zp12b, zp12c, i64_w, i32_w]
       rfl
      refine pure_ (i := 7) (N := some 13) (v := ?_) (a' := ?_) #[zt12,zt12,zt12,zt12,zt12,zt12,zt12,zt12,zf12,zt12,zt12,zf12,zf12,zf12] rfl rfl (any_of HT_.out (by kernel_rfl)) (fun _ _ _ h => h) (Or.inl ⟨by rfl, ?_⟩) ?_ ?_
      rotate_left
      ·intro w'
       go_simp
       with_reducible rfl
      rotate_left
      ·simp only [Act.put, zp12a, zp12b, zp12c, i64_w, i32_w]
       rfl
      refine pure_ (i := 8) (N := some 14) (v := ?_) (a' := ?_) #[zt12,zt12,zt12,zt12,zt12,zt12,zt12,zt12,zt12,zt12,zt12,zf12,zf12,zf12] rfl rfl (any_of HT_.out (by kernel_rfl)) (fun _ _ _ h => h) (Or.inl ⟨by rfl, ?_⟩) ?_ ?_
      rotate_left
      ·intro w'
       go_simp
       with_reducible rfl
      rotate_left
      ·simp only [Act.put, zp12a, zp12b, zp12c, i64_w, i32_w]
       rfl
      refine one_ (i := 11) (N := some 17) #[zt12,zt12,zt12,zt12,zt12,zt12,zt12,zt12,zt12,zt12,zt12,zt12,zf12,zf12] rfl rfl (one_of HT_.out (by kernel_rfl)) (by decide) (fun K hK => ?_)
      refine goes_ Try.func151 (by kernel_rfl) rfl #[.int .i64 a0_2] (by rfl) rfl rfl (by (try simp only [zm12a, zm12b, zm12c]); first | done | rfl | (simp only [zm12d, zm12e]; rfl)) ?_
      with_reducible refine (y_k.calls k a0_2 t599 _ A9.out).mono ?_
      rintro e w17 ⟨rfl, hb⟩
      refine ⟨_, rfl, ?_⟩
      have n0_ := z12a (blk_below (g := gb595) (o := .cells #[.int .i64 a0_0, .int .i64 a0_1, .int .i64 a0_2] 71 (0, 0)) (by (with_reducible repeat (first | refine blk_drewN ?_ _ | refine blk_drew ?_ | refine blk_alloc ?_ _)); exact BK595.out) hb)
      have n1_ := z12a (below_step (by repeat (first | (with_reducible first | exact HB.out | apply z12d | apply z12b | apply z12c | refine below_set ?_ GE595.out) | exact HB.out)) hb)
      clear BK595
      clear HB
      have BK595 := n0_
      have HB := n1_
      clear n0_ n1_
      (try clear hb)
      (try clear hb2)
      (try clear hk)
      (try clear hi)
      refine hK.out _ _ ⟨(blk_cell BK595.out 0).trans rfl, (blk_cell BK595.out 1).trans rfl, (blk_cell BK595.out 2).trans rfl⟩ (fun hHeld => ?_)
      clear hK K
      refine norm_ (a' := ?_) ?_ ?_
      rotate_left
      ·show Act.put _ (some 17) _ = _
       simp only [Act.put, zp12a, zp12b, zp12c, i64_w, i32_w]
       rfl
      refine pure_ (i := 12) (N := some 18) (v := ?_) (a' := ?_) #[zt12,zt12,zt12,zt12,zt12,zt12,zt12,zt12,zt12,zt12,zt12,zt12,zt12,zf12] rfl rfl (any_of HT_.out (by kernel_rfl)) (fun _ _ _ h => h) (Or.inl ⟨by rfl, ?_⟩) ?_ ?_
      rotate_left
      ·intro w'
       go_simp
       with_reducible rfl
      rotate_left
      ·simp only [Act.put, zp12a, zp12b, zp12c, i64_w, i32_w]
       rfl
      refine pure_ (i := 13) (N := some 2) (v := ?_) (a' := ?_) #[zt12,zt12,zt12,zt12,zt12,zt12,zt12,zt12,zt12,zt12,zt12,zt12,zt12,zt12] rfl rfl (any_of HT_.out (by kernel_rfl)) (fun _ _ _ h => h) (Or.inl ⟨by rfl, ?_⟩) ?_ ?_
      rotate_left
      ·intro w'
       go_simp
       with_reducible rfl
      rotate_left
      ·simp only [Act.put, zp12a, zp12b, zp12c, i64_w, i32_w]
       rfl
      refine done_ (done_of HT_.out (by kernel_rfl)) ?_
      try go_wp2
      go_ret
      exact ⟨by first | rfl | (simp [errW_none, errW_some] <;> rfl) | (simp [*, errW_none, errW_some] <;> rfl), by repeat (first | (with_reducible first | exact HB.out | apply z12d | apply z12b | apply z12c | refine below_set ?_ GE595.out) | exact HB.out)⟩
     ·rw [if_neg c10] at H
      exact absurd H (by simp)
    ·rw [if_neg c8] at H
     exact absurd H (by simp)
   ·rw [if_neg c7] at H
    exact absurd H (by simp)
  ·rw [if_neg c5] at H
   exact absurd H (by simp)
 ·replace c3 := Bool.eq_false_iff.mpr c3
  subst c3
  have H1 : (some (⟨#[]⟩ : ByteArray)) = some r := by rw [if_neg (show ¬ (false = true) by decide)] at H; exact H
  clear H
  have H := H1
  clear H1
  obtain rfl := Option.some.inj H
  go_enter Try.func140, Try.ntmps140
  go_wp2_with (first | ((with_reducible refine gate_dst (N := 1) rfl ?_); refine box_event ?hg (N := 1) ?hd (cs := #[.int .i64 a0_0, .int .i64 a0_1, .int .i64 a0_2]) (t := 71) ?hr ?_; (case hd => rfl); (case hg => rfl); (case hr => first | (go_simp; done) | (go_simp; rfl)); intro gb595 hg w18 hbox hb; have n0_ := z12a (below_step (by repeat (first | (with_reducible first | exact HB.out | apply z12d | apply z12b | apply z12c) | exact HB.out)) hb); have n1_ := z12a (hbox); have n2_ := z12a ((by rw [hg]; exact (below_size (by repeat (first | (with_reducible first | exact HB.out | apply z12d | apply z12b | apply z12c) | exact HB.out))) : w.heap.size ≤ gb595)); have n3_ := z12a ((by rw [hg]; exact (below_size (by repeat (first | (with_reducible first | exact HB.out | apply z12d | apply z12b | apply z12c) | exact HB.out))) : w.heap.size ≤ gb595)); clear HB; have HB := n0_; have BK595 := n1_; have GW595 := n2_; have GE595 := n3_; clear n0_ n1_ n2_ n3_; clear hb hbox hg; obtain ⟨hcz19_0, hcz19_1, hcz19_2⟩ := cells_3 BK595.out; obtain ⟨hfz19_0, hfz19_1, hfz19_2⟩ := frz_3 BK595.out) | ((with_reducible refine gate_callee (f := 152) rfl ?_); refine goesL_ (some 4) rfl rfl Try.func152 (by kernel_rfl) rfl #[.agg #[.int .i64 a0_0, .int .i64 a0_1, .int .i64 a0_2]] rfl (by (try simp only [zm12a, zm12b, zm12c]); first | done | rfl | (simp only [zm12d, zm12e]; rfl)) ?_; (with_reducible refine (y_ub.calls a0_0 a0_1 a0_2 false _ A2.out).mono ?_); rintro e w20 ⟨rfl, hb⟩; refine ⟨_, rfl, ?_⟩; have n0_ := z12a (blk_below (g := gb595) (o := .cells #[.int .i64 a0_0, .int .i64 a0_1, .int .i64 a0_2] 71 (0, 0)) (by (with_reducible repeat (first | refine blk_drewN ?_ _ | refine blk_drew ?_ | refine blk_alloc ?_ _)); exact BK595.out) hb); have n1_ := z12a (below_step (by repeat (first | (with_reducible first | exact HB.out | apply z12d | apply z12b | apply z12c | refine below_set ?_ GE595.out) | exact HB.out)) hb); clear BK595; clear HB; have BK595 := n0_; have HB := n1_; clear n0_ n1_; (try clear hb); (try clear hb2); (try clear hk); (try clear hi)))
  go_ret
  exact ⟨by first | rfl | (simp [errW_none, errW_some] <;> rfl) | (simp [*, errW_none, errW_some] <;> rfl), by repeat (first | (with_reducible first | exact HB.out | apply z12d | apply z12b | apply z12c | refine below_set ?_ GE595.out) | exact HB.out)⟩
mutual
def y_m.l0 : Nat → List (S71) → ByteArray → Int → Option (ByteArray)
 | 0, _, _, _ => none
 | k + 1, x0, x3, x4 => if x4 < (x0.length : Int) then ((y_y.f k x0).bind fun t600 => (y_m.j1 k x0 x3 x4 t600)) else (y_m.j1 k x0 x3 x4 false)
def y_m.j1 : Nat → List (S71) → ByteArray → Int → Bool → Option (ByteArray)
 | 0, _, _, _, _ => none
 | k + 1, x0, x3, x4, x12 => if x12 = true then (if x4 > 0 then (if x3.size + 1 ≤ 9223372036854775807 then (if 0 ≤ x4 then (if x4 < (x0.length : Int) then ((y_nb.f k ((rd_T71 x0 x4).f0) ((rd_T71 x0 x4).f1) ((rd_T71 x0 x4).f2)).bind fun t602 => (if (x3 ++ (⟨#[32]⟩ : ByteArray)).size + t602.size ≤ 9223372036854775807 then (y_m.l0 k x0 ((x3 ++ (⟨#[32]⟩ : ByteArray)) ++ t602) (wrap64 (x4 + 1))) else (none))) else (none)) else (none)) else (none)) else (if 0 ≤ x4 then (if x4 < (x0.length : Int) then ((y_nb.f k ((rd_T71 x0 x4).f0) ((rd_T71 x0 x4).f1) ((rd_T71 x0 x4).f2)).bind fun t604 => (if x3.size + t604.size ≤ 9223372036854775807 then (y_m.l0 k x0 (x3 ++ t604) (wrap64 (x4 + 1))) else (none))) else (none)) else (none))) else (some x3)
end
def y_m.f (k : Nat) (l0 : List (S71)) : Option (ByteArray) := y_m.l0 k l0 (⟨#[]⟩ : ByteArray) 0
theorem y_m.calls (k : Nat) (A0 : Option Addr) (c0 : Nat) (l0 : List (S71)) (r : ByteArray) (w : World) (hr0 : Kd.C k71 w A0 l0.length l0) (hc0 : l0.length ≤ c0) (h : y_m.f k l0 = some r) :
  Calls Try.prog 121 #[.slice A0 l0.length c0] w fun e w' => e = .returned (.string r) ∧ Below w.heap.size w w' := by
 have hu71 := Try.underlying71
 have HR0 := z12a hr0
 have HC0 := z12a hc0
 clear hr0 hc0
 have HB := z12a (Below.refl w.heap.size w)
 have H : (y_m.l0 k l0 (⟨#[]⟩ : ByteArray) 0) = some r := h
 clear h
 have H' := z12a H
 clear H
 go_enter Try.func121, Try.ntmps121
 go_wp2
 go_loopg [3, 4] k (fun kq v3 v4 w' => ∃ (x3_1 : ByteArray) (x4_1 : Int), v3 = .string x3_1 ∧ v4 = .int .i64 x4_1 ∧ Aside0 (y_m.l0 kq l0 x3_1 x4_1 = some r) ∧ Aside0 (kq ≤ k) ∧ Aside0 (Below w.heap.size w w'))
 case atStart => exact ⟨((⟨#[]⟩ : ByteArray)), (0), (by first | rfl | (simp; done) | (simp [*]; done)), (by first | rfl | (simp; done) | (simp [*]; done)), H', ⟨Nat.le_refl _⟩, ⟨by repeat (first | (with_reducible first | exact HB.out | apply z12d | apply z12b | apply z12c) | exact HB.out)⟩⟩
 case round =>
  clear H'
  try clear c1
  obtain ⟨x3_1, x4_1, rfl, rfl, HA, HK1, HB⟩ := hrel
  cases gk with
  | zero => exact absurd HA.out (by simp [y_m.l0])
  | succ k1 =>
   have H := HA.out
   clear HA
   simp only [y_m.l0] at H
   have HC2 := z12a H
   clear H
   go_upto_region 3 with (fail)
   go_cut [12] (fun v12 wc => ∃ (kq : Nat) (x12_1 : Bool), v12 = .bool x12_1 ∧ Aside0 (y_m.j1 kq l0 x3_1 x4_1 x12_1 = some r) ∧ Aside0 (kq ≤ k1) ∧ Aside0 (Below w.heap.size w wc))
   case first =>
    have H := HC2.out
    clear HC2
    by_cases c3 : x4_1 < (l0.length : Int)
    ·rw [if_pos c3] at H
     have c3b0 : decide (x4_1 < (l0.length : Int)) = true := z12h c3
     clear c3
     (first | rw [c3b0] | (simp only [i64_w, i32_w]; rw [c3b0]) | skip)
     replace H := z12f.mp H
     obtain ⟨t600, A40, H⟩ := H
     have A4 := z12a A40
     clear A40
     have H' := z12a H
     clear H
     go_wp2_with (first | (go_at_call 93; (with_reducible refine (y_y.calls k1 _ _ l0 t600 _ ?side1 ?side2 A4.out).mono ?_); (case side1 => repeat (first | exact (Kd.C_below HR0.out HB.out) | (with_reducible refine Kd.C_alloc ?_ _) | (with_reducible refine Kd.C_drewN ?_ _) | (with_reducible refine Kd.C_drew ?_))); (case side2 => exact HC0.out); rintro e w5 ⟨rfl, hb⟩; have n0_ := z12a (below_step (by repeat (first | (with_reducible first | exact HB.out | apply z12d | apply z12b | apply z12c) | exact HB.out)) hb); clear HB; have HB := n0_; clear n0_; (try clear hb); (try clear hb2); (try clear hk); (try clear hi)))
     go_meet
     case rel => exact ⟨_, (t600), (by first | rfl | (simp; done) | (simp [*]; done)), H', ⟨by have := HK1.out; first | omega | exact Nat.le_refl _⟩, ⟨by repeat (first | (with_reducible first | exact HB.out | apply z12d | apply z12b | apply z12c) | exact HB.out)⟩⟩
    ·rw [if_neg c3] at H
     have c3b0 : decide (x4_1 < (l0.length : Int)) = false := decide_eq_false c3
     clear c3
     (first | rw [c3b0] | (simp only [i64_w, i32_w]; rw [c3b0]) | skip)
     have H' := z12a H
     clear H
     go_wp2
     go_meet
     case rel => exact ⟨_, (false), (by first | rfl | (simp; done) | (simp [*]; done)), H', ⟨by have := HK1.out; first | omega | exact Nat.le_refl _⟩, ⟨by repeat (first | (with_reducible first | exact HB.out | apply z12d | apply z12b | apply z12c) | exact HB.out)⟩⟩
   case rest =>
    clear HC2
    try clear c1
    try clear p2
    try clear c3
    try clear c3b0
    obtain ⟨kq, x12_1, rfl, HA, HJ1, HB⟩ := hcut
    cases kq with
    | zero => exact absurd HA.out (by simp [y_m.j1])
    | succ kj1 =>
     have H := HA.out
     clear HA
     simp only [y_m.j1] at H
     by_cases c6 : x12_1 = true
     ·subst c6
      rw [if_pos rfl] at H
      by_cases c7 : x4_1 > 0
      ·rw [if_pos c7] at H
       have c7b0 : decide (0 < x4_1) = true := z12h c7
       clear c7
       by_cases c8 : x3_1.size + 1 ≤ 9223372036854775807
       ·rw [if_pos c8] at H
        have c8b0 := eq_true c8
        have c8b1 : decide (x3_1.size + 1 ≤ 9223372036854775807) = true := z12h c8
        try have c8b2 : (9223372036854775807 < x3_1.size + 1) = False := eq_false (Nat.not_lt.2 c8)
        by_cases c9 : 0 ≤ x4_1
        ·rw [if_pos c9] at H
         have c9b0 : decide (0 ≤ x4_1) = true := z12h c9
         clear c9
         by_cases c10 : x4_1 < (l0.length : Int)
         ·rw [if_pos c10] at H
          have c10b0 : decide (x4_1 < (l0.length : Int)) = true := z12h c10
          clear c10
          replace H := z12f.mp H
          obtain ⟨t602, A110, H⟩ := H
          have A11 := z12a A110
          clear A110
          by_cases c12 : (x3_1 ++ (⟨#[32]⟩ : ByteArray)).size + t602.size ≤ 9223372036854775807
          ·rw [if_pos c12] at H
           have c12b0 := eq_true c12
           have c12b1 : decide ((x3_1 ++ (⟨#[32]⟩ : ByteArray)).size + t602.size ≤ 9223372036854775807) = true := z12h c12
           try have c12b2 : (9223372036854775807 < (x3_1 ++ (⟨#[32]⟩ : ByteArray)).size + t602.size) = False := eq_false (Nat.not_lt.2 c12)
           try have c12b3 : (9223372036854775807 < x3_1.size + 1 + t602.size) = False := eq_false (by have h_ := c12; simp only [ByteArray.size_append, show ∀ b_ : UInt8, (⟨#[b_]⟩ : ByteArray).size = 1 from fun _ => rfl] at h_; omega)
           have H' := z12a H
           clear H
           have p601 : 0 ≤ (x4_1 : Int) := z12g (by first | (with_reducible assumption) | assumption)
           have q601 : x4_1 < (l0.length : Int) := z12g (by first | (with_reducible assumption) | assumption)
           obtain ⟨ad601, e601, hx601_0, hx601_1, hx601_2⟩ := at_T71 HR0.out x4_1 p601 q601
           cases e601
           replace hx601_0 := (HB.out.cell (z12e w _ hx601_0)).trans hx601_0
           replace hx601_1 := (HB.out.cell (z12e w _ hx601_1)).trans hx601_1
           replace hx601_2 := (HB.out.cell (z12e w _ hx601_2)).trans hx601_2
           replace p601 := eq_true p601
           replace q601 := eq_true q601
           go_wp2_with (first | ((with_reducible refine gate_callee (f := 140) rfl ?_); refine goesL_ (some 24) rfl rfl Try.func140 (by kernel_rfl) rfl #[.agg #[.int .i64 ((rd_T71 l0 x4_1).f0), .int .i64 ((rd_T71 l0 x4_1).f1), .int .i64 ((rd_T71 l0 x4_1).f2)]] rfl (by (try simp only [zm12a, zm12b, zm12c]); first | done | rfl | (simp only [zm12d, zm12e]; rfl)) ?_; (with_reducible refine (y_nb.calls kj1 ((rd_T71 l0 x4_1).f0) ((rd_T71 l0 x4_1).f1) ((rd_T71 l0 x4_1).f2) t602 _ A11.out).mono ?_); rintro e w13 ⟨rfl, hb⟩; refine ⟨_, rfl, ?_⟩; have n0_ := z12a (below_step (by repeat (first | (with_reducible first | exact HB.out | apply z12d | apply z12b | apply z12c) | exact HB.out)) hb); clear HB; have HB := n0_; clear n0_; (try clear hb); (try clear hb2); (try clear hk); (try clear hi)))
           go_roundg kj1
           case measure => have := HK1.out; have := HJ1.out; omega
           case rel => exact ⟨((x3_1 ++ (⟨#[32]⟩ : ByteArray)) ++ t602), (wrap64 (x4_1 + 1)), (by first | rfl | (simp; done) | (simp [*]; done)), (by first | rfl | (simp; done) | (simp [*]; done)), H', ⟨by have := HK1.out; have := HJ1.out; omega⟩, ⟨by repeat (first | (with_reducible first | exact HB.out | apply z12d | apply z12b | apply z12c) | exact HB.out)⟩⟩
          ·rw [if_neg c12] at H
           exact absurd H (by simp)
         ·rw [if_neg c10] at H
          exact absurd H (by simp)
        ·rw [if_neg c9] at H
         exact absurd H (by simp)
       ·rw [if_neg c8] at H
        exact absurd H (by simp)
      ·rw [if_neg c7] at H
       have c7b0 : decide (0 < x4_1) = false := decide_eq_false c7
       clear c7
       by_cases c14 : 0 ≤ x4_1
       ·rw [if_pos c14] at H
        have c14b0 : decide (0 ≤ x4_1) = true := z12h c14
        clear c14
        by_cases c15 : x4_1 < (l0.length : Int)
        ·rw [if_pos c15] at H
         have c15b0 : decide (x4_1 < (l0.length : Int)) = true := z12h c15
         clear c15
         replace H := z12f.mp H
         obtain ⟨t604, A160, H⟩ := H
         have A16 := z12a A160
         clear A160
         by_cases c17 : x3_1.size + t604.size ≤ 9223372036854775807
         ·rw [if_pos c17] at H
          have c17b0 := eq_true c17
          have c17b1 : decide (x3_1.size + t604.size ≤ 9223372036854775807) = true := z12h c17
          try have c17b2 : (9223372036854775807 < x3_1.size + t604.size) = False := eq_false (Nat.not_lt.2 c17)
          have H' := z12a H
          clear H
          have p603 : 0 ≤ (x4_1 : Int) := z12g (by first | (with_reducible assumption) | assumption)
          have q603 : x4_1 < (l0.length : Int) := z12g (by first | (with_reducible assumption) | assumption)
          obtain ⟨ad603, e603, hx603_0, hx603_1, hx603_2⟩ := at_T71 HR0.out x4_1 p603 q603
          cases e603
          replace hx603_0 := (HB.out.cell (z12e w _ hx603_0)).trans hx603_0
          replace hx603_1 := (HB.out.cell (z12e w _ hx603_1)).trans hx603_1
          replace hx603_2 := (HB.out.cell (z12e w _ hx603_2)).trans hx603_2
          replace p603 := eq_true p603
          replace q603 := eq_true q603
          go_wp2_with (first | ((with_reducible refine gate_callee (f := 140) rfl ?_); refine goesL_ (some 24) rfl rfl Try.func140 (by kernel_rfl) rfl #[.agg #[.int .i64 ((rd_T71 l0 x4_1).f0), .int .i64 ((rd_T71 l0 x4_1).f1), .int .i64 ((rd_T71 l0 x4_1).f2)]] rfl (by (try simp only [zm12a, zm12b, zm12c]); first | done | rfl | (simp only [zm12d, zm12e]; rfl)) ?_; (with_reducible refine (y_nb.calls kj1 ((rd_T71 l0 x4_1).f0) ((rd_T71 l0 x4_1).f1) ((rd_T71 l0 x4_1).f2) t604 _ A16.out).mono ?_); rintro e w18 ⟨rfl, hb⟩; refine ⟨_, rfl, ?_⟩; have n0_ := z12a (below_step (by repeat (first | (with_reducible first | exact HB.out | apply z12d | apply z12b | apply z12c) | exact HB.out)) hb); clear HB; have HB := n0_; clear n0_; (try clear hb); (try clear hb2); (try clear hk); (try clear hi)))
          go_roundg kj1
          case measure => have := HK1.out; have := HJ1.out; omega
          case rel => exact ⟨(x3_1 ++ t604), (wrap64 (x4_1 + 1)), (by first | rfl | (simp; done) | (simp [*]; done)), (by first | rfl | (simp; done) | (simp [*]; done)), H', ⟨by have := HK1.out; have := HJ1.out; omega⟩, ⟨by repeat (first | (with_reducible first | exact HB.out | apply z12d | apply z12b | apply z12c) | exact HB.out)⟩⟩
         ·rw [if_neg c17] at H
          exact absurd H (by simp)
        ·rw [if_neg c15] at H
         exact absurd H (by simp)
       ·rw [if_neg c14] at H
        exact absurd H (by simp)
     ·replace c6 := Bool.eq_false_iff.mpr c6
      subst c6
      have H1 : (some x3_1) = some r := by rw [if_neg (show ¬ (false = true) by decide)] at H; exact H
      clear H
      have H := H1
      clear H1
      obtain rfl := Option.some.inj H
      go_wp2
      go_ret
      exact ⟨by first | rfl | (simp [errW_none, errW_some] <;> rfl) | (simp [*, errW_none, errW_some] <;> rfl), by repeat (first | (with_reducible first | exact HB.out | apply z12d | apply z12b | apply z12c) | exact HB.out)⟩
def y_o.l0 : Nat → List (S39) → ByteArray → Int → Option (ByteArray)
 | 0, _, _, _ => none
 | k + 1, x0, x3, x4 => if x4 < (x0.length : Int) then (if x4 > 0 then (if x3.size + 1 ≤ 9223372036854775807 then (if 0 ≤ x4 then ((y_m.f k ((rd_T39 x0 x4).f0)).bind fun t606 => (if (x3 ++ (⟨#[124]⟩ : ByteArray)).size + t606.size ≤ 9223372036854775807 then (y_o.l0 k x0 ((x3 ++ (⟨#[124]⟩ : ByteArray)) ++ t606) (wrap64 (x4 + 1))) else (none))) else (none)) else (none)) else (if 0 ≤ x4 then ((y_m.f k ((rd_T39 x0 x4).f0)).bind fun t608 => (if x3.size + t608.size ≤ 9223372036854775807 then (y_o.l0 k x0 (x3 ++ t608) (wrap64 (x4 + 1))) else (none))) else (none))) else (some x3)
def y_o.f (k : Nat) (l0 : List (S39)) : Option (ByteArray) := y_o.l0 k l0 (⟨#[]⟩ : ByteArray) 0
theorem y_o.calls (k : Nat) (A0 : Option Addr) (c0 : Nat) (l0 : List (S39)) (r : ByteArray) (w : World) (hr0 : Kd.C k39 w A0 l0.length l0) (hc0 : l0.length ≤ c0) (h : y_o.f k l0 = some r) :
  Calls Try.prog 25 #[.slice A0 l0.length c0] w fun e w' => e = .returned (.string r) ∧ Below w.heap.size w w' := by
 have HR0 := z12a hr0
 have HC0 := z12a hc0
 clear hr0 hc0
 have HB := z12a (Below.refl w.heap.size w)
 have H : (y_o.l0 k l0 (⟨#[]⟩ : ByteArray) 0) = some r := h
 clear h
 have H' := z12a H
 clear H
 go_enter Try.func25, Try.ntmps25
 go_wp2
 go_loopg [3, 4] k (fun kq v3 v4 w' => ∃ (x3_1 : ByteArray) (x4_1 : Int), v3 = .string x3_1 ∧ v4 = .int .i64 x4_1 ∧ Aside0 (y_o.l0 kq l0 x3_1 x4_1 = some r) ∧ Aside0 (kq ≤ k) ∧ Aside0 (Below w.heap.size w w'))
 case atStart => exact ⟨((⟨#[]⟩ : ByteArray)), (0), (by first | rfl | (simp; done) | (simp [*]; done)), (by first | rfl | (simp; done) | (simp [*]; done)), H', ⟨Nat.le_refl _⟩, ⟨by repeat (first | (with_reducible first | exact HB.out | apply z12d | apply z12b | apply z12c) | exact HB.out)⟩⟩
 case round =>
  clear H'
  obtain ⟨x3_1, x4_1, rfl, rfl, HA, HK1, HB⟩ := hrel
  cases gk with
  | zero => exact absurd HA.out (by simp [y_o.l0])
  | succ k1 =>
   have H := HA.out
   clear HA
   simp only [y_o.l0] at H
   by_cases c2 : x4_1 < (l0.length : Int)
   ·rw [if_pos c2] at H
    have c2b0 : decide (x4_1 < (l0.length : Int)) = true := z12h c2
    clear c2
    by_cases c3 : x4_1 > 0
    ·rw [if_pos c3] at H
     have c3b0 : decide (0 < x4_1) = true := z12h c3
     clear c3
     by_cases c4 : x3_1.size + 1 ≤ 9223372036854775807
     ·rw [if_pos c4] at H
      have c4b0 := eq_true c4
      have c4b1 : decide (x3_1.size + 1 ≤ 9223372036854775807) = true := z12h c4
      try have c4b2 : (9223372036854775807 < x3_1.size + 1) = False := eq_false (Nat.not_lt.2 c4)
      by_cases c5 : 0 ≤ x4_1
      ·rw [if_pos c5] at H
       have c5b0 : decide (0 ≤ x4_1) = true := z12h c5
       clear c5
       replace H := z12f.mp H
       obtain ⟨t606, A60, H⟩ := H
       have A6 := z12a A60
       clear A60
       by_cases c7 : (x3_1 ++ (⟨#[124]⟩ : ByteArray)).size + t606.size ≤ 9223372036854775807
       ·rw [if_pos c7] at H
        have c7b0 := eq_true c7
        have c7b1 : decide ((x3_1 ++ (⟨#[124]⟩ : ByteArray)).size + t606.size ≤ 9223372036854775807) = true := z12h c7
        try have c7b2 : (9223372036854775807 < (x3_1 ++ (⟨#[124]⟩ : ByteArray)).size + t606.size) = False := eq_false (Nat.not_lt.2 c7)
        try have c7b3 : (9223372036854775807 < x3_1.size + 1 + t606.size) = False := eq_false (by have h_ := c7; simp only [ByteArray.size_append, show ∀ b_ : UInt8, (⟨#[b_]⟩ : ByteArray).size = 1 from fun _ => rfl] at h_; omega)
        have H' := z12a H
        clear H
        have p605 : 0 ≤ (x4_1 : Int) := z12g (by first | (with_reducible assumption) | assumption)
        have q605 : x4_1 < (l0.length : Int) := z12g (by first | (with_reducible assumption) | assumption)
        obtain ⟨ad605, A605_0, c605_0, e605, hx605_0, hl605_0, hi605_0⟩ := at_T39 HR0.out x4_1 p605 q605
        cases e605
        replace hx605_0 := (HB.out.cell (z12e w _ hx605_0)).trans hx605_0
        have HR605_0 := z12a hi605_0
        have HC605_0 := z12a hl605_0
        clear hi605_0 hl605_0
        replace p605 := eq_true p605
        replace q605 := eq_true q605
        go_wp2_with (first | ((with_reducible refine gate_callee (f := 121) rfl ?_); refine goesL_ (some 21) rfl rfl Try.func121 (by kernel_rfl) rfl #[.slice A605_0 ((rd_T39 l0 x4_1).f0).length c605_0] rfl (by (try simp only [zm12a, zm12b, zm12c]); first | done | rfl | (simp only [zm12d, zm12e]; rfl)) ?_; (with_reducible refine (y_m.calls k1 _ _ ((rd_T39 l0 x4_1).f0) t606 _ ?side1 ?side2 A6.out).mono ?_); (case side1 => repeat (first | exact (Kd.C_below HR605_0.out HB.out) | (with_reducible refine Kd.C_alloc ?_ _) | (with_reducible refine Kd.C_drewN ?_ _) | (with_reducible refine Kd.C_drew ?_))); (case side2 => exact HC605_0.out); rintro e w8 ⟨rfl, hb⟩; refine ⟨_, rfl, ?_⟩; have n0_ := z12a (below_step (by repeat (first | (with_reducible first | exact HB.out | apply z12d | apply z12b | apply z12c) | exact HB.out)) hb); clear HB; have HB := n0_; clear n0_; (try clear hb); (try clear hb2); (try clear hk); (try clear hi)))
        go_roundg k1
        case measure => have := HK1.out; omega
        case rel => exact ⟨((x3_1 ++ (⟨#[124]⟩ : ByteArray)) ++ t606), (wrap64 (x4_1 + 1)), (by first | rfl | (simp; done) | (simp [*]; done)), (by first | rfl | (simp; done) | (simp [*]; done)), H', ⟨by have := HK1.out; omega⟩, ⟨by repeat (first | (with_reducible first | exact HB.out | apply z12d | apply z12b | apply z12c) | exact HB.out)⟩⟩
       ·rw [if_neg c7] at H
        exact absurd H (by simp)
      ·rw [if_neg c5] at H
       exact absurd H (by simp)
     ·rw [if_neg c4] at H
      exact absurd H (by simp)
    ·rw [if_neg c3] at H
     have c3b0 : decide (0 < x4_1) = false := decide_eq_false c3
     clear c3
     by_cases c9 : 0 ≤ x4_1
     ·rw [if_pos c9] at H
      have c9b0 : decide (0 ≤ x4_1) = true := z12h c9
      clear c9
      replace H := z12f.mp H
      obtain ⟨t608, A100, H⟩ := H
      have A10 := z12a A100
      clear A100
      by_cases c11 : x3_1.size + t608.size ≤ 9223372036854775807
      ·rw [if_pos c11] at H
       have c11b0 := eq_true c11
       have c11b1 : decide (x3_1.size + t608.size ≤ 9223372036854775807) = true := z12h c11
       try have c11b2 : (9223372036854775807 < x3_1.size + t608.size) = False := eq_false (Nat.not_lt.2 c11)
       have H' := z12a H
       clear H
       have p607 : 0 ≤ (x4_1 : Int) := z12g (by first | (with_reducible assumption) | assumption)
       have q607 : x4_1 < (l0.length : Int) := z12g (by first | (with_reducible assumption) | assumption)
       obtain ⟨ad607, A607_0, c607_0, e607, hx607_0, hl607_0, hi607_0⟩ := at_T39 HR0.out x4_1 p607 q607
       cases e607
       replace hx607_0 := (HB.out.cell (z12e w _ hx607_0)).trans hx607_0
       have HR607_0 := z12a hi607_0
       have HC607_0 := z12a hl607_0
       clear hi607_0 hl607_0
       replace p607 := eq_true p607
       replace q607 := eq_true q607
       go_wp2_with (first | ((with_reducible refine gate_callee (f := 121) rfl ?_); refine goesL_ (some 21) rfl rfl Try.func121 (by kernel_rfl) rfl #[.slice A607_0 ((rd_T39 l0 x4_1).f0).length c607_0] rfl (by (try simp only [zm12a, zm12b, zm12c]); first | done | rfl | (simp only [zm12d, zm12e]; rfl)) ?_; (with_reducible refine (y_m.calls k1 _ _ ((rd_T39 l0 x4_1).f0) t608 _ ?side1 ?side2 A10.out).mono ?_); (case side1 => repeat (first | exact (Kd.C_below HR607_0.out HB.out) | (with_reducible refine Kd.C_alloc ?_ _) | (with_reducible refine Kd.C_drewN ?_ _) | (with_reducible refine Kd.C_drew ?_))); (case side2 => exact HC607_0.out); rintro e w12 ⟨rfl, hb⟩; refine ⟨_, rfl, ?_⟩; have n0_ := z12a (below_step (by repeat (first | (with_reducible first | exact HB.out | apply z12d | apply z12b | apply z12c) | exact HB.out)) hb); clear HB; have HB := n0_; clear n0_; (try clear hb); (try clear hb2); (try clear hk); (try clear hi)))
       go_roundg k1
       case measure => have := HK1.out; omega
       case rel => exact ⟨(x3_1 ++ t608), (wrap64 (x4_1 + 1)), (by first | rfl | (simp; done) | (simp [*]; done)), (by first | rfl | (simp; done) | (simp [*]; done)), H', ⟨by have := HK1.out; omega⟩, ⟨by repeat (first | (with_reducible first | exact HB.out | apply z12d | apply z12b | apply z12c) | exact HB.out)⟩⟩
      ·rw [if_neg c11] at H
       exact absurd H (by simp)
     ·rw [if_neg c9] at H
      exact absurd H (by simp)
   ·rw [if_neg c2] at H
    have c2b0 : decide (x4_1 < (l0.length : Int)) = false := decide_eq_false c2
    clear c2
    obtain rfl := Option.some.inj H
    go_wp2
    go_ret
    exact ⟨by first | rfl | (simp [errW_none, errW_some] <;> rfl) | (simp [*, errW_none, errW_some] <;> rfl), by repeat (first | (with_reducible first | exact HB.out | apply z12d | apply z12b | apply z12c) | exact HB.out)⟩
end Go.Proofs.Ytkcicbigpbdjpaa.P
end
