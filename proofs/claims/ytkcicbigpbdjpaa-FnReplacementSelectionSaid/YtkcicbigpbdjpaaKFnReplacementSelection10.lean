-- merged by pack.py out of Px15 Px16 Px17 (words: printed by the kit's print.sh; what this claim does not use is left out)

import Derived.Test.YtkcicbigpbdjpaaKFnReplacementSelection1
import Derived.Test.YtkcicbigpbdjpaaKFnReplacementSelection2
import Derived.Test.YtkcicbigpbdjpaaKFnReplacementSelection9
namespace Go.Proofs.Ytkcicbigpbdjpaa
abbrev zt10 : Bool := true
abbrev zf10 : Bool := false
section
open Go.RowKit Go.Proofs.YtkcicbigpbdjpaaW.PrintWords Go.Proofs.YtkcicbigpbdjpaaW.PrintLast Go.Proofs.YtkcicbigpbdjpaaW.PrintMore
abbrev z10a := @Aside0.mk
abbrev z10b := @pw_below_drewN
abbrev z10c := @below_drew1
abbrev z10d := @below_alloc
abbrev z10e := @World.block_lt_of_cell?
abbrev z10f := @Option.bind_eq_some_iff
abbrev z10g := @of_decide_eq_true
abbrev z10h := @decide_eq_true
abbrev z10i := @Kd.S_alloc
abbrev z10j := @Kd.S_drewN
end
theorem zm10a {α β : Type} (f : α → β) (l : List α) : l.toArray.map f = (l.map f).toArray := by simp
theorem zm10b {α β : Type} (f : α → β) (a : α) (l : List α) : (a :: l).map f = f a :: l.map f := rfl
theorem zm10c {α β : Type} (f : α → β) : ([] : List α).map f = [] := rfl
theorem zm10d {α : Type} (n : Nat) (l : List α) : (l.drop n).length = l.length - n := List.length_drop
theorem zm10e {α : Type} (n : Nat) (l : List α) : (l.take n).length = min n l.length := List.length_take
theorem zp10a {α : Type} (l : List α) (i : Nat) (a : α) : l.toArray.setIfInBounds i a = (l.set i a).toArray := List.setIfInBounds_toArray l i a
theorem zp10b {α : Type} (x : α) (l : List α) (a : α) : (x :: l).set 0 a = a :: l := List.set_cons_zero
theorem zp10c {α : Type} (x : α) (l : List α) (n : Nat) (a : α) : (x :: l).set (n + 1) a = x :: l.set n a := List.set_cons_succ
end Go.Proofs.Ytkcicbigpbdjpaa
set_option maxHeartbeats 8000000
set_option maxRecDepth 100000
section
namespace Go.Proofs.Ytkcicbigpbdjpaa.P
open Go.RowKit Go.Proofs.YtkcicbigpbdjpaaW.PrintWords Go.Proofs.YtkcicbigpbdjpaaW.PrintLast Go.Proofs.YtkcicbigpbdjpaaW.PrintMore
attribute [local go_sem] max2_int min2_int max_two min_two max_three min_three max_four min_four
set_option linter.unusedVariables false
set_option linter.unusedSimpArgs false
attribute [local go_sem high] eqA71
def y_p.l0 : Nat → List (S39) → Int → List Int → Int → Int → Option ((List (S39)) × Int × Int)
 | 0, _, _, _, _, _ => none
 | k + 1, x3, x4, x1000, x1001, x1002 => if x4 > 0 then ((y_s.f k x1000 x1001 x1002 4).bind fun bt488 => ((y_d.f k bt488.1).bind fun t493 => (if (t493.length : Int) > 0 then (if x3.length < 5864062014805 then (y_p.l0 k (x3 ++ [(⟨t493⟩ : S39)]) (wrap64 (x4 - 1)) x1000 bt488.2.1 bt488.2.2) else (none)) else ((y_ib.f x1000 bt488.2.1 bt488.2.2 20).bind fun bt499 => (if bt499.1 = true then (if x3.length < 5864062014805 then (y_p.l0 k (x3 ++ [(⟨t493⟩ : S39)]) (wrap64 (x4 - 1)) x1000 bt499.2.1 bt499.2.2) else (none)) else (y_p.l0 k x3 (wrap64 (x4 - 1)) x1000 bt499.2.1 bt499.2.2)))))) else (if (x3.length : Int) > 0 then ((y_ib.f x1000 x1001 x1002 12).bind fun bt505 => (if bt505.1 = true then ((y_s.f k x1000 bt505.2.1 bt505.2.2 4).bind fun bt508 => (if 0 < (x3.length : Int) then (some ((x3.set (0 : Int).toNat (⟨bt508.1⟩ : S39)), bt508.2.1, bt508.2.2)) else (none))) else (some (x3, bt505.2.1, bt505.2.2)))) else (some (x3, x1001, x1002)))
def y_p.f (k : Nat) (s0_0 : List Int) (s0_1 : Int) (s0_2 : Int) : Option ((List (S39)) × Int × Int) := (y_r.f s0_0 s0_1 s0_2 5).bind fun bt485 => (y_p.l0 k (([] : List (S39))) bt485.1 s0_0 bt485.2.1 bt485.2.2)
theorem y_p.calls (k : Nat) (g : Nat) (s0_0 : List Int) (s0_1 : Int) (s0_2 : Int) (r1 : List (S39)) (r2 : Int) (r3 : Int) (w0 w : World) (hI : IsS154 w0 w g s0_0 s0_1 s0_2) (hB : Below w0.heap.size w0 w) (h : y_p.f k s0_0 s0_1 s0_2 = some (r1, r2, r3)) :
  Calls Try.prog 118 #[.pointer (some ⟨g, 0, none⟩)] w fun e w' => ∃ v0_ : Value, e = .returned (v0_) ∧ Kd.S k39 39 w' w.heap.size (fun _ => True) v0_ r1 ∧ IsS154 w0 w' g s0_0 r2 r3 ∧ Below w0.heap.size w0 w' ∧ KeepBut w w' g none := by
 have hu39 := Try.underlying39
 have HI0 := z10a hI
 have HK := z10a (KeepBut.refl w g none)
 have HL := z10a hB.size
 clear hI
 have HW0 := z10a hB.size
 have HB := z10a hB
 clear hB
 have H := h
 unfold y_p.f at H
 clear h
 obtain ⟨y482, hy482⟩ : ∃ y_ : List (S39), y_ = (([] : List (S39))) := ⟨_, rfl⟩
 replace H : ((y_r.f s0_0 s0_1 s0_2 5).bind fun bt485 => (y_p.l0 k y482 bt485.1 s0_0 bt485.2.1 bt485.2.2)) = some (r1, r2, r3) := by first | (rw [hy482]; with_reducible exact H) | (have H2_ := (Option.bind_some _ _).symm.trans H; rw [hy482]; with_reducible exact H2_) | (have H2_ := (Option.bind_some _ _).symm.trans H; with_reducible exact H2_) | with_reducible exact H | (rw [hy482]; exact H) | exact H
 have Ny482 := z10a hy482
 clear hy482
 replace H := z10f.mp H
 obtain ⟨⟨t485, t486, t487⟩, A20, H⟩ := H
 replace H : (y_p.l0 k y482 t485 s0_0 t486 t487) = some (r1, r2, r3) := H
 have A2 := z10a A20
 clear A20
 have H' := z10a H
 clear H
 go_enter Try.func118, Try.ntmps118
 go_wp2_with (first | ((with_reducible refine gate_dst (N := 6) rfl ?_); refine Kd.S_lit k39 _ 39 ?hg (N := 6) ?hd (xs := ([] : List (S39))) (inner := []) (ok := fun _ => True) (okp := fun _ => True) ?hr ?hp (fun _ hk => hk) trivial (Below.refl _ _) (Nat.le_refl _) (by simp) ?_; (case hd => rfl); (case hg => rfl); (case hr => first | (go_simp; done) | (go_simp; rfl)); (case hp => exact (Reps.none _ _)); intro v483 w3 ho4 hb hg_ hnew_; clear hg_ hnew_; (first | rw [← Ny482.out] at ho4 | (simp only [Int.reduceToNat] at ho4; rw [← Ny482.out] at ho4)); have n0_ := z10a (Kd.S_lower ho4 (keep_size (w := w) (g := g) (row := none) (by repeat (first | (with_reducible first | exact HK.out | apply KeepBut.set_ | apply keep_drewN | apply keep_drew | apply keep_alloc) | exact HK.out)))); have n1_ := z10a (IsS154.below (by repeat (first | (with_reducible first | exact HI0.out | apply IsS154.alloc | apply IsS154.drewN | apply IsS154.drew | apply IsS154.set_1 | apply IsS154.set_2) | exact HI0.out)) hb); have n2_ := z10a (KeepBut.trans (by repeat (first | (with_reducible first | exact HK.out | apply KeepBut.set_ | apply keep_drewN | apply keep_drew | apply keep_alloc) | exact HK.out)) (KeepBut.of_below hb g none) (.inl rfl)); have n3_ := z10a (below_step (by repeat (first | (with_reducible first | exact HB.out | apply z10d | apply z10b | apply z10c | refine below_set ?_ (IsS154.ge HI0.out)) | exact HB.out)) hb); clear HI0; clear HK; clear HB; have HO484 := n0_; have HI0 := n1_; have HK := n2_; have HB := n3_; clear n0_ n1_ n2_ n3_; clear hb ho4) | ((with_reducible refine gate_callee (f := 143) rfl ?_); refine goesL_ (some 8) rfl rfl Try.func143 (by kernel_rfl) rfl #[.pointer (some ⟨g, 0, none⟩), .int .i64 5] rfl (by (try simp only [zm10a, zm10b, zm10c]); first | done | rfl | (simp only [zm10d, zm10e]; rfl)) ?_; (with_reducible refine (y_r.calls g s0_0 s0_1 s0_2 5 t485 t486 t487 w0 _ ?side1 ?side2 A2.out).mono ?_); (case side1 => repeat (first | (with_reducible first | exact HI0.out | apply IsS154.alloc | apply IsS154.drewN | apply IsS154.drew | apply IsS154.set_1 | apply IsS154.set_2) | exact HI0.out)); (case side2 => repeat (first | (with_reducible first | exact HB.out | apply z10d | apply z10b | apply z10c | refine below_set ?_ (IsS154.ge HI0.out)) | exact HB.out)); rintro e w5 ⟨rfl, hi, hb, hk⟩; refine ⟨_, rfl, ?_⟩; have n0_ := z10a (Kd.S_mono (Kd.S_keep (IsS154.apartS (show IsS154 w0 _ g s0_0 s0_1 s0_2 from by repeat (first | (with_reducible first | exact HI0.out | apply IsS154.alloc | apply IsS154.drewN | apply IsS154.drew | apply IsS154.set_1 | apply IsS154.set_2) | exact HI0.out)) (by (with_reducible repeat (first | apply z10i | apply z10j | apply Kd.S_drew)); exact HO484.out) (by decide)) hk (fun _ h => h.2)) (fun _ h => h.1)); have n1_ := z10a (KeepBut.trans (by repeat (first | (with_reducible first | exact HK.out | apply KeepBut.set_ | apply keep_drewN | apply keep_drew | apply keep_alloc) | exact HK.out)) hk (.inl rfl)); have n2_ := z10a (hb); have n3_ := z10a (hi); clear HO484; clear HK; clear HB; clear HI0; have HO484 := n0_; have HK := n1_; have HB := n2_; have HI0 := n3_; clear n0_ n1_ n2_ n3_; (try clear hb); (try clear hb2); (try clear hk); (try clear hi)))
 go_loopg [3, 4] k (fun kq v3 v4 w' => ∃ (x3_1 : List (S39)) (x4_1 : Int) (x1001_1 : Int) (x1002_1 : Int), v4 = .int .i64 x4_1 ∧ Aside0 (y_p.l0 kq x3_1 x4_1 s0_0 x1001_1 x1002_1 = some (r1, r2, r3)) ∧ Aside0 (kq ≤ k) ∧ Aside0 (Kd.S k39 39 w' w.heap.size (fun _ => True) v3 x3_1) ∧ Aside0 (IsS154 w0 w' g s0_0 x1001_1 x1002_1) ∧ Aside0 (KeepBut w w' g none) ∧ Aside0 (Below w0.heap.size w0 w'))
 case atStart => exact ⟨(y482), (t485), (t486), (t487), (by first | rfl | (simp; done) | (simp [*]; done)), H', ⟨Nat.le_refl _⟩, ⟨by (with_reducible repeat (first | apply z10i | apply z10j | apply Kd.S_drew)); exact HO484.out⟩, ⟨by repeat (first | (with_reducible first | exact HI0.out | apply IsS154.alloc | apply IsS154.drewN | apply IsS154.drew | apply IsS154.set_1 | apply IsS154.set_2) | exact HI0.out)⟩, ⟨by repeat (first | (with_reducible first | exact HK.out | apply KeepBut.set_ | apply keep_drewN | apply keep_drew | apply keep_alloc) | exact HK.out)⟩, ⟨by repeat (first | (with_reducible first | exact HB.out | apply z10d | apply z10b | apply z10c | refine below_set ?_ (IsS154.ge HI0.out)) | exact HB.out)⟩⟩
 case round =>
  clear H'
  try clear c1
  try clear p2
  obtain ⟨x3_1, x4_1, x1001_1, x1002_1, rfl, HA, HK1, HO_3, HI0, HK, HB⟩ := hrel
  cases gk with
  | zero => exact absurd HA.out (by simp [y_p.l0])
  | succ k1 =>
   have H := HA.out
   clear HA
   simp only [y_p.l0] at H
   by_cases c6 : x4_1 > 0
   ·rw [if_pos c6] at H
    have c6b0 : decide (0 < x4_1) = true := z10h c6
    clear c6
    replace H := z10f.mp H
    obtain ⟨⟨t488, t491, t492⟩, A70, H⟩ := H
    replace H : ((y_d.f k1 t488).bind fun t493 => (if (t493.length : Int) > 0 then (if x3_1.length < 5864062014805 then (y_p.l0 k1 (x3_1 ++ [(⟨t493⟩ : S39)]) (wrap64 (x4_1 - 1)) s0_0 t491 t492) else (none)) else ((y_ib.f s0_0 t491 t492 20).bind fun bt499 => (if bt499.1 = true then (if x3_1.length < 5864062014805 then (y_p.l0 k1 (x3_1 ++ [(⟨t493⟩ : S39)]) (wrap64 (x4_1 - 1)) s0_0 bt499.2.1 bt499.2.2) else (none)) else (y_p.l0 k1 x3_1 (wrap64 (x4_1 - 1)) s0_0 bt499.2.1 bt499.2.2))))) = some (r1, r2, r3) := H
    have A7 := z10a A70
    clear A70
    replace H := z10f.mp H
    obtain ⟨t493, A80, H⟩ := H
    have A8 := z10a A80
    clear A80
    by_cases c9 : (t493.length : Int) > 0
    ·rw [if_pos c9] at H
     have c9b0 : decide (0 < (t493.length : Int)) = true := z10h c9
     have c9b1 : decide (0 < t493.length) = true := z10h (by omega)
     clear c9
     by_cases c10 : x3_1.length < 5864062014805
     ·rw [if_pos c10] at H
      have LMc10 := z10a c10
      clear c10
      obtain ⟨y496, hy496⟩ : ∃ y_ : List (S39), y_ = (x3_1 ++ [(⟨t493⟩ : S39)]) := ⟨_, rfl⟩
      replace H : (y_p.l0 k1 y496 (wrap64 (x4_1 - 1)) s0_0 t491 t492) = some (r1, r2, r3) := by first | (rw [hy496]; with_reducible exact H) | (have H2_ := (Option.bind_some _ _).symm.trans H; rw [hy496]; with_reducible exact H2_) | (have H2_ := (Option.bind_some _ _).symm.trans H; with_reducible exact H2_) | with_reducible exact H | (rw [hy496]; exact H) | exact H
      have Ny496 := z10a hy496
      clear hy496
      have H' := z10a H
      clear H
      go_wp2_with (first | ((with_reducible refine gate_callee (f := 129) rfl ?_); refine goesL_ (some 14) rfl rfl Try.func129 (by kernel_rfl) rfl #[.pointer (some ⟨g, 0, none⟩), .int .i64 4] rfl (by (try simp only [zm10a, zm10b, zm10c]); first | done | rfl | (simp only [zm10d, zm10e]; rfl)) ?_; (with_reducible refine (y_s.calls k1 g s0_0 x1001_1 x1002_1 4 t488 t491 t492 w0 _ ?side1 ?side2 A7.out).mono ?_); (case side1 => repeat (first | (with_reducible first | exact HI0.out | apply IsS154.alloc | apply IsS154.drewN | apply IsS154.drew | apply IsS154.set_1 | apply IsS154.set_2) | exact HI0.out)); (case side2 => repeat (first | (with_reducible first | exact HB.out | apply z10d | apply z10b | apply z10c | refine below_set ?_ (IsS154.ge HI0.out)) | exact HB.out)); rintro e w11 ⟨v489, rfl, ho0, hi, hb, hk⟩; refine ⟨_, rfl, ?_⟩; have n0_ := z10a (Kd.S_mono (Kd.S_told (Kd.S_oldK (IsS154.apartS (show IsS154 w0 _ g s0_0 x1001_1 x1002_1 from by repeat (first | (with_reducible first | exact HI0.out | apply IsS154.alloc | apply IsS154.drewN | apply IsS154.drew | apply IsS154.set_1 | apply IsS154.set_2) | exact HI0.out)) (by (with_reducible repeat (first | apply z10i | apply z10j | apply Kd.S_drew)); exact HO_3.out) (by decide)) hk) (Kd.R_base ho0)) (fun _ h_ => h_.1)); have n1_ := z10a (Kd.R_lower ho0 (keep_size (w := w) (g := g) (row := none) (by repeat (first | (with_reducible first | exact HK.out | apply KeepBut.set_ | apply keep_drewN | apply keep_drew | apply keep_alloc) | exact HK.out)))); have n2_ := z10a (KeepBut.trans (by repeat (first | (with_reducible first | exact HK.out | apply KeepBut.set_ | apply keep_drewN | apply keep_drew | apply keep_alloc) | exact HK.out)) hk (.inl rfl)); have n3_ := z10a (hb); have n4_ := z10a (hi); clear HO_3; clear HK; clear HB; clear HI0; have HO_3 := n0_; have HO490 := n1_; have HK := n2_; have HB := n3_; have HI0 := n4_; clear n0_ n1_ n2_ n3_ n4_; (try clear hb); (try clear hb2); (try clear hk); (try clear hi); (try clear ho0); obtain ⟨Ao12, co12, eo12⟩ := Kd.R_slice HO490.out; subst eo12) | ((with_reducible refine gate_callee (f := 60) rfl ?_); refine goesL_ (some 15) rfl rfl Try.func60 (by kernel_rfl) rfl #[.slice Ao12 t488.length co12] rfl (by (try simp only [zm10a, zm10b, zm10c]); first | done | rfl | (simp only [zm10d, zm10e]; rfl)) ?_; (with_reducible refine (y_d.calls k1 _ _ t488 t493 _ ?side1 ?side2 A8.out).mono ?_); (case side1 => repeat (first | exact (Kd.R_reads' HO490.out).2.2 | (with_reducible refine Kd.C_alloc ?_ _) | (with_reducible refine Kd.C_drewN ?_ _) | (with_reducible refine Kd.C_drew ?_))); (case side2 => exact (Kd.R_reads' HO490.out).2.1); rintro e w13 ⟨v494, rfl, ho0, hb⟩; refine ⟨_, rfl, ?_⟩; have n0_ := z10a (Kd.S_elder' (by (with_reducible repeat (first | apply z10i | apply z10j | apply Kd.S_drew)); exact HO_3.out) (Kd.R_base ho0) hb); have n1_ := z10a (Kd.R_elder' (by (with_reducible repeat (first | apply Kd.R_alloc | apply Kd.R_drewN | apply Kd.R_drew)); exact HO490.out) (Kd.R_base ho0) hb); have n2_ := z10a (Kd.R_lower (Kd.R_new' ho0 (Kd.R_lt (by (with_reducible repeat (first | apply Kd.R_alloc | apply Kd.R_drewN | apply Kd.R_drew)); exact HO490.out))) (keep_size (w := w) (g := g) (row := none) (by repeat (first | (with_reducible first | exact HK.out | apply KeepBut.set_ | apply keep_drewN | apply keep_drew | apply keep_alloc) | exact HK.out)))); have n3_ := z10a (IsS154.below (by repeat (first | (with_reducible first | exact HI0.out | apply IsS154.alloc | apply IsS154.drewN | apply IsS154.drew | apply IsS154.set_1 | apply IsS154.set_2) | exact HI0.out)) hb); have n4_ := z10a (KeepBut.trans (by repeat (first | (with_reducible first | exact HK.out | apply KeepBut.set_ | apply keep_drewN | apply keep_drew | apply keep_alloc) | exact HK.out)) (KeepBut.of_below hb g none) (.inl rfl)); have n5_ := z10a (below_step (by repeat (first | (with_reducible first | exact HB.out | apply z10d | apply z10b | apply z10c | refine below_set ?_ (IsS154.ge HI0.out)) | exact HB.out)) hb); clear HO_3; clear HO490; clear HI0; clear HK; clear HB; have HO_3 := n0_; have HO490 := n1_; have HO495 := n2_; have HI0 := n3_; have HK := n4_; have HB := n5_; clear n0_ n1_ n2_ n3_ n4_ n5_; (try clear hb); (try clear hb2); (try clear hk); (try clear hi); (try clear ho0); obtain ⟨Ao14, co14, eo14⟩ := Kd.R_slice HO495.out; subst eo14) | ((with_reducible refine gate_builtin (b := .append) (xs := #[.tmp 23, .tmp 26]) rfl ?_); at_builtin; refine Kd.S_append k39 w.heap.size rfl (.tmp 23) (.tmp 26) 27 39 (.agg #[(.slice none 0 0)]) 24 rfl Try.underlying27 info39 rfl (by decide) (by omega) u3 x3_1 (⟨t493⟩ : S39) [.slice Ao14 t493.length co14] (fun k_ => some k_ ≠ (.slice Ao12 t488.length co12 : Value).ownBlock) (fun k_ => some k_ = (.slice Ao14 t493.length co14 : Value).ownBlock) rfl rfl ?aP (fun k_ hk_ => ((Kd.R_mono (ok' := fun k_ => ((fun k_ => some k_ ≠ (.slice Ao12 t488.length co12 : Value).ownBlock)) k_ ∧ some k_ ≠ (u3 : Value).ownBlock) (Kd.R_apart' (HO495.out) (Kd.S_typed HO_3.out) (by decide)) (fun k_ hk => ⟨hk.1.2, hk.2⟩))).1 k_ hk_.symm) ?aF ?aO (Below.refl _ _) ?aS ?aL ?_; (case aP => exact k39_mkM _ _ _ (⟨t493⟩ : S39) (Kd.R_mono (Kd.R_tight rfl (Kd.R_mono (ok' := fun k_ => ((fun k_ => some k_ ≠ (.slice Ao12 t488.length co12 : Value).ownBlock)) k_ ∧ some k_ ≠ (u3 : Value).ownBlock) (Kd.R_apart' (HO495.out) (Kd.S_typed HO_3.out) (by decide)) (fun k_ hk => ⟨hk.1.2, hk.2⟩))) (fun _ h_ => h_))); (case aF => exact (fun k_ hk => Kd.fresh' (Kd.R_lt (by (with_reducible repeat (first | apply Kd.R_alloc | apply Kd.R_drewN | apply Kd.R_drew)); exact HO490.out)) k_ hk)); (case aO => exact (by (with_reducible repeat (first | apply z10i | apply z10j | apply Kd.S_drew)); exact Kd.S_mono HO_3.out (fun k_ hk => ⟨hk.1.2, fun e_ => hk.2 e_⟩))); (case aS => exact (keep_size (w := w) (g := g) (row := none) (by repeat (first | (with_reducible first | exact HK.out | apply KeepBut.set_ | apply keep_drewN | apply keep_drew | apply keep_alloc) | exact HK.out)))); (case aL => have := LMc10.out; omega); intro v497 w15 ho hb hg hat; rw [← Ny496.out] at ho; have n0_ := z10a (IsS154.grown (by repeat (first | (with_reducible first | exact HI0.out | apply IsS154.alloc | apply IsS154.drewN | apply IsS154.drew | apply IsS154.set_1 | apply IsS154.set_2) | exact HI0.out)) hg (IsS154.own_neS HI0.out HO_3.out (by decide))); have n1_ := z10a (Kd.R_over' (by (with_reducible repeat (first | apply Kd.R_alloc | apply Kd.R_drewN | apply Kd.R_drew)); exact HO490.out) (Kd.S_typed (by (with_reducible repeat (first | apply z10i | apply z10j | apply Kd.S_drew)); exact HO_3.out)) (by decide) hg); have n2_ := z10a (below_weaken (by repeat (first | (with_reducible first | exact HB.out | apply z10d | apply z10b | apply z10c | refine below_set ?_ (IsS154.ge HI0.out)) | exact HB.out)) HL.out hb); have n3_ := z10a (KeepBut.trans (by repeat (first | (with_reducible first | exact HK.out | apply KeepBut.set_ | apply keep_drewN | apply keep_drew | apply keep_alloc) | exact HK.out)) (KeepBut.of_grown hg g) (Kd.S_base2 HO_3.out)); have n4_ := z10a (ho); clear HI0; clear HO490; clear HB; clear HK; clear HO_3; clear HO495; have HI0 := n0_; have HO490 := n1_; have HB := n2_; have HK := n3_; have HO498 := n4_; clear n0_ n1_ n2_ n3_ n4_; clear ho hb hg hat))
      go_roundg k1
      case measure => have := HK1.out; omega
      case rel => exact ⟨(y496), (wrap64 (x4_1 - 1)), (t491), (t492), (by first | rfl | (simp; done) | (simp [*]; done)), H', ⟨by have := HK1.out; omega⟩, ⟨by (with_reducible repeat (first | apply z10i | apply z10j | apply Kd.S_drew)); exact Kd.S_mono HO498.out (fun _ hk => trivial)⟩, ⟨by repeat (first | (with_reducible first | exact HI0.out | apply IsS154.alloc | apply IsS154.drewN | apply IsS154.drew | apply IsS154.set_1 | apply IsS154.set_2) | exact HI0.out)⟩, ⟨by repeat (first | (with_reducible first | exact HK.out | apply KeepBut.set_ | apply keep_drewN | apply keep_drew | apply keep_alloc) | exact HK.out)⟩, ⟨by repeat (first | (with_reducible first | exact HB.out | apply z10d | apply z10b | apply z10c | refine below_set ?_ (IsS154.ge HI0.out)) | exact HB.out)⟩⟩
     ·rw [if_neg c10] at H
      exact absurd H (by simp)
    ·rw [if_neg c9] at H
     have c9b0 : decide (0 < (t493.length : Int)) = false := decide_eq_false c9
     have c9b1 : decide (0 < t493.length) = false := decide_eq_false (by omega)
     clear c9
     replace H := z10f.mp H
     obtain ⟨⟨t499, t500, t501⟩, A160, H⟩ := H
     replace H : (if t499 = true then (if x3_1.length < 5864062014805 then (y_p.l0 k1 (x3_1 ++ [(⟨t493⟩ : S39)]) (wrap64 (x4_1 - 1)) s0_0 t500 t501) else (none)) else (y_p.l0 k1 x3_1 (wrap64 (x4_1 - 1)) s0_0 t500 t501)) = some (r1, r2, r3) := H
     have A16 := z10a A160
     clear A160
     by_cases c17 : t499 = true
     ·subst c17
      rw [if_pos rfl] at H
      by_cases c18 : x3_1.length < 5864062014805
      ·rw [if_pos c18] at H
       have LMc18 := z10a c18
       clear c18
       obtain ⟨y502, hy502⟩ : ∃ y_ : List (S39), y_ = (x3_1 ++ [(⟨t493⟩ : S39)]) := ⟨_, rfl⟩
       replace H : (y_p.l0 k1 y502 (wrap64 (x4_1 - 1)) s0_0 t500 t501) = some (r1, r2, r3) := by first | (rw [hy502]; with_reducible exact H) | (have H2_ := (Option.bind_some _ _).symm.trans H; rw [hy502]; with_reducible exact H2_) | (have H2_ := (Option.bind_some _ _).symm.trans H; with_reducible exact H2_) | with_reducible exact H | (rw [hy502]; exact H) | exact H
       have Ny502 := z10a hy502
       clear hy502
       have H' := z10a H
       clear H
       go_wp2_with (first | ((with_reducible refine gate_callee (f := 129) rfl ?_); refine goesL_ (some 14) rfl rfl Try.func129 (by kernel_rfl) rfl #[.pointer (some ⟨g, 0, none⟩), .int .i64 4] rfl (by (try simp only [zm10a, zm10b, zm10c]); first | done | rfl | (simp only [zm10d, zm10e]; rfl)) ?_; (with_reducible refine (y_s.calls k1 g s0_0 x1001_1 x1002_1 4 t488 t491 t492 w0 _ ?side1 ?side2 A7.out).mono ?_); (case side1 => repeat (first | (with_reducible first | exact HI0.out | apply IsS154.alloc | apply IsS154.drewN | apply IsS154.drew | apply IsS154.set_1 | apply IsS154.set_2) | exact HI0.out)); (case side2 => repeat (first | (with_reducible first | exact HB.out | apply z10d | apply z10b | apply z10c | refine below_set ?_ (IsS154.ge HI0.out)) | exact HB.out)); rintro e w19 ⟨v489, rfl, ho0, hi, hb, hk⟩; refine ⟨_, rfl, ?_⟩; have n0_ := z10a (Kd.S_mono (Kd.S_told (Kd.S_oldK (IsS154.apartS (show IsS154 w0 _ g s0_0 x1001_1 x1002_1 from by repeat (first | (with_reducible first | exact HI0.out | apply IsS154.alloc | apply IsS154.drewN | apply IsS154.drew | apply IsS154.set_1 | apply IsS154.set_2) | exact HI0.out)) (by (with_reducible repeat (first | apply z10i | apply z10j | apply Kd.S_drew)); exact HO_3.out) (by decide)) hk) (Kd.R_base ho0)) (fun _ h_ => h_.1)); have n1_ := z10a (Kd.R_lower ho0 (keep_size (w := w) (g := g) (row := none) (by repeat (first | (with_reducible first | exact HK.out | apply KeepBut.set_ | apply keep_drewN | apply keep_drew | apply keep_alloc) | exact HK.out)))); have n2_ := z10a (KeepBut.trans (by repeat (first | (with_reducible first | exact HK.out | apply KeepBut.set_ | apply keep_drewN | apply keep_drew | apply keep_alloc) | exact HK.out)) hk (.inl rfl)); have n3_ := z10a (hb); have n4_ := z10a (hi); clear HO_3; clear HK; clear HB; clear HI0; have HO_3 := n0_; have HO490 := n1_; have HK := n2_; have HB := n3_; have HI0 := n4_; clear n0_ n1_ n2_ n3_ n4_; (try clear hb); (try clear hb2); (try clear hk); (try clear hi); (try clear ho0); obtain ⟨Ao20, co20, eo20⟩ := Kd.R_slice HO490.out; subst eo20) | ((with_reducible refine gate_callee (f := 60) rfl ?_); refine goesL_ (some 15) rfl rfl Try.func60 (by kernel_rfl) rfl #[.slice Ao20 t488.length co20] rfl (by (try simp only [zm10a, zm10b, zm10c]); first | done | rfl | (simp only [zm10d, zm10e]; rfl)) ?_; (with_reducible refine (y_d.calls k1 _ _ t488 t493 _ ?side1 ?side2 A8.out).mono ?_); (case side1 => repeat (first | exact (Kd.R_reads' HO490.out).2.2 | (with_reducible refine Kd.C_alloc ?_ _) | (with_reducible refine Kd.C_drewN ?_ _) | (with_reducible refine Kd.C_drew ?_))); (case side2 => exact (Kd.R_reads' HO490.out).2.1); rintro e w21 ⟨v494, rfl, ho0, hb⟩; refine ⟨_, rfl, ?_⟩; have n0_ := z10a (Kd.S_elder' (by (with_reducible repeat (first | apply z10i | apply z10j | apply Kd.S_drew)); exact HO_3.out) (Kd.R_base ho0) hb); have n1_ := z10a (Kd.R_elder' (by (with_reducible repeat (first | apply Kd.R_alloc | apply Kd.R_drewN | apply Kd.R_drew)); exact HO490.out) (Kd.R_base ho0) hb); have n2_ := z10a (Kd.R_lower (Kd.R_new' ho0 (Kd.R_lt (by (with_reducible repeat (first | apply Kd.R_alloc | apply Kd.R_drewN | apply Kd.R_drew)); exact HO490.out))) (keep_size (w := w) (g := g) (row := none) (by repeat (first | (with_reducible first | exact HK.out | apply KeepBut.set_ | apply keep_drewN | apply keep_drew | apply keep_alloc) | exact HK.out)))); have n3_ := z10a (IsS154.below (by repeat (first | (with_reducible first | exact HI0.out | apply IsS154.alloc | apply IsS154.drewN | apply IsS154.drew | apply IsS154.set_1 | apply IsS154.set_2) | exact HI0.out)) hb); have n4_ := z10a (KeepBut.trans (by repeat (first | (with_reducible first | exact HK.out | apply KeepBut.set_ | apply keep_drewN | apply keep_drew | apply keep_alloc) | exact HK.out)) (KeepBut.of_below hb g none) (.inl rfl)); have n5_ := z10a (below_step (by repeat (first | (with_reducible first | exact HB.out | apply z10d | apply z10b | apply z10c | refine below_set ?_ (IsS154.ge HI0.out)) | exact HB.out)) hb); clear HO_3; clear HO490; clear HI0; clear HK; clear HB; have HO_3 := n0_; have HO490 := n1_; have HO495 := n2_; have HI0 := n3_; have HK := n4_; have HB := n5_; clear n0_ n1_ n2_ n3_ n4_ n5_; (try clear hb); (try clear hb2); (try clear hk); (try clear hi); (try clear ho0); obtain ⟨Ao22, co22, eo22⟩ := Kd.R_slice HO495.out; subst eo22) | (go_at_call 128; (with_reducible refine (y_ib.calls g s0_0 t491 t492 20 true t500 t501 w0 _ ?side1 ?side2 A16.out).mono ?_); (case side1 => repeat (first | (with_reducible first | exact HI0.out | apply IsS154.alloc | apply IsS154.drewN | apply IsS154.drew | apply IsS154.set_1 | apply IsS154.set_2) | exact HI0.out)); (case side2 => repeat (first | (with_reducible first | exact HB.out | apply z10d | apply z10b | apply z10c | refine below_set ?_ (IsS154.ge HI0.out)) | exact HB.out)); rintro e w23 ⟨rfl, hi, hb, hk⟩; have n0_ := z10a (Kd.S_mono (Kd.S_keep (IsS154.apartS (show IsS154 w0 _ g s0_0 t491 t492 from by repeat (first | (with_reducible first | exact HI0.out | apply IsS154.alloc | apply IsS154.drewN | apply IsS154.drew | apply IsS154.set_1 | apply IsS154.set_2) | exact HI0.out)) (by (with_reducible repeat (first | apply z10i | apply z10j | apply Kd.S_drew)); exact HO_3.out) (by decide)) hk (fun _ h => h.2)) (fun _ h => h.1)); have n1_ := z10a (Kd.R_mono (Kd.R_keep (IsS154.apart (show IsS154 w0 _ g s0_0 t491 t492 from by repeat (first | (with_reducible first | exact HI0.out | apply IsS154.alloc | apply IsS154.drewN | apply IsS154.drew | apply IsS154.set_1 | apply IsS154.set_2) | exact HI0.out)) (by (with_reducible repeat (first | apply Kd.R_alloc | apply Kd.R_drewN | apply Kd.R_drew)); exact HO490.out) (by decide)) hk (fun _ h => h.2)) (fun _ h => h.1)); have n2_ := z10a (Kd.R_mono (Kd.R_keep (IsS154.apart (show IsS154 w0 _ g s0_0 t491 t492 from by repeat (first | (with_reducible first | exact HI0.out | apply IsS154.alloc | apply IsS154.drewN | apply IsS154.drew | apply IsS154.set_1 | apply IsS154.set_2) | exact HI0.out)) (by (with_reducible repeat (first | apply Kd.R_alloc | apply Kd.R_drewN | apply Kd.R_drew)); exact HO495.out) (by decide)) hk (fun _ h => h.2)) (fun _ h => h.1)); have n3_ := z10a (KeepBut.trans (by repeat (first | (with_reducible first | exact HK.out | apply KeepBut.set_ | apply keep_drewN | apply keep_drew | apply keep_alloc) | exact HK.out)) hk (.inl rfl)); have n4_ := z10a (hb); have n5_ := z10a (hi); clear HO_3; clear HO490; clear HO495; clear HK; clear HB; clear HI0; have HO_3 := n0_; have HO490 := n1_; have HO495 := n2_; have HK := n3_; have HB := n4_; have HI0 := n5_; clear n0_ n1_ n2_ n3_ n4_ n5_; (try clear hb); (try clear hb2); (try clear hk); (try clear hi)) | ((with_reducible refine gate_builtin (b := .append) (xs := #[.tmp 23, .tmp 26]) rfl ?_); at_builtin; refine Kd.S_append k39 w.heap.size rfl (.tmp 23) (.tmp 26) 27 39 (.agg #[(.slice none 0 0)]) 24 rfl Try.underlying27 info39 rfl (by decide) (by omega) u3 x3_1 (⟨t493⟩ : S39) [.slice Ao22 t493.length co22] (fun k_ => some k_ ≠ (.slice Ao20 t488.length co20 : Value).ownBlock) (fun k_ => some k_ = (.slice Ao22 t493.length co22 : Value).ownBlock) rfl rfl ?aP (fun k_ hk_ => ((Kd.R_mono (ok' := fun k_ => ((fun k_ => some k_ ≠ (.slice Ao20 t488.length co20 : Value).ownBlock)) k_ ∧ some k_ ≠ (u3 : Value).ownBlock) (Kd.R_apart' (HO495.out) (Kd.S_typed HO_3.out) (by decide)) (fun k_ hk => ⟨hk.1.2, hk.2⟩))).1 k_ hk_.symm) ?aF ?aO (Below.refl _ _) ?aS ?aL ?_; (case aP => exact k39_mkM _ _ _ (⟨t493⟩ : S39) (Kd.R_mono (Kd.R_tight rfl (Kd.R_mono (ok' := fun k_ => ((fun k_ => some k_ ≠ (.slice Ao20 t488.length co20 : Value).ownBlock)) k_ ∧ some k_ ≠ (u3 : Value).ownBlock) (Kd.R_apart' (HO495.out) (Kd.S_typed HO_3.out) (by decide)) (fun k_ hk => ⟨hk.1.2, hk.2⟩))) (fun _ h_ => h_))); (case aF => exact (fun k_ hk => Kd.fresh' (Kd.R_lt (by (with_reducible repeat (first | apply Kd.R_alloc | apply Kd.R_drewN | apply Kd.R_drew)); exact HO490.out)) k_ hk)); (case aO => exact (by (with_reducible repeat (first | apply z10i | apply z10j | apply Kd.S_drew)); exact Kd.S_mono HO_3.out (fun k_ hk => ⟨hk.1.2, fun e_ => hk.2 e_⟩))); (case aS => exact (keep_size (w := w) (g := g) (row := none) (by repeat (first | (with_reducible first | exact HK.out | apply KeepBut.set_ | apply keep_drewN | apply keep_drew | apply keep_alloc) | exact HK.out)))); (case aL => have := LMc18.out; omega); intro v503 w24 ho hb hg hat; rw [← Ny502.out] at ho; have n0_ := z10a (IsS154.grown (by repeat (first | (with_reducible first | exact HI0.out | apply IsS154.alloc | apply IsS154.drewN | apply IsS154.drew | apply IsS154.set_1 | apply IsS154.set_2) | exact HI0.out)) hg (IsS154.own_neS HI0.out HO_3.out (by decide))); have n1_ := z10a (Kd.R_over' (by (with_reducible repeat (first | apply Kd.R_alloc | apply Kd.R_drewN | apply Kd.R_drew)); exact HO490.out) (Kd.S_typed (by (with_reducible repeat (first | apply z10i | apply z10j | apply Kd.S_drew)); exact HO_3.out)) (by decide) hg); have n2_ := z10a (below_weaken (by repeat (first | (with_reducible first | exact HB.out | apply z10d | apply z10b | apply z10c | refine below_set ?_ (IsS154.ge HI0.out)) | exact HB.out)) HL.out hb); have n3_ := z10a (KeepBut.trans (by repeat (first | (with_reducible first | exact HK.out | apply KeepBut.set_ | apply keep_drewN | apply keep_drew | apply keep_alloc) | exact HK.out)) (KeepBut.of_grown hg g) (Kd.S_base2 HO_3.out)); have n4_ := z10a (ho); clear HI0; clear HO490; clear HB; clear HK; clear HO_3; clear HO495; have HI0 := n0_; have HO490 := n1_; have HB := n2_; have HK := n3_; have HO504 := n4_; clear n0_ n1_ n2_ n3_ n4_; clear ho hb hg hat))
       go_roundg k1
       case measure => have := HK1.out; omega
       case rel => exact ⟨(y502), (wrap64 (x4_1 - 1)), (t500), (t501), (by first | rfl | (simp; done) | (simp [*]; done)), H', ⟨by have := HK1.out; omega⟩, ⟨by (with_reducible repeat (first | apply z10i | apply z10j | apply Kd.S_drew)); exact Kd.S_mono HO504.out (fun _ hk => trivial)⟩, ⟨by repeat (first | (with_reducible first | exact HI0.out | apply IsS154.alloc | apply IsS154.drewN | apply IsS154.drew | apply IsS154.set_1 | apply IsS154.set_2) | exact HI0.out)⟩, ⟨by repeat (first | (with_reducible first | exact HK.out | apply KeepBut.set_ | apply keep_drewN | apply keep_drew | apply keep_alloc) | exact HK.out)⟩, ⟨by repeat (first | (with_reducible first | exact HB.out | apply z10d | apply z10b | apply z10c | refine below_set ?_ (IsS154.ge HI0.out)) | exact HB.out)⟩⟩
      ·rw [if_neg c18] at H
       exact absurd H (by simp)
     ·replace c17 := Bool.eq_false_iff.mpr c17
      subst c17
      have H1 : (y_p.l0 k1 x3_1 (wrap64 (x4_1 - 1)) s0_0 t500 t501) = some (r1, r2, r3) := by rw [if_neg (show ¬ (false = true) by decide)] at H; exact H
      clear H
      have H := H1
      clear H1
      have H' := z10a H
      clear H
      go_wp2_with (first | ((with_reducible refine gate_callee (f := 129) rfl ?_); refine goesL_ (some 14) rfl rfl Try.func129 (by kernel_rfl) rfl #[.pointer (some ⟨g, 0, none⟩), .int .i64 4] rfl (by (try simp only [zm10a, zm10b, zm10c]); first | done | rfl | (simp only [zm10d, zm10e]; rfl)) ?_; (with_reducible refine (y_s.calls k1 g s0_0 x1001_1 x1002_1 4 t488 t491 t492 w0 _ ?side1 ?side2 A7.out).mono ?_); (case side1 => repeat (first | (with_reducible first | exact HI0.out | apply IsS154.alloc | apply IsS154.drewN | apply IsS154.drew | apply IsS154.set_1 | apply IsS154.set_2) | exact HI0.out)); (case side2 => repeat (first | (with_reducible first | exact HB.out | apply z10d | apply z10b | apply z10c | refine below_set ?_ (IsS154.ge HI0.out)) | exact HB.out)); rintro e w25 ⟨v489, rfl, ho0, hi, hb, hk⟩; refine ⟨_, rfl, ?_⟩; have n0_ := z10a (Kd.S_mono (Kd.S_told (Kd.S_oldK (IsS154.apartS (show IsS154 w0 _ g s0_0 x1001_1 x1002_1 from by repeat (first | (with_reducible first | exact HI0.out | apply IsS154.alloc | apply IsS154.drewN | apply IsS154.drew | apply IsS154.set_1 | apply IsS154.set_2) | exact HI0.out)) (by (with_reducible repeat (first | apply z10i | apply z10j | apply Kd.S_drew)); exact HO_3.out) (by decide)) hk) (Kd.R_base ho0)) (fun _ h_ => h_.1)); have n1_ := z10a (Kd.R_lower ho0 (keep_size (w := w) (g := g) (row := none) (by repeat (first | (with_reducible first | exact HK.out | apply KeepBut.set_ | apply keep_drewN | apply keep_drew | apply keep_alloc) | exact HK.out)))); have n2_ := z10a (KeepBut.trans (by repeat (first | (with_reducible first | exact HK.out | apply KeepBut.set_ | apply keep_drewN | apply keep_drew | apply keep_alloc) | exact HK.out)) hk (.inl rfl)); have n3_ := z10a (hb); have n4_ := z10a (hi); clear HO_3; clear HK; clear HB; clear HI0; have HO_3 := n0_; have HO490 := n1_; have HK := n2_; have HB := n3_; have HI0 := n4_; clear n0_ n1_ n2_ n3_ n4_; (try clear hb); (try clear hb2); (try clear hk); (try clear hi); (try clear ho0); obtain ⟨Ao26, co26, eo26⟩ := Kd.R_slice HO490.out; subst eo26) | ((with_reducible refine gate_callee (f := 60) rfl ?_); refine goesL_ (some 15) rfl rfl Try.func60 (by kernel_rfl) rfl #[.slice Ao26 t488.length co26] rfl (by (try simp only [zm10a, zm10b, zm10c]); first | done | rfl | (simp only [zm10d, zm10e]; rfl)) ?_; (with_reducible refine (y_d.calls k1 _ _ t488 t493 _ ?side1 ?side2 A8.out).mono ?_); (case side1 => repeat (first | exact (Kd.R_reads' HO490.out).2.2 | (with_reducible refine Kd.C_alloc ?_ _) | (with_reducible refine Kd.C_drewN ?_ _) | (with_reducible refine Kd.C_drew ?_))); (case side2 => exact (Kd.R_reads' HO490.out).2.1); rintro e w27 ⟨v494, rfl, ho0, hb⟩; refine ⟨_, rfl, ?_⟩; have n0_ := z10a (Kd.S_elder' (by (with_reducible repeat (first | apply z10i | apply z10j | apply Kd.S_drew)); exact HO_3.out) (Kd.R_base ho0) hb); have n1_ := z10a (Kd.R_elder' (by (with_reducible repeat (first | apply Kd.R_alloc | apply Kd.R_drewN | apply Kd.R_drew)); exact HO490.out) (Kd.R_base ho0) hb); have n2_ := z10a (Kd.R_lower (Kd.R_new' ho0 (Kd.R_lt (by (with_reducible repeat (first | apply Kd.R_alloc | apply Kd.R_drewN | apply Kd.R_drew)); exact HO490.out))) (keep_size (w := w) (g := g) (row := none) (by repeat (first | (with_reducible first | exact HK.out | apply KeepBut.set_ | apply keep_drewN | apply keep_drew | apply keep_alloc) | exact HK.out)))); have n3_ := z10a (IsS154.below (by repeat (first | (with_reducible first | exact HI0.out | apply IsS154.alloc | apply IsS154.drewN | apply IsS154.drew | apply IsS154.set_1 | apply IsS154.set_2) | exact HI0.out)) hb); have n4_ := z10a (KeepBut.trans (by repeat (first | (with_reducible first | exact HK.out | apply KeepBut.set_ | apply keep_drewN | apply keep_drew | apply keep_alloc) | exact HK.out)) (KeepBut.of_below hb g none) (.inl rfl)); have n5_ := z10a (below_step (by repeat (first | (with_reducible first | exact HB.out | apply z10d | apply z10b | apply z10c | refine below_set ?_ (IsS154.ge HI0.out)) | exact HB.out)) hb); clear HO_3; clear HO490; clear HI0; clear HK; clear HB; have HO_3 := n0_; have HO490 := n1_; have HO495 := n2_; have HI0 := n3_; have HK := n4_; have HB := n5_; clear n0_ n1_ n2_ n3_ n4_ n5_; (try clear hb); (try clear hb2); (try clear hk); (try clear hi); (try clear ho0); obtain ⟨Ao28, co28, eo28⟩ := Kd.R_slice HO495.out; subst eo28) | (go_at_call 128; (with_reducible refine (y_ib.calls g s0_0 t491 t492 20 false t500 t501 w0 _ ?side1 ?side2 A16.out).mono ?_); (case side1 => repeat (first | (with_reducible first | exact HI0.out | apply IsS154.alloc | apply IsS154.drewN | apply IsS154.drew | apply IsS154.set_1 | apply IsS154.set_2) | exact HI0.out)); (case side2 => repeat (first | (with_reducible first | exact HB.out | apply z10d | apply z10b | apply z10c | refine below_set ?_ (IsS154.ge HI0.out)) | exact HB.out)); rintro e w29 ⟨rfl, hi, hb, hk⟩; have n0_ := z10a (Kd.S_mono (Kd.S_keep (IsS154.apartS (show IsS154 w0 _ g s0_0 t491 t492 from by repeat (first | (with_reducible first | exact HI0.out | apply IsS154.alloc | apply IsS154.drewN | apply IsS154.drew | apply IsS154.set_1 | apply IsS154.set_2) | exact HI0.out)) (by (with_reducible repeat (first | apply z10i | apply z10j | apply Kd.S_drew)); exact HO_3.out) (by decide)) hk (fun _ h => h.2)) (fun _ h => h.1)); have n1_ := z10a (Kd.R_mono (Kd.R_keep (IsS154.apart (show IsS154 w0 _ g s0_0 t491 t492 from by repeat (first | (with_reducible first | exact HI0.out | apply IsS154.alloc | apply IsS154.drewN | apply IsS154.drew | apply IsS154.set_1 | apply IsS154.set_2) | exact HI0.out)) (by (with_reducible repeat (first | apply Kd.R_alloc | apply Kd.R_drewN | apply Kd.R_drew)); exact HO490.out) (by decide)) hk (fun _ h => h.2)) (fun _ h => h.1)); have n2_ := z10a (Kd.R_mono (Kd.R_keep (IsS154.apart (show IsS154 w0 _ g s0_0 t491 t492 from by repeat (first | (with_reducible first | exact HI0.out | apply IsS154.alloc | apply IsS154.drewN | apply IsS154.drew | apply IsS154.set_1 | apply IsS154.set_2) | exact HI0.out)) (by (with_reducible repeat (first | apply Kd.R_alloc | apply Kd.R_drewN | apply Kd.R_drew)); exact HO495.out) (by decide)) hk (fun _ h => h.2)) (fun _ h => h.1)); have n3_ := z10a (KeepBut.trans (by repeat (first | (with_reducible first | exact HK.out | apply KeepBut.set_ | apply keep_drewN | apply keep_drew | apply keep_alloc) | exact HK.out)) hk (.inl rfl)); have n4_ := z10a (hb); have n5_ := z10a (hi); clear HO_3; clear HO490; clear HO495; clear HK; clear HB; clear HI0; have HO_3 := n0_; have HO490 := n1_; have HO495 := n2_; have HK := n3_; have HB := n4_; have HI0 := n5_; clear n0_ n1_ n2_ n3_ n4_ n5_; (try clear hb); (try clear hb2); (try clear hk); (try clear hi)))
      go_roundg k1
      case measure => have := HK1.out; omega
      case rel => exact ⟨(x3_1), (wrap64 (x4_1 - 1)), (t500), (t501), (by first | rfl | (simp; done) | (simp [*]; done)), H', ⟨by have := HK1.out; omega⟩, ⟨by (with_reducible repeat (first | apply z10i | apply z10j | apply Kd.S_drew)); exact Kd.S_mono HO_3.out (fun _ hk => trivial)⟩, ⟨by repeat (first | (with_reducible first | exact HI0.out | apply IsS154.alloc | apply IsS154.drewN | apply IsS154.drew | apply IsS154.set_1 | apply IsS154.set_2) | exact HI0.out)⟩, ⟨by repeat (first | (with_reducible first | exact HK.out | apply KeepBut.set_ | apply keep_drewN | apply keep_drew | apply keep_alloc) | exact HK.out)⟩, ⟨by repeat (first | (with_reducible first | exact HB.out | apply z10d | apply z10b | apply z10c | refine below_set ?_ (IsS154.ge HI0.out)) | exact HB.out)⟩⟩
   ·rw [if_neg c6] at H
    have c6b0 : decide (0 < x4_1) = false := decide_eq_false c6
    clear c6
    by_cases c30 : (x3_1.length : Int) > 0
    ·rw [if_pos c30] at H
     have c30b0 : decide (0 < (x3_1.length : Int)) = true := z10h c30
     have c30b1 : decide (0 < x3_1.length) = true := z10h (by omega)
     clear c30
     replace H := z10f.mp H
     obtain ⟨⟨t505, t506, t507⟩, A310, H⟩ := H
     replace H : (if t505 = true then ((y_s.f k1 s0_0 t506 t507 4).bind fun bt508 => (if 0 < (x3_1.length : Int) then (some ((x3_1.set (0 : Int).toNat (⟨bt508.1⟩ : S39)), bt508.2.1, bt508.2.2)) else (none))) else (some (x3_1, t506, t507))) = some (r1, r2, r3) := H
     have A31 := z10a A310
     clear A310
     by_cases c32 : t505 = true
     ·subst c32
      rw [if_pos rfl] at H
      replace H := z10f.mp H
      obtain ⟨⟨t508, t511, t512⟩, A330, H⟩ := H
      replace H : (if 0 < (x3_1.length : Int) then (some ((x3_1.set (0 : Int).toNat (⟨t508⟩ : S39)), t511, t512)) else (none)) = some (r1, r2, r3) := H
      have A33 := z10a A330
      clear A330
      by_cases c34 : 0 < (x3_1.length : Int)
      ·rw [if_pos c34] at H
       have c34b0 : decide (0 < (x3_1.length : Int)) = true := z10h c34
       have c34b1 : decide (0 < x3_1.length) = true := z10h (by omega)
       clear c34
       obtain ⟨y513, hy513⟩ : ∃ y_ : List (S39), y_ = (x3_1.set (0 : Int).toNat (⟨t508⟩ : S39)) := ⟨_, rfl⟩
       replace H : (some (y513, t511, t512)) = some (r1, r2, r3) := by first | (rw [hy513]; with_reducible exact H) | (have H2_ := (Option.bind_some _ _).symm.trans H; rw [hy513]; with_reducible exact H2_) | (have H2_ := (Option.bind_some _ _).symm.trans H; with_reducible exact H2_) | with_reducible exact H | (rw [hy513]; exact H) | exact H
       have Ny513 := z10a hy513
       clear hy513
       simp only [Option.some.injEq, Prod.mk.injEq] at H
       obtain ⟨rfl, rfl, rfl⟩ := H
       obtain ⟨Ao36, co36, eo36⟩ := Kd.S_slice HO_3.out
       subst eo36
       go_wp2_with (first | (go_at_call 128; (with_reducible refine (y_ib.calls g s0_0 x1001_1 x1002_1 12 true t506 t507 w0 _ ?side1 ?side2 A31.out).mono ?_); (case side1 => repeat (first | (with_reducible first | exact HI0.out | apply IsS154.alloc | apply IsS154.drewN | apply IsS154.drew | apply IsS154.set_1 | apply IsS154.set_2) | exact HI0.out)); (case side2 => repeat (first | (with_reducible first | exact HB.out | apply z10d | apply z10b | apply z10c | refine below_set ?_ (IsS154.ge HI0.out)) | exact HB.out)); rintro e w37 ⟨rfl, hi, hb, hk⟩; have n0_ := z10a (Kd.S_mono (Kd.S_keep (IsS154.apartS (show IsS154 w0 _ g s0_0 x1001_1 x1002_1 from by repeat (first | (with_reducible first | exact HI0.out | apply IsS154.alloc | apply IsS154.drewN | apply IsS154.drew | apply IsS154.set_1 | apply IsS154.set_2) | exact HI0.out)) (by (with_reducible repeat (first | apply z10i | apply z10j | apply Kd.S_drew)); exact HO_3.out) (by decide)) hk (fun _ h => h.2)) (fun _ h => h.1)); have n1_ := z10a (KeepBut.trans (by repeat (first | (with_reducible first | exact HK.out | apply KeepBut.set_ | apply keep_drewN | apply keep_drew | apply keep_alloc) | exact HK.out)) hk (.inl rfl)); have n2_ := z10a (hb); have n3_ := z10a (hi); clear HO_3; clear HK; clear HB; clear HI0; have HO_3 := n0_; have HK := n1_; have HB := n2_; have HI0 := n3_; clear n0_ n1_ n2_ n3_; (try clear hb); (try clear hb2); (try clear hk); (try clear hi)) | ((with_reducible refine gate_callee (f := 129) rfl ?_); refine goesL_ (some 37) rfl rfl Try.func129 (by kernel_rfl) rfl #[.pointer (some ⟨g, 0, none⟩), .int .i64 4] rfl (by (try simp only [zm10a, zm10b, zm10c]); first | done | rfl | (simp only [zm10d, zm10e]; rfl)) ?_; (with_reducible refine (y_s.calls k1 g s0_0 t506 t507 4 t508 t511 t512 w0 _ ?side1 ?side2 A33.out).mono ?_); (case side1 => repeat (first | (with_reducible first | exact HI0.out | apply IsS154.alloc | apply IsS154.drewN | apply IsS154.drew | apply IsS154.set_1 | apply IsS154.set_2) | exact HI0.out)); (case side2 => repeat (first | (with_reducible first | exact HB.out | apply z10d | apply z10b | apply z10c | refine below_set ?_ (IsS154.ge HI0.out)) | exact HB.out)); rintro e w38 ⟨v509, rfl, ho0, hi, hb, hk⟩; refine ⟨_, rfl, ?_⟩; have n0_ := z10a (Kd.S_mono (Kd.S_told (Kd.S_oldK (IsS154.apartS (show IsS154 w0 _ g s0_0 t506 t507 from by repeat (first | (with_reducible first | exact HI0.out | apply IsS154.alloc | apply IsS154.drewN | apply IsS154.drew | apply IsS154.set_1 | apply IsS154.set_2) | exact HI0.out)) (by (with_reducible repeat (first | apply z10i | apply z10j | apply Kd.S_drew)); exact HO_3.out) (by decide)) hk) (Kd.R_base ho0)) (fun _ h_ => h_.1)); have n1_ := z10a (Kd.R_lower ho0 (keep_size (w := w) (g := g) (row := none) (by repeat (first | (with_reducible first | exact HK.out | apply KeepBut.set_ | apply keep_drewN | apply keep_drew | apply keep_alloc) | exact HK.out)))); have n2_ := z10a (KeepBut.trans (by repeat (first | (with_reducible first | exact HK.out | apply KeepBut.set_ | apply keep_drewN | apply keep_drew | apply keep_alloc) | exact HK.out)) hk (.inl rfl)); have n3_ := z10a (hb); have n4_ := z10a (hi); clear HO_3; clear HK; clear HB; clear HI0; have HO_3 := n0_; have HO510 := n1_; have HK := n2_; have HB := n3_; have HI0 := n4_; clear n0_ n1_ n2_ n3_ n4_; (try clear hb); (try clear hb2); (try clear hk); (try clear hi); (try clear ho0); have p35 : 0 ≤ (0 : Int) := (by omega); have q35 : (0 : Int) < ((x3_1.length : Int) : Int) := z10g (by first | (with_reducible assumption) | assumption); have qi35 : (0 < x3_1.length) = True := eq_true (by omega); obtain ⟨go35, co35, eo35, gb35, gl35, cl35, HG35⟩ := Kd.S_form HO_3.out (by omega); (first | cases eo35 | (injection eo35 with ea_ en_ ec_; (first | subst ea_ | (injection ea_ with ea_; subst ea_)); subst ec_; clear en_)); have GB35 := z10a gb35; have GG35 := z10a HG35; clear gb35 gl35 HG35; obtain ⟨_, ce35, hcl35, hM35, hcc35, hfr35, _, _⟩ := Kd.S_elem HO_3.out z39 (0 : Int) p35 q35; obtain ⟨ve35_0, rfl, ge35_0⟩ := k39_openM hM35; have hx35_0 := hcc35 0 _ rfl; have hf35_0 := hfr35 0; (try simp only [show (k39).sz = 1 from rfl, Nat.mul_one, Nat.add_zero] at hx35_0); (try simp only [show (k39).sz = 1 from rfl, Nat.mul_one, Nat.add_zero] at hf35_0); clear hcl35 hcc35 hfr35 hM35; (try rw [show ((0 : Int)).toNat = 0 from rfl] at hx35_0); (try simp only [Nat.reduceMul, Nat.zero_mul, Nat.zero_add, Nat.reduceAdd] at hx35_0); (try rw [show ((0 : Int)).toNat = 0 from rfl] at hf35_0); (try simp only [Nat.reduceMul, Nat.zero_mul, Nat.zero_add, Nat.reduceAdd] at hf35_0); replace p35 := eq_true p35; replace q35 := eq_true q35; obtain ⟨Ao39, co39, eo39⟩ := Kd.R_slice HO510.out; subst eo39; have n_ := z10a (Kd.S_mono (ok' := (fun k_ => some k_ ≠ (.slice Ao39 t508.length co39 : Value).ownBlock)) HO_3.out (fun k_ hk => hk.2)); clear HO_3; have HO_3 := n_; clear n_; have HX40 := z10a (show Kd.S k39 39 w38 w.heap.size (fun k_ => ((fun _ => True)) k_ ∧ ¬ ((fun k_ => some k_ = (.slice Ao39 t508.length co39 : Value).ownBlock)) k_) (.slice (some ⟨go35, 0, none⟩) x3_1.length co36) x3_1 from (by (with_reducible repeat (first | apply z10i | apply z10j | apply Kd.S_drew)); exact Kd.S_mono HO_3.out (fun k_ hk => ⟨trivial, fun e_ => hk e_⟩))); obtain ⟨oki40, ce40, hcl40, hM40, hcc40, hfr40, hoki40, hH40⟩ := Kd.S_elem HX40.out z39 (0 : Int) (by omega) (by have h_ : (0 : Int) < ((x3_1.length : Int) : Int) := z10g (by first | (with_reducible assumption) | assumption); first | exact h_ | (have e_ := (Kd.S_reads' HO_3.out).1; omega) | simpa using h_); obtain ⟨ve40_0, rfl, ge40_0⟩ := k39_openM hM40; have HP40 := Kd.S_seg hH40 (by omega) (by have h_ : (0 : Int) < ((x3_1.length : Int) : Int) := z10g (by first | (with_reducible assumption) | assumption); first | exact h_ | (have e_ := (Kd.S_reads' HO_3.out).1; omega) | simpa using h_) (seg := [.slice Ao39 t508.length co39]) (j := 0) (show 1 ≤ 1 from by decide) (x' := (⟨t508⟩ : S39)) (k39_mkM _ _ _ (⟨t508⟩ : S39) (Kd.R_mono (Kd.R_tight rfl (Kd.R_mono (ok' := fun k_ => ((fun _ => True)) k_ ∧ k_ ≠ go35) (Kd.R_apart' (HO510.out) (Kd.S_typed HO_3.out) (by decide)) (fun k_ hk => ⟨trivial, fun e_ => (hk.2) (by rw [e_]; rfl)⟩))) (fun _ h_ => Or.inr (h_)))) (fun _ hk => hk) (fun k_ hk_ => ((Kd.R_mono (ok' := fun k_ => ((fun _ => True)) k_ ∧ k_ ≠ go35) (Kd.R_apart' (HO510.out) (Kd.S_typed HO_3.out) (by decide)) (fun k_ hk => ⟨trivial, fun e_ => (hk.2) (by rw [e_]; rfl)⟩))).1 k_ hk_.symm); have hx40_0 := hcc40 0 _ rfl; (try simp only [show (k39).sz = 1 from rfl, Nat.mul_one, Nat.add_zero] at hx40_0); (try rw [show ((0 : Int)).toNat = 0 from rfl] at hx40_0); (try simp only [Nat.reduceMul, Nat.zero_mul, Nat.zero_add, Nat.reduceAdd] at hx40_0); have hf40_0 := hfr40 0; (try simp only [show (k39).sz = 1 from rfl, Nat.mul_one, Nat.add_zero] at hf40_0); (try rw [show ((0 : Int)).toNat = 0 from rfl] at hf40_0); (try simp only [Nat.reduceMul, Nat.zero_mul, Nat.zero_add, Nat.reduceAdd] at hf40_0); clear hcl40 hcc40 hfr40 hM40 hoki40 hH40; (try simp only [show (k39).sz = 1 from rfl, Nat.mul_one, Nat.add_zero] at HP40)) | ((with_reducible refine gate_store (t := 24) (p := 39) rfl ?_); refine store_event (t := 24) (p := 39) (v := ?vo_w41) (w1 := (w38.setCell ⟨go35, 0, none⟩ (.slice Ao39 t508.length co39))) ?hg ?ho ?hn ?hr ?_; (case ho => rfl); (case hg => rfl); (case hn => rfl); (case hr => first | (go_simp; done) | (go_simp; rfl)); intro w41 hw; have hg : w38.grownBy w41 (some go35) := (by rw [hw]; exact HP40.2); have hp_ : Kd.S k39 39 w41 w.heap.size (fun _ => True) (.slice (some ⟨go35, 0, none⟩) x3_1.length co36) y513 := (by rw [hw, Ny513.out]; exact HP40.1); clear HP40; have n0_ := z10a (hp_); have n1_ := z10a (IsS154.grown (by repeat (first | (with_reducible first | exact HI0.out | apply IsS154.alloc | apply IsS154.drewN | apply IsS154.drew | apply IsS154.set_1 | apply IsS154.set_2) | exact HI0.out)) hg (IsS154.own_neS HI0.out HO_3.out (by decide))); have n2_ := z10a ((by rw [hw]; exact below_set (HB.out) (Nat.le_trans HL.out GB35.out) : Below w0.heap.size w0 w41)); have n3_ := z10a (KeepBut.trans (by repeat (first | (with_reducible first | exact HK.out | apply KeepBut.set_ | apply keep_drewN | apply keep_drew | apply keep_alloc) | exact HK.out)) (KeepBut.of_grown hg g) (Kd.S_base2 HO_3.out)); clear HO_3; clear HI0; clear HB; clear HK; clear HO510; have HO_3 := n0_; have HI0 := n1_; have HB := n2_; have HK := n3_; clear n0_ n1_ n2_ n3_; clear hg hw hp_))
       go_ret
       exact ⟨_, by first | rfl | (simp [errW_none, errW_some] <;> rfl) | (simp [*, errW_none, errW_some] <;> rfl), by (with_reducible repeat (first | apply z10i | apply z10j | apply Kd.S_drew)); exact HO_3.out, by repeat (first | (with_reducible first | exact HI0.out | apply IsS154.alloc | apply IsS154.drewN | apply IsS154.drew | apply IsS154.set_1 | apply IsS154.set_2) | exact HI0.out), by repeat (first | (with_reducible first | exact HB.out | apply z10d | apply z10b | apply z10c | refine below_set ?_ (IsS154.ge HI0.out)) | exact HB.out), by repeat (first | (with_reducible first | exact HK.out | apply KeepBut.set_ | apply keep_drewN | apply keep_drew | apply keep_alloc) | exact HK.out)⟩
      ·rw [if_neg c34] at H
       exact absurd H (by simp)
     ·replace c32 := Bool.eq_false_iff.mpr c32
      subst c32
      have H1 : (some (x3_1, t506, t507)) = some (r1, r2, r3) := by rw [if_neg (show ¬ (false = true) by decide)] at H; exact H
      clear H
      have H := H1
      clear H1
      simp only [Option.some.injEq, Prod.mk.injEq] at H
      obtain ⟨rfl, rfl, rfl⟩ := H
      obtain ⟨Ao42, co42, eo42⟩ := Kd.S_slice HO_3.out
      subst eo42
      go_wp2_with (first | (go_at_call 128; (with_reducible refine (y_ib.calls g s0_0 x1001_1 x1002_1 12 false t506 t507 w0 _ ?side1 ?side2 A31.out).mono ?_); (case side1 => repeat (first | (with_reducible first | exact HI0.out | apply IsS154.alloc | apply IsS154.drewN | apply IsS154.drew | apply IsS154.set_1 | apply IsS154.set_2) | exact HI0.out)); (case side2 => repeat (first | (with_reducible first | exact HB.out | apply z10d | apply z10b | apply z10c | refine below_set ?_ (IsS154.ge HI0.out)) | exact HB.out)); rintro e w43 ⟨rfl, hi, hb, hk⟩; have n0_ := z10a (Kd.S_mono (Kd.S_keep (IsS154.apartS (show IsS154 w0 _ g s0_0 x1001_1 x1002_1 from by repeat (first | (with_reducible first | exact HI0.out | apply IsS154.alloc | apply IsS154.drewN | apply IsS154.drew | apply IsS154.set_1 | apply IsS154.set_2) | exact HI0.out)) (by (with_reducible repeat (first | apply z10i | apply z10j | apply Kd.S_drew)); exact HO_3.out) (by decide)) hk (fun _ h => h.2)) (fun _ h => h.1)); have n1_ := z10a (KeepBut.trans (by repeat (first | (with_reducible first | exact HK.out | apply KeepBut.set_ | apply keep_drewN | apply keep_drew | apply keep_alloc) | exact HK.out)) hk (.inl rfl)); have n2_ := z10a (hb); have n3_ := z10a (hi); clear HO_3; clear HK; clear HB; clear HI0; have HO_3 := n0_; have HK := n1_; have HB := n2_; have HI0 := n3_; clear n0_ n1_ n2_ n3_; (try clear hb); (try clear hb2); (try clear hk); (try clear hi)))
      go_ret
      exact ⟨_, by first | rfl | (simp [errW_none, errW_some] <;> rfl) | (simp [*, errW_none, errW_some] <;> rfl), by (with_reducible repeat (first | apply z10i | apply z10j | apply Kd.S_drew)); exact HO_3.out, by repeat (first | (with_reducible first | exact HI0.out | apply IsS154.alloc | apply IsS154.drewN | apply IsS154.drew | apply IsS154.set_1 | apply IsS154.set_2) | exact HI0.out), by repeat (first | (with_reducible first | exact HB.out | apply z10d | apply z10b | apply z10c | refine below_set ?_ (IsS154.ge HI0.out)) | exact HB.out), by repeat (first | (with_reducible first | exact HK.out | apply KeepBut.set_ | apply keep_drewN | apply keep_drew | apply keep_alloc) | exact HK.out)⟩
    ·rw [if_neg c30] at H
     have c30b0 : decide (0 < (x3_1.length : Int)) = false := decide_eq_false c30
     have c30b1 : decide (0 < x3_1.length) = false := decide_eq_false (by omega)
     clear c30
     simp only [Option.some.injEq, Prod.mk.injEq] at H
     obtain ⟨rfl, rfl, rfl⟩ := H
     obtain ⟨Ao44, co44, eo44⟩ := Kd.S_slice HO_3.out
     subst eo44
     go_wp2
     go_ret
     exact ⟨_, by first | rfl | (simp [errW_none, errW_some] <;> rfl) | (simp [*, errW_none, errW_some] <;> rfl), by (with_reducible repeat (first | apply z10i | apply z10j | apply Kd.S_drew)); exact HO_3.out, by repeat (first | (with_reducible first | exact HI0.out | apply IsS154.alloc | apply IsS154.drewN | apply IsS154.drew | apply IsS154.set_1 | apply IsS154.set_2) | exact HI0.out), by repeat (first | (with_reducible first | exact HB.out | apply z10d | apply z10b | apply z10c | refine below_set ?_ (IsS154.ge HI0.out)) | exact HB.out), by repeat (first | (with_reducible first | exact HK.out | apply KeepBut.set_ | apply keep_drewN | apply keep_drew | apply keep_alloc) | exact HK.out)⟩
def y_xb.f (k : Nat) (l0 : List Int) : Option ((List (S39))) := (y_eb.f k l0).bind fun bt514 => ((y_p.f k bt514.1 bt514.2.1 bt514.2.2).bind fun bt518 => (some bt518.1))
theorem y_xb.calls (k : Nat) (A0 : Option Addr) (c0 : Nat) (l0 : List Int) (r : List (S39)) (w : World) (hr0 : Kd.C (Kd.int .u8) w A0 l0.length l0) (hc0 : l0.length ≤ c0) (h : y_xb.f k l0 = some r) :
  Calls Try.prog 19 #[.slice A0 l0.length c0] w fun e w' => ∃ v0_ : Value, e = .returned (v0_) ∧ Kd.S k39 39 w' w.heap.size (fun _ => True) v0_ r ∧ Below w.heap.size w w' := by
 have HR0 := z10a hr0
 have HC0 := z10a hc0
 clear hr0 hc0
 have HB := z10a (Below.refl w.heap.size w)
 have H := h
 unfold y_xb.f at H
 clear h
 replace H := z10f.mp H
 obtain ⟨⟨t514, t515, t516⟩, A20, H⟩ := H
 replace H : ((y_p.f k t514 t515 t516).bind fun bt518 => (some bt518.1)) = some r := H
 have A2 := z10a A20
 clear A20
 replace H := z10f.mp H
 obtain ⟨⟨t518, t521, t522⟩, A30, H⟩ := H
 replace H : (some t518) = some r := H
 have A3 := z10a A30
 clear A30
 obtain rfl := Option.some.inj H
 go_enter Try.func19, Try.ntmps19
 go_wp2_with (first | ((with_reducible refine gate_callee (f := 104) rfl ?_); refine goesL_ (some 4) rfl rfl Try.func104 (by kernel_rfl) rfl #[.slice A0 l0.length c0] rfl (by (try simp only [zm10a, zm10b, zm10c]); first | done | rfl | (simp only [zm10d, zm10e]; rfl)) ?_; (with_reducible refine (y_eb.calls k _ _ l0 t514 t515 t516 w _ ?side1 ?side2 ?side3 A2.out).mono ?_); (case side1 => repeat (first | (with_reducible first | exact HB.out | apply z10d | apply z10b | apply z10c) | exact HB.out)); (case side2 => exact HR0.out); (case side3 => exact HC0.out); rintro e w4 ⟨g517, rfl, hi, hb, hb2⟩; refine ⟨_, rfl, ?_⟩; have n0_ := z10a (hb); have n1_ := z10a (hi); clear HB; have HB := n0_; have HI517 := n1_; clear n0_ n1_; (try clear hb); (try clear hb2); (try clear hk); (try clear hi)) | ((with_reducible refine gate_callee (f := 118) rfl ?_); refine goesL_ (some 5) rfl rfl Try.func118 (by kernel_rfl) rfl #[.pointer (some ⟨g517, 0, none⟩)] rfl (by (try simp only [zm10a, zm10b, zm10c]); first | done | rfl | (simp only [zm10d, zm10e]; rfl)) ?_; (with_reducible refine (y_p.calls k g517 t514 t515 t516 t518 t521 t522 w _ ?side1 ?side2 A3.out).mono ?_); (case side1 => repeat (first | (with_reducible first | exact HI517.out | apply IsS154.alloc | apply IsS154.drewN | apply IsS154.drew | apply IsS154.set_1 | apply IsS154.set_2) | exact HI517.out)); (case side2 => repeat (first | (with_reducible first | exact HB.out | apply z10d | apply z10b | apply z10c | refine below_set ?_ (IsS154.ge HI517.out)) | exact HB.out)); rintro e w5 ⟨v519, rfl, ho0, hi, hb, hk⟩; refine ⟨_, rfl, ?_⟩; have n0_ := z10a (Kd.S_lower ho0 (below_size (by repeat (first | (with_reducible first | exact HB.out | apply z10d | apply z10b | apply z10c | refine below_set ?_ (IsS154.ge HI517.out)) | exact HB.out)))); have n1_ := z10a (hb); have n2_ := z10a (hi); clear HB; clear HI517; have HO520 := n0_; have HB := n1_; have HI517 := n2_; clear n0_ n1_ n2_; (try clear hb); (try clear hb2); (try clear hk); (try clear hi); (try clear ho0)))
 go_ret
 exact ⟨_, by first | rfl | (simp [errW_none, errW_some] <;> rfl) | (simp [*, errW_none, errW_some] <;> rfl), by (with_reducible repeat (first | apply z10i | apply z10j | apply Kd.S_drew)); exact HO520.out, by repeat (first | (with_reducible first | exact HB.out | apply z10d | apply z10b | apply z10c | refine below_set ?_ (IsS154.ge HI517.out)) | exact HB.out)⟩
def y_wb.f (k : Nat) (l0 : List Int) : Option ((List (S71))) := (y_eb.f k l0).bind fun bt523 => ((y_vb.f k bt523.1 bt523.2.1 bt523.2.2 6).bind fun bt527 => (some bt527.1))
theorem y_wb.calls (k : Nat) (A0 : Option Addr) (c0 : Nat) (l0 : List Int) (r : List (S71)) (w : World) (hr0 : Kd.C (Kd.int .u8) w A0 l0.length l0) (hc0 : l0.length ≤ c0) (h : y_wb.f k l0 = some r) :
  Calls Try.prog 20 #[.slice A0 l0.length c0] w fun e w' => ∃ v0_ : Value, e = .returned (v0_) ∧ Kd.R k71 71 w' w.heap.size (fun _ => True) v0_ r ∧ Below w.heap.size w w' := by
 have HR0 := z10a hr0
 have HC0 := z10a hc0
 clear hr0 hc0
 have HB := z10a (Below.refl w.heap.size w)
 have H := h
 unfold y_wb.f at H
 clear h
 replace H := z10f.mp H
 obtain ⟨⟨t523, t524, t525⟩, A20, H⟩ := H
 replace H : ((y_vb.f k t523 t524 t525 6).bind fun bt527 => (some bt527.1)) = some r := H
 have A2 := z10a A20
 clear A20
 replace H := z10f.mp H
 obtain ⟨⟨t527, t530, t531⟩, A30, H⟩ := H
 replace H : (some t527) = some r := H
 have A3 := z10a A30
 clear A30
 obtain rfl := Option.some.inj H
 go_enter Try.func20, Try.ntmps20
 go_wp2_with (first | ((with_reducible refine gate_callee (f := 104) rfl ?_); refine goesL_ (some 4) rfl rfl Try.func104 (by kernel_rfl) rfl #[.slice A0 l0.length c0] rfl (by (try simp only [zm10a, zm10b, zm10c]); first | done | rfl | (simp only [zm10d, zm10e]; rfl)) ?_; (with_reducible refine (y_eb.calls k _ _ l0 t523 t524 t525 w _ ?side1 ?side2 ?side3 A2.out).mono ?_); (case side1 => repeat (first | (with_reducible first | exact HB.out | apply z10d | apply z10b | apply z10c) | exact HB.out)); (case side2 => exact HR0.out); (case side3 => exact HC0.out); rintro e w4 ⟨g526, rfl, hi, hb, hb2⟩; refine ⟨_, rfl, ?_⟩; have n0_ := z10a (hb); have n1_ := z10a (hi); clear HB; have HB := n0_; have HI526 := n1_; clear n0_ n1_; (try clear hb); (try clear hb2); (try clear hk); (try clear hi)) | ((with_reducible refine gate_callee (f := 105) rfl ?_); refine goesL_ (some 5) rfl rfl Try.func105 (by kernel_rfl) rfl #[.pointer (some ⟨g526, 0, none⟩), .int .i64 6] rfl (by (try simp only [zm10a, zm10b, zm10c]); first | done | rfl | (simp only [zm10d, zm10e]; rfl)) ?_; (with_reducible refine (y_vb.calls k g526 t523 t524 t525 6 t527 t530 t531 w _ ?side1 ?side2 A3.out).mono ?_); (case side1 => repeat (first | (with_reducible first | exact HI526.out | apply IsS154.alloc | apply IsS154.drewN | apply IsS154.drew | apply IsS154.set_1 | apply IsS154.set_2) | exact HI526.out)); (case side2 => repeat (first | (with_reducible first | exact HB.out | apply z10d | apply z10b | apply z10c | refine below_set ?_ (IsS154.ge HI526.out)) | exact HB.out)); rintro e w5 ⟨v528, rfl, ho0, hi, hb, hk⟩; refine ⟨_, rfl, ?_⟩; have n0_ := z10a (Kd.R_lower ho0 (below_size (by repeat (first | (with_reducible first | exact HB.out | apply z10d | apply z10b | apply z10c | refine below_set ?_ (IsS154.ge HI526.out)) | exact HB.out)))); have n1_ := z10a (hb); have n2_ := z10a (hi); clear HB; clear HI526; have HO529 := n0_; have HB := n1_; have HI526 := n2_; clear n0_ n1_ n2_; (try clear hb); (try clear hb2); (try clear hk); (try clear hi); (try clear ho0)))
 go_ret
 exact ⟨_, by first | rfl | (simp [errW_none, errW_some] <;> rfl) | (simp [*, errW_none, errW_some] <;> rfl), by (with_reducible repeat (first | apply Kd.R_alloc | apply Kd.R_drewN | apply Kd.R_drew)); exact HO529.out, by repeat (first | (with_reducible first | exact HB.out | apply z10d | apply z10b | apply z10c | refine below_set ?_ (IsS154.ge HI526.out)) | exact HB.out)⟩
def y_i.l0 : Nat → List (S71) → List (S71) → Int → Option (Bool)
 | 0, _, _, _ => none
 | k + 1, x0, x1, x5 => if x5 < (x0.length : Int) then (if 0 ≤ x5 then (if x5 < (x1.length : Int) then (if (!(((rd_T71 x0 x5).f0) == ((rd_T71 x1 x5).f0)) || (!(((rd_T71 x0 x5).f1) == ((rd_T71 x1 x5).f1)) || (!(((rd_T71 x0 x5).f2) == ((rd_T71 x1 x5).f2))))) = true then (some false) else (y_i.l0 k x0 x1 (wrap64 (x5 + 1)))) else (none)) else (none)) else (some true)
def y_i.f (k : Nat) (l0 : List (S71)) (l1 : List (S71)) : Option (Bool) := if (l0.length : Int) = (l1.length : Int) then (y_i.l0 k l0 l1 0) else (some false)
theorem y_i.calls (k : Nat) (A0 : Option Addr) (c0 : Nat) (l0 : List (S71)) (A1 : Option Addr) (c1 : Nat) (l1 : List (S71)) (r : Bool) (w : World) (hr0 : Kd.C k71 w A0 l0.length l0) (hc0 : l0.length ≤ c0) (hr1 : Kd.C k71 w A1 l1.length l1) (hc1 : l1.length ≤ c1) (h : y_i.f k l0 l1 = some r) :
  Calls Try.prog 28 #[.slice A0 l0.length c0, .slice A1 l1.length c1] w fun e w' => e = .returned (.bool r) ∧ Drawn0 w w' := by
 have hu71 := Try.underlying71
 have HR0 := z10a hr0
 have HC0 := z10a hc0
 clear hr0 hc0
 have HR1 := z10a hr1
 have HC1 := z10a hc1
 clear hr1 hc1
 have H : (if (l0.length : Int) = (l1.length : Int) then (y_i.l0 k l0 l1 0) else (some false)) = some r := h
 clear h
 by_cases c3 : (l0.length : Int) = (l1.length : Int)
 ·rw [if_pos c3] at H
  have c3b0 : ((l0.length : Int) == (l1.length : Int)) = true := beq_iff_eq.mpr c3
  have c3b1 : ((l0.length : Int) != (l1.length : Int)) = false := bne_eq_false_iff_eq.mpr c3
  have c3b2 : (l0.length == l1.length) = true := by first | simpa using c3 | (simp at c3 ⊢; omega)
  clear c3
  have H' := z10a H
  clear H
  go_enter Try.func28, Try.ntmps28
  go_wp2
  repeat (go_quiet (fail); try go_wp2)
  go_loopg [5] k (fun kq v5 w' => ∃ (x5_1 : Int), v5 = .int .i64 x5_1 ∧ Aside0 (y_i.l0 kq l0 l1 x5_1 = some r) ∧ Aside0 (kq ≤ k) ∧ Drawn0 w w')
  case atStart => exact ⟨(0), (by first | rfl | (simp; done) | (simp [*]; done)), H', ⟨Nat.le_refl _⟩, by repeat (first | exact Drawn0.refl _ | apply Drawn0.step)⟩
  case round =>
   clear H'
   try clear c1
   try clear c2
   try clear p2
   try clear c3
   try clear c3b0
   try clear c3b1
   try clear c3b2
   obtain ⟨x5_1, rfl, HA, HK1, ⟨m1, rfl⟩⟩ := hrel
   cases gk with
   | zero => exact absurd HA.out (by simp [y_i.l0])
   | succ k1 =>
    have H := HA.out
    clear HA
    simp only [y_i.l0] at H
    by_cases c4 : x5_1 < (l0.length : Int)
    ·rw [if_pos c4] at H
     have c4b0 : decide (x5_1 < (l0.length : Int)) = true := z10h c4
     clear c4
     by_cases c5 : 0 ≤ x5_1
     ·rw [if_pos c5] at H
      have c5b0 : decide (0 ≤ x5_1) = true := z10h c5
      clear c5
      by_cases c6 : x5_1 < (l1.length : Int)
      ·rw [if_pos c6] at H
       have c6b0 : decide (x5_1 < (l1.length : Int)) = true := z10h c6
       clear c6
       by_cases c7 : (!(((rd_T71 l0 x5_1).f0) == ((rd_T71 l1 x5_1).f0)) || (!(((rd_T71 l0 x5_1).f1) == ((rd_T71 l1 x5_1).f1)) || (!(((rd_T71 l0 x5_1).f2) == ((rd_T71 l1 x5_1).f2))))) = true
       ·rw [if_pos c7] at H
        have c7b0 : (!(((rd_T71 l0 x5_1).f0) == ((rd_T71 l1 x5_1).f0)) || (!(((rd_T71 l0 x5_1).f1) == ((rd_T71 l1 x5_1).f1)) || (!(((rd_T71 l0 x5_1).f2) == ((rd_T71 l1 x5_1).f2))))) = true := c7
        clear c7
        obtain rfl := Option.some.inj H
        have p532 : 0 ≤ (x5_1 : Int) := z10g (by first | (with_reducible assumption) | assumption)
        have q532 : x5_1 < (l0.length : Int) := z10g (by first | (with_reducible assumption) | assumption)
        obtain ⟨ad532, e532, hx532_0, hx532_1, hx532_2⟩ := at_T71 HR0.out x5_1 p532 q532
        cases e532
        replace p532 := eq_true p532
        replace q532 := eq_true q532
        have p533 : 0 ≤ (x5_1 : Int) := z10g (by first | (with_reducible assumption) | assumption)
        have q533 : x5_1 < (l1.length : Int) := z10g (by first | (with_reducible assumption) | assumption)
        obtain ⟨ad533, e533, hx533_0, hx533_1, hx533_2⟩ := at_T71 HR1.out x5_1 p533 q533
        cases e533
        replace p533 := eq_true p533
        replace q533 := eq_true q533
        go_wp2
        repeat (go_quiet (fail); try go_wp2)
        go_ret
        exact ⟨by first | rfl | (simp; done) | (simp [*]; done), by repeat (first | exact Drawn0.refl _ | apply Drawn0.step)⟩
       ·rw [if_neg c7] at H
        have c7b0 : (!(((rd_T71 l0 x5_1).f0) == ((rd_T71 l1 x5_1).f0)) || (!(((rd_T71 l0 x5_1).f1) == ((rd_T71 l1 x5_1).f1)) || (!(((rd_T71 l0 x5_1).f2) == ((rd_T71 l1 x5_1).f2))))) = false := by simpa using c7
        clear c7
        have H' := z10a H
        clear H
        have p532 : 0 ≤ (x5_1 : Int) := z10g (by first | (with_reducible assumption) | assumption)
        have q532 : x5_1 < (l0.length : Int) := z10g (by first | (with_reducible assumption) | assumption)
        obtain ⟨ad532, e532, hx532_0, hx532_1, hx532_2⟩ := at_T71 HR0.out x5_1 p532 q532
        cases e532
        replace p532 := eq_true p532
        replace q532 := eq_true q532
        have p533 : 0 ≤ (x5_1 : Int) := z10g (by first | (with_reducible assumption) | assumption)
        have q533 : x5_1 < (l1.length : Int) := z10g (by first | (with_reducible assumption) | assumption)
        obtain ⟨ad533, e533, hx533_0, hx533_1, hx533_2⟩ := at_T71 HR1.out x5_1 p533 q533
        cases e533
        replace p533 := eq_true p533
        replace q533 := eq_true q533
        go_wp2
        repeat (go_quiet (fail); try go_wp2)
        go_roundg k1
        case measure => have := HK1.out; omega
        case rel => exact ⟨(wrap64 (x5_1 + 1)), (by first | rfl | (simp; done) | (simp [*]; done)), H', ⟨by have := HK1.out; omega⟩, by repeat (first | exact Drawn0.refl _ | apply Drawn0.step)⟩
      ·rw [if_neg c6] at H
       exact absurd H (by simp)
     ·rw [if_neg c5] at H
      exact absurd H (by simp)
    ·rw [if_neg c4] at H
     have c4b0 : decide (x5_1 < (l0.length : Int)) = false := decide_eq_false c4
     clear c4
     obtain rfl := Option.some.inj H
     go_wp2
     repeat (go_quiet (fail); try go_wp2)
     go_ret
     exact ⟨by first | rfl | (simp; done) | (simp [*]; done), by repeat (first | exact Drawn0.refl _ | apply Drawn0.step)⟩
 ·rw [if_neg c3] at H
  have c3b0 : ((l0.length : Int) == (l1.length : Int)) = false := beq_eq_false_iff_ne.mpr c3
  have c3b1 : ((l0.length : Int) != (l1.length : Int)) = true := bne_iff_ne.mpr c3
  have c3b2 : (l0.length == l1.length) = false := by first | simpa using c3 | (simp at c3 ⊢; omega)
  obtain rfl := Option.some.inj H
  go_enter Try.func28, Try.ntmps28
  go_wp2
  repeat (go_quiet (fail); try go_wp2)
  go_ret
  exact ⟨by first | rfl | (simp; done) | (simp [*]; done), by repeat (first | exact Drawn0.refl _ | apply Drawn0.step)⟩
end Go.Proofs.Ytkcicbigpbdjpaa.P
end
section
namespace Go.Proofs.Ytkcicbigpbdjpaa.P
open Go.RowKit Go.Proofs.YtkcicbigpbdjpaaW.PrintWords Go.Proofs.YtkcicbigpbdjpaaW.PrintLast Go.Proofs.YtkcicbigpbdjpaaW.PrintMore
attribute [local go_sem] max2_int min2_int max_two min_two max_three min_three max_four min_four
set_option linter.unusedVariables false
set_option linter.unusedSimpArgs false
def y_x.l0 : Nat → List (S39) → List (S39) → Int → Option (Bool)
 | 0, _, _, _ => none
 | k + 1, x0, x1, x5 => if x5 < (x0.length : Int) then (if 0 ≤ x5 then (if x5 < (x1.length : Int) then ((y_i.f k ((rd_T39 x0 x5).f0) ((rd_T39 x1 x5).f0)).bind fun t536 => (if t536 = true then (y_x.l0 k x0 x1 (wrap64 (x5 + 1))) else (some false))) else (none)) else (none)) else (some true)
def y_x.f (k : Nat) (l0 : List (S39)) (l1 : List (S39)) : Option (Bool) := if (l0.length : Int) = (l1.length : Int) then (y_x.l0 k l0 l1 0) else (some false)
theorem y_x.calls (k : Nat) (A0 : Option Addr) (c0 : Nat) (l0 : List (S39)) (A1 : Option Addr) (c1 : Nat) (l1 : List (S39)) (r : Bool) (w : World) (hr0 : Kd.C k39 w A0 l0.length l0) (hc0 : l0.length ≤ c0) (hr1 : Kd.C k39 w A1 l1.length l1) (hc1 : l1.length ≤ c1) (h : y_x.f k l0 l1 = some r) :
  Calls Try.prog 21 #[.slice A0 l0.length c0, .slice A1 l1.length c1] w fun e w' => e = .returned (.bool r) ∧ Drawn0 w w' := by
 have HR0 := z10a hr0
 have HC0 := z10a hc0
 clear hr0 hc0
 have HR1 := z10a hr1
 have HC1 := z10a hc1
 clear hr1 hc1
 have H : (if (l0.length : Int) = (l1.length : Int) then (y_x.l0 k l0 l1 0) else (some false)) = some r := h
 clear h
 by_cases c3 : (l0.length : Int) = (l1.length : Int)
 ·rw [if_pos c3] at H
  have c3b0 : ((l0.length : Int) == (l1.length : Int)) = true := beq_iff_eq.mpr c3
  have c3b1 : ((l0.length : Int) != (l1.length : Int)) = false := bne_eq_false_iff_eq.mpr c3
  have c3b2 : (l0.length == l1.length) = true := by first | simpa using c3 | (simp at c3 ⊢; omega)
  clear c3
  have H' := z10a H
  clear H
  go_enter Try.func21, Try.ntmps21
  go_wp2
  repeat (go_quiet (fail); try go_wp2)
  go_loopg [5] k (fun kq v5 w' => ∃ (x5_1 : Int), v5 = .int .i64 x5_1 ∧ Aside0 (y_x.l0 kq l0 l1 x5_1 = some r) ∧ Aside0 (kq ≤ k) ∧ Drawn0 w w')
  case atStart => exact ⟨(0), (by first | rfl | (simp; done) | (simp [*]; done)), H', ⟨Nat.le_refl _⟩, by repeat (first | exact Drawn0.refl _ | apply Drawn0.step)⟩
  case round =>
   clear H'
   try clear c1
   try clear c2
   try clear p2
   try clear c3
   try clear c3b0
   try clear c3b1
   try clear c3b2
   obtain ⟨x5_1, rfl, HA, HK1, ⟨m1, rfl⟩⟩ := hrel
   cases gk with
   | zero => exact absurd HA.out (by simp [y_x.l0])
   | succ k1 =>
    have H := HA.out
    clear HA
    simp only [y_x.l0] at H
    by_cases c4 : x5_1 < (l0.length : Int)
    ·rw [if_pos c4] at H
     have c4b0 : decide (x5_1 < (l0.length : Int)) = true := z10h c4
     clear c4
     by_cases c5 : 0 ≤ x5_1
     ·rw [if_pos c5] at H
      have c5b0 : decide (0 ≤ x5_1) = true := z10h c5
      clear c5
      by_cases c6 : x5_1 < (l1.length : Int)
      ·rw [if_pos c6] at H
       have c6b0 : decide (x5_1 < (l1.length : Int)) = true := z10h c6
       clear c6
       replace H := z10f.mp H
       obtain ⟨t536, A70, H⟩ := H
       have A7 := z10a A70
       clear A70
       by_cases c8 : t536 = true
       ·subst c8
        rw [if_pos rfl] at H
        have H' := z10a H
        clear H
        have p534 : 0 ≤ (x5_1 : Int) := z10g (by first | (with_reducible assumption) | assumption)
        have q534 : x5_1 < (l0.length : Int) := z10g (by first | (with_reducible assumption) | assumption)
        obtain ⟨ad534, A534_0, c534_0, e534, hx534_0, hl534_0, hi534_0⟩ := at_T39 HR0.out x5_1 p534 q534
        cases e534
        have HR534_0 := z10a hi534_0
        have HC534_0 := z10a hl534_0
        clear hi534_0 hl534_0
        replace p534 := eq_true p534
        replace q534 := eq_true q534
        have p535 : 0 ≤ (x5_1 : Int) := z10g (by first | (with_reducible assumption) | assumption)
        have q535 : x5_1 < (l1.length : Int) := z10g (by first | (with_reducible assumption) | assumption)
        obtain ⟨ad535, A535_0, c535_0, e535, hx535_0, hl535_0, hi535_0⟩ := at_T39 HR1.out x5_1 p535 q535
        cases e535
        have HR535_0 := z10a hi535_0
        have HC535_0 := z10a hl535_0
        clear hi535_0 hl535_0
        replace p535 := eq_true p535
        replace q535 := eq_true q535
        go_wp2_with (first | (go_at_call 28; (with_reducible refine (y_i.calls k1 _ _ ((rd_T39 l0 x5_1).f0) _ _ ((rd_T39 l1 x5_1).f0) true _ ?side1 ?side2 ?side3 ?side4 A7.out).mono ?_); (case side1 => repeat (first | exact HR534_0.out | (with_reducible refine Kd.C_alloc ?_ _) | (with_reducible refine Kd.C_drewN ?_ _) | (with_reducible refine Kd.C_drew ?_))); (case side2 => exact HC534_0.out); (case side3 => repeat (first | exact HR535_0.out | (with_reducible refine Kd.C_alloc ?_ _) | (with_reducible refine Kd.C_drewN ?_ _) | (with_reducible refine Kd.C_drew ?_))); (case side4 => exact HC535_0.out); rintro e w' ⟨rfl, ⟨nd, rfl⟩⟩; (try first | exact ⟨rfl, _, World.drewN_drewN _ _ _⟩ | exact ⟨rfl, _, Eq.trans (World.drewN_drewN _ _ _) (congrArg (World.drewN _) (Nat.add_assoc _ _ _))⟩)))
        repeat (go_quiet (first | (go_at_call 28; (with_reducible refine (y_i.calls k1 _ _ ((rd_T39 l0 x5_1).f0) _ _ ((rd_T39 l1 x5_1).f0) true _ ?side1 ?side2 ?side3 ?side4 A7.out).mono ?_); (case side1 => repeat (first | exact HR534_0.out | (with_reducible refine Kd.C_alloc ?_ _) | (with_reducible refine Kd.C_drewN ?_ _) | (with_reducible refine Kd.C_drew ?_))); (case side2 => exact HC534_0.out); (case side3 => repeat (first | exact HR535_0.out | (with_reducible refine Kd.C_alloc ?_ _) | (with_reducible refine Kd.C_drewN ?_ _) | (with_reducible refine Kd.C_drew ?_))); (case side4 => exact HC535_0.out); rintro e w' ⟨rfl, ⟨nd, rfl⟩⟩; (try first | exact ⟨rfl, _, World.drewN_drewN _ _ _⟩ | exact ⟨rfl, _, Eq.trans (World.drewN_drewN _ _ _) (congrArg (World.drewN _) (Nat.add_assoc _ _ _))⟩))); try go_wp2_with (first | (go_at_call 28; (with_reducible refine (y_i.calls k1 _ _ ((rd_T39 l0 x5_1).f0) _ _ ((rd_T39 l1 x5_1).f0) true _ ?side1 ?side2 ?side3 ?side4 A7.out).mono ?_); (case side1 => repeat (first | exact HR534_0.out | (with_reducible refine Kd.C_alloc ?_ _) | (with_reducible refine Kd.C_drewN ?_ _) | (with_reducible refine Kd.C_drew ?_))); (case side2 => exact HC534_0.out); (case side3 => repeat (first | exact HR535_0.out | (with_reducible refine Kd.C_alloc ?_ _) | (with_reducible refine Kd.C_drewN ?_ _) | (with_reducible refine Kd.C_drew ?_))); (case side4 => exact HC535_0.out); rintro e w' ⟨rfl, ⟨nd, rfl⟩⟩; (try first | exact ⟨rfl, _, World.drewN_drewN _ _ _⟩ | exact ⟨rfl, _, Eq.trans (World.drewN_drewN _ _ _) (congrArg (World.drewN _) (Nat.add_assoc _ _ _))⟩))))
        go_roundg k1
        case measure => have := HK1.out; omega
        case rel => exact ⟨(wrap64 (x5_1 + 1)), (by first | rfl | (simp; done) | (simp [*]; done)), H', ⟨by have := HK1.out; omega⟩, by repeat (first | exact Drawn0.refl _ | apply Drawn0.step)⟩
       ·replace c8 := Bool.eq_false_iff.mpr c8
        subst c8
        have H1 : (some false) = some r := by rw [if_neg (show ¬ (false = true) by decide)] at H; exact H
        clear H
        have H := H1
        clear H1
        obtain rfl := Option.some.inj H
        have p534 : 0 ≤ (x5_1 : Int) := z10g (by first | (with_reducible assumption) | assumption)
        have q534 : x5_1 < (l0.length : Int) := z10g (by first | (with_reducible assumption) | assumption)
        obtain ⟨ad534, A534_0, c534_0, e534, hx534_0, hl534_0, hi534_0⟩ := at_T39 HR0.out x5_1 p534 q534
        cases e534
        have HR534_0 := z10a hi534_0
        have HC534_0 := z10a hl534_0
        clear hi534_0 hl534_0
        replace p534 := eq_true p534
        replace q534 := eq_true q534
        have p535 : 0 ≤ (x5_1 : Int) := z10g (by first | (with_reducible assumption) | assumption)
        have q535 : x5_1 < (l1.length : Int) := z10g (by first | (with_reducible assumption) | assumption)
        obtain ⟨ad535, A535_0, c535_0, e535, hx535_0, hl535_0, hi535_0⟩ := at_T39 HR1.out x5_1 p535 q535
        cases e535
        have HR535_0 := z10a hi535_0
        have HC535_0 := z10a hl535_0
        clear hi535_0 hl535_0
        replace p535 := eq_true p535
        replace q535 := eq_true q535
        go_wp2_with (first | (go_at_call 28; (with_reducible refine (y_i.calls k1 _ _ ((rd_T39 l0 x5_1).f0) _ _ ((rd_T39 l1 x5_1).f0) false _ ?side1 ?side2 ?side3 ?side4 A7.out).mono ?_); (case side1 => repeat (first | exact HR534_0.out | (with_reducible refine Kd.C_alloc ?_ _) | (with_reducible refine Kd.C_drewN ?_ _) | (with_reducible refine Kd.C_drew ?_))); (case side2 => exact HC534_0.out); (case side3 => repeat (first | exact HR535_0.out | (with_reducible refine Kd.C_alloc ?_ _) | (with_reducible refine Kd.C_drewN ?_ _) | (with_reducible refine Kd.C_drew ?_))); (case side4 => exact HC535_0.out); rintro e w' ⟨rfl, ⟨nd, rfl⟩⟩; (try first | exact ⟨rfl, _, World.drewN_drewN _ _ _⟩ | exact ⟨rfl, _, Eq.trans (World.drewN_drewN _ _ _) (congrArg (World.drewN _) (Nat.add_assoc _ _ _))⟩)))
        repeat (go_quiet (first | (go_at_call 28; (with_reducible refine (y_i.calls k1 _ _ ((rd_T39 l0 x5_1).f0) _ _ ((rd_T39 l1 x5_1).f0) false _ ?side1 ?side2 ?side3 ?side4 A7.out).mono ?_); (case side1 => repeat (first | exact HR534_0.out | (with_reducible refine Kd.C_alloc ?_ _) | (with_reducible refine Kd.C_drewN ?_ _) | (with_reducible refine Kd.C_drew ?_))); (case side2 => exact HC534_0.out); (case side3 => repeat (first | exact HR535_0.out | (with_reducible refine Kd.C_alloc ?_ _) | (with_reducible refine Kd.C_drewN ?_ _) | (with_reducible refine Kd.C_drew ?_))); (case side4 => exact HC535_0.out); rintro e w' ⟨rfl, ⟨nd, rfl⟩⟩; (try first | exact ⟨rfl, _, World.drewN_drewN _ _ _⟩ | exact ⟨rfl, _, Eq.trans (World.drewN_drewN _ _ _) (congrArg (World.drewN _) (Nat.add_assoc _ _ _))⟩))); try go_wp2_with (first | (go_at_call 28; (with_reducible refine (y_i.calls k1 _ _ ((rd_T39 l0 x5_1).f0) _ _ ((rd_T39 l1 x5_1).f0) false _ ?side1 ?side2 ?side3 ?side4 A7.out).mono ?_); (case side1 => repeat (first | exact HR534_0.out | (with_reducible refine Kd.C_alloc ?_ _) | (with_reducible refine Kd.C_drewN ?_ _) | (with_reducible refine Kd.C_drew ?_))); (case side2 => exact HC534_0.out); (case side3 => repeat (first | exact HR535_0.out | (with_reducible refine Kd.C_alloc ?_ _) | (with_reducible refine Kd.C_drewN ?_ _) | (with_reducible refine Kd.C_drew ?_))); (case side4 => exact HC535_0.out); rintro e w' ⟨rfl, ⟨nd, rfl⟩⟩; (try first | exact ⟨rfl, _, World.drewN_drewN _ _ _⟩ | exact ⟨rfl, _, Eq.trans (World.drewN_drewN _ _ _) (congrArg (World.drewN _) (Nat.add_assoc _ _ _))⟩))))
        go_ret
        exact ⟨by first | rfl | (simp; done) | (simp [*]; done), by repeat (first | exact Drawn0.refl _ | apply Drawn0.step)⟩
      ·rw [if_neg c6] at H
       exact absurd H (by simp)
     ·rw [if_neg c5] at H
      exact absurd H (by simp)
    ·rw [if_neg c4] at H
     have c4b0 : decide (x5_1 < (l0.length : Int)) = false := decide_eq_false c4
     clear c4
     obtain rfl := Option.some.inj H
     go_wp2
     repeat (go_quiet (fail); try go_wp2)
     go_ret
     exact ⟨by first | rfl | (simp; done) | (simp [*]; done), by repeat (first | exact Drawn0.refl _ | apply Drawn0.step)⟩
 ·rw [if_neg c3] at H
  have c3b0 : ((l0.length : Int) == (l1.length : Int)) = false := beq_eq_false_iff_ne.mpr c3
  have c3b1 : ((l0.length : Int) != (l1.length : Int)) = true := bne_iff_ne.mpr c3
  have c3b2 : (l0.length == l1.length) = false := by first | simpa using c3 | (simp at c3 ⊢; omega)
  obtain rfl := Option.some.inj H
  go_enter Try.func21, Try.ntmps21
  go_wp2
  repeat (go_quiet (fail); try go_wp2)
  go_ret
  exact ⟨by first | rfl | (simp; done) | (simp [*]; done), by repeat (first | exact Drawn0.refl _ | apply Drawn0.step)⟩
def y_u.l0 : Nat → List (S71) → Int → Option (Bool)
 | 0, _, _ => none
 | k + 1, x0, x3 => if x3 < (x0.length : Int) then (if 0 ≤ x3 then (if 0 ≤ (wrap64 (x3 - 1)) then (if (wrap64 (x3 - 1)) < (x0.length : Int) then ((y_rb.f ((rd_T71 x0 x3).f0) ((rd_T71 x0 x3).f1) ((rd_T71 x0 x3).f2) ((rd_T71 x0 (wrap64 (x3 - 1))).f0) ((rd_T71 x0 (wrap64 (x3 - 1))).f1) ((rd_T71 x0 (wrap64 (x3 - 1))).f2)).bind fun t539 => (if t539 < 0 then (some false) else (y_u.l0 k x0 (wrap64 (x3 + 1))))) else (none)) else (none)) else (none)) else (some true)
def y_u.f (k : Nat) (l0 : List (S71)) : Option (Bool) := y_u.l0 k l0 1
def y_u.T4 : Bool × List (List Nat × List Nat) := (true, [([], []), ([], []), ([0, 1], [0, 1]), ([2], [2]), ([], []), ([], []), ([5], [5]), ([4, 6], [4, 6]), ([7], [7]), ([3, 8], [3, 8]), ([9], [9])])
def y_u.B4 : List Nat := [0, 0, 3, 7, 0, 0, 32, 112, 240, 511, 1023]
theorem y_u.tab4 : rtab .any (opsOf Try.f53 4) = y_u.T4 := by kernel_rfl
theorem y_u.bits4 : waitsOk y_u.T4.2 y_u.B4 = true := by kernel_rfl
theorem y_u.calls (k : Nat) (A0 : Option Addr) (c0 : Nat) (l0 : List (S71)) (r : Bool) (w : World) (hr0 : Kd.C k71 w A0 l0.length l0) (hc0 : l0.length ≤ c0) (h : y_u.f k l0 = some r) :
  Calls Try.prog 53 #[.slice A0 l0.length c0] w fun e w' => e = .returned (.bool r) ∧ Below w.heap.size w w' := by
 have hu71 := Try.underlying71
 have HR0 := z10a hr0
 have HC0 := z10a hc0
 clear hr0 hc0
 have HB := z10a (Below.refl w.heap.size w)
 have H : (y_u.l0 k l0 1) = some r := h
 clear h
 have H' := z10a H
 clear H
 go_enter Try.func53, Try.ntmps53
 go_wp2
 go_loopg [3] k (fun kq v3 w' => ∃ (x3_1 : Int), v3 = .int .i64 x3_1 ∧ Aside0 (y_u.l0 kq l0 x3_1 = some r) ∧ Aside0 (kq ≤ k) ∧ Aside0 (Below w.heap.size w w'))
 case atStart => exact ⟨(1), (by first | rfl | (simp; done) | (simp [*]; done)), H', ⟨Nat.le_refl _⟩, ⟨by repeat (first | (with_reducible first | exact HB.out | apply z10d | apply z10b | apply z10c) | exact HB.out)⟩⟩
 case round =>
  clear H'
  obtain ⟨x3_1, rfl, HA, HK1, HB⟩ := hrel
  cases gk with
  | zero => exact absurd HA.out (by simp [y_u.l0])
  | succ k1 =>
   have H := HA.out
   clear HA
   simp only [y_u.l0] at H
   by_cases c2 : x3_1 < (l0.length : Int)
   ·rw [if_pos c2] at H
    have c2b0 : decide (x3_1 < (l0.length : Int)) = true := z10h c2
    clear c2
    by_cases c3 : 0 ≤ x3_1
    ·rw [if_pos c3] at H
     have c3b0 : decide (0 ≤ x3_1) = true := z10h c3
     clear c3
     obtain ⟨ji4, hji4⟩ : ∃ j_ : Int, (wrap64 (x3_1 - 1)) = j_ := ⟨_, rfl⟩
     replace H : (if 0 ≤ (ji4) then (if (ji4) < (l0.length : Int) then ((y_rb.f ((rd_T71 l0 x3_1).f0) ((rd_T71 l0 x3_1).f1) ((rd_T71 l0 x3_1).f2) ((rd_T71 l0 (ji4)).f0) ((rd_T71 l0 (ji4)).f1) ((rd_T71 l0 (ji4)).f2)).bind fun t539 => (if t539 < 0 then (some false) else (y_u.l0 k1 l0 (wrap64 (x3_1 + 1))))) else (none)) else (none)) = some r := by first | (rw [hji4] at H; exact H) | (simp only [hji4] at H ⊢; exact H)
     have hji4w : (IntKind.i64.wrap (x3_1 - 1)) = ji4 := (i64_w _).trans hji4
     by_cases c5 : 0 ≤ (ji4)
     ·rw [if_pos c5] at H
      have c5b0 : decide (0 ≤ (ji4)) = true := z10h c5
      clear c5
      by_cases c6 : (ji4) < (l0.length : Int)
      ·rw [if_pos c6] at H
       have c6b0 : decide ((ji4) < (l0.length : Int)) = true := z10h c6
       clear c6
       replace H := z10f.mp H
       obtain ⟨t539, A70, H⟩ := H
       have A7 := z10a A70
       clear A70
       by_cases c8 : t539 < 0
       ·rw [if_pos c8] at H
        have c8b0 : decide (t539 < 0) = true := z10h c8
        clear c8
        obtain rfl := Option.some.inj H
        try go_wp2
        have n0_ := z10a (z10c HB.out)
        clear HB
        have HB := n0_
        clear n0_
        have p537 : 0 ≤ (x3_1 : Int) := z10g (by first | (with_reducible assumption) | assumption)
        have q537 : x3_1 < (l0.length : Int) := z10g (by first | (with_reducible assumption) | assumption)
        obtain ⟨ad537, e537, hx537_0, hx537_1, hx537_2⟩ := at_T71 HR0.out x3_1 p537 q537
        have hw537_2 := hx537_2
        have hw537_1 := hx537_1
        have hw537_0 := hx537_0
        cases e537
        replace hx537_0 := (HB.out.cell (z10e w _ hx537_0)).trans hx537_0
        replace hx537_1 := (HB.out.cell (z10e w _ hx537_1)).trans hx537_1
        replace hx537_2 := (HB.out.cell (z10e w _ hx537_2)).trans hx537_2
        replace p537 := eq_true p537
        replace q537 := eq_true q537
        have p538 : 0 ≤ ((ji4) : Int) := z10g (by first | (with_reducible assumption) | assumption)
        have q538 : (ji4) < (l0.length : Int) := z10g (by first | (with_reducible assumption) | assumption)
        obtain ⟨ad538, e538, hx538_0, hx538_1, hx538_2⟩ := at_T71 HR0.out (ji4) p538 q538
        have hw538_2 := hx538_2
        have hw538_1 := hx538_1
        have hw538_0 := hx538_0
        obtain rfl : ad537 = ad538 := (by injection e538)
        replace hx538_0 := (HB.out.cell (z10e w _ hx538_0)).trans hx538_0
        replace hx538_1 := (HB.out.cell (z10e w _ hx538_1)).trans hx538_1
        replace hx538_2 := (HB.out.cell (z10e w _ hx538_2)).trans hx538_2
        replace p538 := eq_true p538
        replace q538 := eq_true q538
        refine start_ (n := 11) (S := fun w' => w'.cell? (ad537.add ((x3_1).toNat * 3)) = some (.int .i64 ((rd_T71 l0 x3_1).f0)) ∧ w'.cell? ⟨(ad537.add ((x3_1).toNat * 3)).block, (ad537.add ((x3_1).toNat * 3)).off + 1, none⟩ = some (.int .i64 ((rd_T71 l0 x3_1).f1)) ∧ w'.cell? ⟨(ad537.add ((x3_1).toNat * 3)).block, (ad537.add ((x3_1).toNat * 3)).off + 2, none⟩ = some (.int .i64 ((rd_T71 l0 x3_1).f2)) ∧ w'.cell? (ad537.add (((ji4)).toNat * 3)) = some (.int .i64 ((rd_T71 l0 (ji4)).f0)) ∧ w'.cell? ⟨(ad537.add (((ji4)).toNat * 3)).block, (ad537.add (((ji4)).toNat * 3)).off + 1, none⟩ = some (.int .i64 ((rd_T71 l0 (ji4)).f1)) ∧ w'.cell? ⟨(ad537.add (((ji4)).toNat * 3)).block, (ad537.add (((ji4)).toNat * 3)).off + 2, none⟩ = some (.int .i64 ((rd_T71 l0 (ji4)).f2))) (ds := []) #[zf10,zf10,zf10,zf10,zf10,zf10,zf10,zf10,zf10,zf10,zf10] (by kernel_rfl) rfl rfl ⟨((HB.out.cell (z10e w _ hw537_0)).trans hw537_0), ((HB.out.cell (z10e w _ hw537_1)).trans hw537_1), ((HB.out.cell (z10e w _ hw537_2)).trans hw537_2), ((HB.out.cell (z10e w _ hw538_0)).trans hw538_0), ((HB.out.cell (z10e w _ hw538_1)).trans hw538_1), ((HB.out.cell (z10e w _ hw538_2)).trans hw538_2)⟩ (fun hHeld => ?_); refine with_tabW y_u.tab4 y_u.bits4 (fun HT_ HW_ => ?_)
        generalize wr.drew = w9 at HB hx537_0 hx537_1 hx537_2 hx538_0 hx538_1 hx538_2 hHeld ⊢
        refine pure_ (i := 0) (N := some 10) (v := ?_) (a' := ?_) #[zt10,zf10,zf10,zf10,zf10,zf10,zf10,zf10,zf10,zf10,zf10] rfl rfl (any_of HT_.out (by kernel_rfl)) (fun _ _ _ h => h) (Or.inl ⟨by rfl, ?_⟩) ?_ ?_
        rotate_left
        ·intro w'
         go_simp
         with_reducible rfl
        rotate_left
        ·simp only [Act.put, zp10a, zp10b, zp10c, i64_w, i32_w]
         rfl
        refine pure_ (i := 1) (N := some 11) (v := ?_) (a' := ?_) #[zt10,zt10,zf10,zf10,zf10,zf10,zf10,zf10,zf10,zf10,zf10] rfl rfl (any_of HT_.out (by kernel_rfl)) (fun _ _ _ h => h) (Or.inl ⟨by rfl, ?_⟩) ?_ ?_
        rotate_left
        ·intro w'
         go_simp
         with_reducible rfl
        rotate_left
        ·simp only [Act.put, zp10a, zp10b, zp10c, i64_w, i32_w]
         rfl
        refine pure_ (i := 2) (N := some 12) (v := ?_) (a' := ?_) #[zt10,zt10,zt10,zf10,zf10,zf10,zf10,zf10,zf10,zf10,zf10] rfl rfl (any_of HT_.out (by kernel_rfl)) (fun _ _ _ h => h) (Or.inl ⟨by rfl, ?_⟩) ?_ ?_
        rotate_left
        ·intro w'
         go_simp
         with_reducible rfl
        rotate_left
        ·simp only [Act.put, zp10a, zp10b, zp10c, i64_w, i32_w]
         rfl
        refine pure_ (i := 4) (N := some 14) (v := ?_) (a' := ?_) #[zt10,zt10,zt10,zf10,zt10,zf10,zf10,zf10,zf10,zf10,zf10] rfl rfl (any_of HT_.out (by kernel_rfl)) (fun _ _ _ h => h) (Or.inl ⟨by rfl, ?_⟩) ?_ ?_
        rotate_left
        ·intro w'
         go_simp
         with_reducible rfl
        rotate_left
        ·simp only [Act.put, zp10a, zp10b, zp10c, i64_w, i32_w]
         rfl
        refine pure_ (i := 5) (N := some 15) (v := ?_) (a' := ?_) #[zt10,zt10,zt10,zf10,zt10,zt10,zf10,zf10,zf10,zf10,zf10] rfl rfl (any_of HT_.out (by kernel_rfl)) (fun _ _ _ h => h) (Or.inl ⟨by rfl, ?_⟩) ?_ ?_
        rotate_left
        ·intro w'
         go_simp
         with_reducible rfl
        rotate_left
        ·simp only [Act.put, zp10a, zp10b, zp10c, i64_w, i32_w]
         rfl
        refine pure_ (i := 6) (N := some 16) (v := ?_) (a' := ?_) #[zt10,zt10,zt10,zf10,zt10,zt10,zt10,zf10,zf10,zf10,zf10] rfl rfl (any_of HT_.out (by kernel_rfl)) (fun _ _ _ h => h) (Or.inl ⟨by rfl, ?_⟩) ?_ ?_
        rotate_left
        ·intro w'
         go_simp
         with_reducible rfl
        rotate_left
        ·simp only [Act.put, zp10a, zp10b, zp10c, i64_w, i32_w]
         rfl
        refine pure_ (i := 7) (N := some 17) (v := ?_) (a' := ?_) #[zt10,zt10,zt10,zf10,zt10,zt10,zt10,zt10,zf10,zf10,zf10] rfl rfl (any_of HT_.out (by kernel_rfl)) (fun _ _ _ h => h) (Or.inl ⟨by rfl, ?_⟩) ?_ ?_
        rotate_left
        ·intro w'
         go_simp
         with_reducible rfl
        rotate_left
        ·simp only [Act.put, zp10a, zp10b, zp10c, i64_w, i32_w]
         rfl
        refine take_ (i := 3) (N := some 13) (v := ?_) (a' := ?_) #[zt10,zt10,zt10,zt10,zt10,zt10,zt10,zt10,zf10,zf10,zf10] rfl rfl (take_ofW HT_.out HW_.out (by kernel_rfl)) (fun _ _ _ h => h) (Or.inl ⟨by rfl, ?_⟩) hHeld ?_ ?_
        rotate_left
        ·rintro w' ⟨s0, s1, s2, s3, s4, s5⟩
         go_simp
         with_reducible rfl
        rotate_left
        ·simp only [Act.put, zp10a, zp10b, zp10c, i64_w, i32_w]
         rfl
        refine take_ (i := 8) (N := some 18) (v := ?_) (a' := ?_) #[zt10,zt10,zt10,zt10,zt10,zt10,zt10,zt10,zt10,zf10,zf10] rfl rfl (take_ofW HT_.out HW_.out (by kernel_rfl)) (fun _ _ _ h => h) (Or.inl ⟨by rfl, ?_⟩) hHeld ?_ ?_
        rotate_left
        ·rintro w' ⟨s0, s1, s2, s3, s4, s5⟩
         go_simp
         with_reducible rfl
        rotate_left
        ·simp only [Act.put, zp10a, zp10b, zp10c, i64_w, i32_w]
         rfl
        refine one_ (i := 9) (N := some 19) #[zt10,zt10,zt10,zt10,zt10,zt10,zt10,zt10,zt10,zt10,zf10] rfl rfl (one_of HT_.out (by kernel_rfl)) (by decide) (fun K hK => ?_)
        refine goes_ Try.func122 (by kernel_rfl) rfl #[.agg #[.int .i64 ((rd_T71 l0 x3_1).f0), .int .i64 ((rd_T71 l0 x3_1).f1), .int .i64 ((rd_T71 l0 x3_1).f2)], .agg #[.int .i64 ((rd_T71 l0 (ji4)).f0), .int .i64 ((rd_T71 l0 (ji4)).f1), .int .i64 ((rd_T71 l0 (ji4)).f2)]] (by rfl) rfl rfl (by (try simp only [zm10a, zm10b, zm10c]); first | done | (simp only [hji4]; rfl) | rfl | (simp only [zm10d, zm10e]; rfl)) ?_
        with_reducible refine (y_rb.calls ((rd_T71 l0 x3_1).f0) ((rd_T71 l0 x3_1).f1) ((rd_T71 l0 x3_1).f2) ((rd_T71 l0 (ji4)).f0) ((rd_T71 l0 (ji4)).f1) ((rd_T71 l0 (ji4)).f2) t539 _ A7.out).mono ?_
        rintro e w10 ⟨rfl, hb⟩
        refine ⟨_, rfl, ?_⟩
        have n0_ := z10a (below_step (by repeat (first | (with_reducible first | exact HB.out | apply z10d | apply z10b | apply z10c) | exact HB.out)) hb)
        clear HB
        have HB := n0_
        clear n0_
        (try clear hb)
        (try clear hb2)
        (try clear hk)
        (try clear hi)
        refine hK.out _ _ ⟨((HB.out.cell (z10e w _ hw537_0)).trans hw537_0), ((HB.out.cell (z10e w _ hw537_1)).trans hw537_1), ((HB.out.cell (z10e w _ hw537_2)).trans hw537_2), ((HB.out.cell (z10e w _ hw538_0)).trans hw538_0), ((HB.out.cell (z10e w _ hw538_1)).trans hw538_1), ((HB.out.cell (z10e w _ hw538_2)).trans hw538_2)⟩ (fun hHeld => ?_)
        clear hK K
        refine norm_ (a' := ?_) ?_ ?_
        rotate_left
        ·show Act.put _ (some 19) _ = _
         simp only [Act.put, zp10a, zp10b, zp10c, i64_w, i32_w]
         rfl
        refine pure_ (i := 10) (N := some 20) (v := ?_) (a' := ?_) #[zt10,zt10,zt10,zt10,zt10,zt10,zt10,zt10,zt10,zt10,zt10] rfl rfl (any_of HT_.out (by kernel_rfl)) (fun _ _ _ h => h) (Or.inl ⟨by rfl, ?_⟩) ?_ ?_
        rotate_left
        ·intro w'
         go_simp
         with_reducible rfl
        rotate_left
        ·simp only [Act.put, zp10a, zp10b, zp10c, i64_w, i32_w]
         rfl
        refine done_ (done_of HT_.out (by kernel_rfl)) ?_
        try go_wp2
        go_ret
        exact ⟨by first | rfl | (simp [errW_none, errW_some] <;> rfl) | (simp only [← hji4]; first | rfl | (simp [errW_none, errW_some] <;> rfl)) | (simp [*, errW_none, errW_some] <;> rfl), by repeat (first | (with_reducible first | exact HB.out | apply z10d | apply z10b | apply z10c) | exact HB.out)⟩
       ·rw [if_neg c8] at H
        have c8b0 : decide (t539 < 0) = false := decide_eq_false c8
        clear c8
        have H' := z10a H
        clear H
        try go_wp2
        have n0_ := z10a (z10c HB.out)
        clear HB
        have HB := n0_
        clear n0_
        have p537 : 0 ≤ (x3_1 : Int) := z10g (by first | (with_reducible assumption) | assumption)
        have q537 : x3_1 < (l0.length : Int) := z10g (by first | (with_reducible assumption) | assumption)
        obtain ⟨ad537, e537, hx537_0, hx537_1, hx537_2⟩ := at_T71 HR0.out x3_1 p537 q537
        have hw537_2 := hx537_2
        have hw537_1 := hx537_1
        have hw537_0 := hx537_0
        cases e537
        replace hx537_0 := (HB.out.cell (z10e w _ hx537_0)).trans hx537_0
        replace hx537_1 := (HB.out.cell (z10e w _ hx537_1)).trans hx537_1
        replace hx537_2 := (HB.out.cell (z10e w _ hx537_2)).trans hx537_2
        replace p537 := eq_true p537
        replace q537 := eq_true q537
        have p538 : 0 ≤ ((ji4) : Int) := z10g (by first | (with_reducible assumption) | assumption)
        have q538 : (ji4) < (l0.length : Int) := z10g (by first | (with_reducible assumption) | assumption)
        obtain ⟨ad538, e538, hx538_0, hx538_1, hx538_2⟩ := at_T71 HR0.out (ji4) p538 q538
        have hw538_2 := hx538_2
        have hw538_1 := hx538_1
        have hw538_0 := hx538_0
        obtain rfl : ad537 = ad538 := (by injection e538)
        replace hx538_0 := (HB.out.cell (z10e w _ hx538_0)).trans hx538_0
        replace hx538_1 := (HB.out.cell (z10e w _ hx538_1)).trans hx538_1
        replace hx538_2 := (HB.out.cell (z10e w _ hx538_2)).trans hx538_2
        replace p538 := eq_true p538
        replace q538 := eq_true q538
        refine start_ (n := 11) (S := fun w' => w'.cell? (ad537.add ((x3_1).toNat * 3)) = some (.int .i64 ((rd_T71 l0 x3_1).f0)) ∧ w'.cell? ⟨(ad537.add ((x3_1).toNat * 3)).block, (ad537.add ((x3_1).toNat * 3)).off + 1, none⟩ = some (.int .i64 ((rd_T71 l0 x3_1).f1)) ∧ w'.cell? ⟨(ad537.add ((x3_1).toNat * 3)).block, (ad537.add ((x3_1).toNat * 3)).off + 2, none⟩ = some (.int .i64 ((rd_T71 l0 x3_1).f2)) ∧ w'.cell? (ad537.add (((ji4)).toNat * 3)) = some (.int .i64 ((rd_T71 l0 (ji4)).f0)) ∧ w'.cell? ⟨(ad537.add (((ji4)).toNat * 3)).block, (ad537.add (((ji4)).toNat * 3)).off + 1, none⟩ = some (.int .i64 ((rd_T71 l0 (ji4)).f1)) ∧ w'.cell? ⟨(ad537.add (((ji4)).toNat * 3)).block, (ad537.add (((ji4)).toNat * 3)).off + 2, none⟩ = some (.int .i64 ((rd_T71 l0 (ji4)).f2))) (ds := []) #[zf10,zf10,zf10,zf10,zf10,zf10,zf10,zf10,zf10,zf10,zf10] (by kernel_rfl) rfl rfl ⟨((HB.out.cell (z10e w _ hw537_0)).trans hw537_0), ((HB.out.cell (z10e w _ hw537_1)).trans hw537_1), ((HB.out.cell (z10e w _ hw537_2)).trans hw537_2), ((HB.out.cell (z10e w _ hw538_0)).trans hw538_0), ((HB.out.cell (z10e w _ hw538_1)).trans hw538_1), ((HB.out.cell (z10e w _ hw538_2)).trans hw538_2)⟩ (fun hHeld => ?_); refine with_tabW y_u.tab4 y_u.bits4 (fun HT_ HW_ => ?_)
        generalize wr.drew = w11 at HB hx537_0 hx537_1 hx537_2 hx538_0 hx538_1 hx538_2 hHeld ⊢
        refine pure_ (i := 0) (N := some 10) (v := ?_) (a' := ?_) #[zt10,zf10,zf10,zf10,zf10,zf10,zf10,zf10,zf10,zf10,zf10] rfl rfl (any_of HT_.out (by kernel_rfl)) (fun _ _ _ h => h) (Or.inl ⟨by rfl, ?_⟩) ?_ ?_
        rotate_left
        ·intro w'
         go_simp
         with_reducible rfl
        rotate_left
        ·simp only [Act.put, zp10a, zp10b, zp10c, i64_w, i32_w]
         rfl
        refine pure_ (i := 1) (N := some 11) (v := ?_) (a' := ?_) #[zt10,zt10,zf10,zf10,zf10,zf10,zf10,zf10,zf10,zf10,zf10] rfl rfl (any_of HT_.out (by kernel_rfl)) (fun _ _ _ h => h) (Or.inl ⟨by rfl, ?_⟩) ?_ ?_
        rotate_left
        ·intro w'
         go_simp
         with_reducible rfl
        rotate_left
        ·simp only [Act.put, zp10a, zp10b, zp10c, i64_w, i32_w]
         rfl
        refine pure_ (i := 2) (N := some 12) (v := ?_) (a' := ?_) #[zt10,zt10,zt10,zf10,zf10,zf10,zf10,zf10,zf10,zf10,zf10] rfl rfl (any_of HT_.out (by kernel_rfl)) (fun _ _ _ h => h) (Or.inl ⟨by rfl, ?_⟩) ?_ ?_
        rotate_left
        ·intro w'
         go_simp
         with_reducible rfl
        rotate_left
        ·simp only [Act.put, zp10a, zp10b, zp10c, i64_w, i32_w]
         rfl
        refine pure_ (i := 4) (N := some 14) (v := ?_) (a' := ?_) #[zt10,zt10,zt10,zf10,zt10,zf10,zf10,zf10,zf10,zf10,zf10] rfl rfl (any_of HT_.out (by kernel_rfl)) (fun _ _ _ h => h) (Or.inl ⟨by rfl, ?_⟩) ?_ ?_
        rotate_left
        ·intro w'
         go_simp
         with_reducible rfl
        rotate_left
        ·simp only [Act.put, zp10a, zp10b, zp10c, i64_w, i32_w]
         rfl
        refine pure_ (i := 5) (N := some 15) (v := ?_) (a' := ?_) #[zt10,zt10,zt10,zf10,zt10,zt10,zf10,zf10,zf10,zf10,zf10] rfl rfl (any_of HT_.out (by kernel_rfl)) (fun _ _ _ h => h) (Or.inl ⟨by rfl, ?_⟩) ?_ ?_
        rotate_left
        ·intro w'
         go_simp
         with_reducible rfl
        rotate_left
        ·simp only [Act.put, zp10a, zp10b, zp10c, i64_w, i32_w]
         rfl
        refine pure_ (i := 6) (N := some 16) (v := ?_) (a' := ?_) #[zt10,zt10,zt10,zf10,zt10,zt10,zt10,zf10,zf10,zf10,zf10] rfl rfl (any_of HT_.out (by kernel_rfl)) (fun _ _ _ h => h) (Or.inl ⟨by rfl, ?_⟩) ?_ ?_
        rotate_left
        ·intro w'
         go_simp
         with_reducible rfl
        rotate_left
        ·simp only [Act.put, zp10a, zp10b, zp10c, i64_w, i32_w]
         rfl
        refine pure_ (i := 7) (N := some 17) (v := ?_) (a' := ?_) #[zt10,zt10,zt10,zf10,zt10,zt10,zt10,zt10,zf10,zf10,zf10] rfl rfl (any_of HT_.out (by kernel_rfl)) (fun _ _ _ h => h) (Or.inl ⟨by rfl, ?_⟩) ?_ ?_
        rotate_left
        ·intro w'
         go_simp
         with_reducible rfl
        rotate_left
        ·simp only [Act.put, zp10a, zp10b, zp10c, i64_w, i32_w]
         rfl
        refine take_ (i := 3) (N := some 13) (v := ?_) (a' := ?_) #[zt10,zt10,zt10,zt10,zt10,zt10,zt10,zt10,zf10,zf10,zf10] rfl rfl (take_ofW HT_.out HW_.out (by kernel_rfl)) (fun _ _ _ h => h) (Or.inl ⟨by rfl, ?_⟩) hHeld ?_ ?_
        rotate_left
        ·rintro w' ⟨s0, s1, s2, s3, s4, s5⟩
         go_simp
         with_reducible rfl
        rotate_left
        ·simp only [Act.put, zp10a, zp10b, zp10c, i64_w, i32_w]
         rfl
        refine take_ (i := 8) (N := some 18) (v := ?_) (a' := ?_) #[zt10,zt10,zt10,zt10,zt10,zt10,zt10,zt10,zt10,zf10,zf10] rfl rfl (take_ofW HT_.out HW_.out (by kernel_rfl)) (fun _ _ _ h => h) (Or.inl ⟨by rfl, ?_⟩) hHeld ?_ ?_
        rotate_left
        ·rintro w' ⟨s0, s1, s2, s3, s4, s5⟩
         go_simp
         with_reducible rfl
        rotate_left
        ·simp only [Act.put, zp10a, zp10b, zp10c, i64_w, i32_w]
         rfl
        refine one_ (i := 9) (N := some 19) #[zt10,zt10,zt10,zt10,zt10,zt10,zt10,zt10,zt10,zt10,zf10] rfl rfl (one_of HT_.out (by kernel_rfl)) (by decide) (fun K hK => ?_)
        refine goes_ Try.func122 (by kernel_rfl) rfl #[.agg #[.int .i64 ((rd_T71 l0 x3_1).f0), .int .i64 ((rd_T71 l0 x3_1).f1), .int .i64 ((rd_T71 l0 x3_1).f2)], .agg #[.int .i64 ((rd_T71 l0 (ji4)).f0), .int .i64 ((rd_T71 l0 (ji4)).f1), .int .i64 ((rd_T71 l0 (ji4)).f2)]] (by rfl) rfl rfl (by (try simp only [zm10a, zm10b, zm10c]); first | done | (simp only [hji4]; rfl) | rfl | (simp only [zm10d, zm10e]; rfl)) ?_
        with_reducible refine (y_rb.calls ((rd_T71 l0 x3_1).f0) ((rd_T71 l0 x3_1).f1) ((rd_T71 l0 x3_1).f2) ((rd_T71 l0 (ji4)).f0) ((rd_T71 l0 (ji4)).f1) ((rd_T71 l0 (ji4)).f2) t539 _ A7.out).mono ?_
        rintro e w12 ⟨rfl, hb⟩
        refine ⟨_, rfl, ?_⟩
        have n0_ := z10a (below_step (by repeat (first | (with_reducible first | exact HB.out | apply z10d | apply z10b | apply z10c) | exact HB.out)) hb)
        clear HB
        have HB := n0_
        clear n0_
        (try clear hb)
        (try clear hb2)
        (try clear hk)
        (try clear hi)
        refine hK.out _ _ ⟨((HB.out.cell (z10e w _ hw537_0)).trans hw537_0), ((HB.out.cell (z10e w _ hw537_1)).trans hw537_1), ((HB.out.cell (z10e w _ hw537_2)).trans hw537_2), ((HB.out.cell (z10e w _ hw538_0)).trans hw538_0), ((HB.out.cell (z10e w _ hw538_1)).trans hw538_1), ((HB.out.cell (z10e w _ hw538_2)).trans hw538_2)⟩ (fun hHeld => ?_)
        clear hK K
        refine norm_ (a' := ?_) ?_ ?_
        rotate_left
        ·show Act.put _ (some 19) _ = _
         simp only [Act.put, zp10a, zp10b, zp10c, i64_w, i32_w]
         rfl
        refine pure_ (i := 10) (N := some 20) (v := ?_) (a' := ?_) #[zt10,zt10,zt10,zt10,zt10,zt10,zt10,zt10,zt10,zt10,zt10] rfl rfl (any_of HT_.out (by kernel_rfl)) (fun _ _ _ h => h) (Or.inl ⟨by rfl, ?_⟩) ?_ ?_
        rotate_left
        ·intro w'
         go_simp
         with_reducible rfl
        rotate_left
        ·simp only [Act.put, zp10a, zp10b, zp10c, i64_w, i32_w]
         rfl
        refine done_ (done_of HT_.out (by kernel_rfl)) ?_
        try go_wp2
        go_roundg k1
        case measure => have := HK1.out; omega
        case rel => exact ⟨(wrap64 (x3_1 + 1)), (by first | rfl | (simp; done) | (simp [*]; done)), H', ⟨by have := HK1.out; omega⟩, ⟨by repeat (first | (with_reducible first | exact HB.out | apply z10d | apply z10b | apply z10c) | exact HB.out)⟩⟩
      ·rw [if_neg c6] at H
       exact absurd H (by simp)
     ·rw [if_neg c5] at H
      exact absurd H (by simp)
    ·rw [if_neg c3] at H
     exact absurd H (by simp)
   ·rw [if_neg c2] at H
    have c2b0 : decide (x3_1 < (l0.length : Int)) = false := decide_eq_false c2
    clear c2
    obtain rfl := Option.some.inj H
    go_wp2
    go_ret
    exact ⟨by first | rfl | (simp [errW_none, errW_some] <;> rfl) | (simp [*, errW_none, errW_some] <;> rfl), by repeat (first | (with_reducible first | exact HB.out | apply z10d | apply z10b | apply z10c) | exact HB.out)⟩
end Go.Proofs.Ytkcicbigpbdjpaa.P
end
