-- merged by pack.py out of Px27 Base Row Cost Cmp Srt (words: printed by the kit's print.sh; what this claim does not use is left out)

import Derived.Test.YtkcicbigpbdjpaaKFnReplacementSelection1
import Derived.Test.YtkcicbigpbdjpaaKFnReplacementSelection2
import Derived.Test.YtkcicbigpbdjpaaKFnReplacementSelection3
import Derived.Test.YtkcicbigpbdjpaaKFnReplacementSelection5
import Derived.Test.YtkcicbigpbdjpaaKFnReplacementSelection6
import Derived.Test.YtkcicbigpbdjpaaKFnReplacementSelection8
import Derived.Test.YtkcicbigpbdjpaaKFnReplacementSelection10
import Derived.Test.YtkcicbigpbdjpaaKFnReplacementSelection11
import Derived.Test.YtkcicbigpbdjpaaKFnReplacementSelection12
import Derived.Test.YtkcicbigpbdjpaaKFnReplacementSelection13
namespace Go.Proofs.Ytkcicbigpbdjpaa
section
open Go.RowKit Go.Proofs.YtkcicbigpbdjpaaW.PrintWords Go.Proofs.YtkcicbigpbdjpaaW.PrintLast Go.Proofs.YtkcicbigpbdjpaaW.PrintMore
abbrev z14a := @Aside0.mk
abbrev z14b := @pw_below_drewN
abbrev z14c := @below_drew1
abbrev z14d := @below_alloc
abbrev z14e := @Option.bind_eq_some_iff
abbrev z14f := @Kd.R_alloc
abbrev z14g := @Kd.R_drewN
abbrev z14h := @Kd.R_drew
abbrev z14i := @Kd.R_below
abbrev z14j := @Kd.C_alloc
abbrev z14k := @Kd.C_drewN
abbrev z14l := @Kd.C_drew
abbrev z14m := @Kd.S_alloc
abbrev z14n := @Kd.S_drewN
abbrev z14o := @Kd.S_drew
abbrev z14p := @Kd.S_below
end
theorem zm14a {α β : Type} (f : α → β) (l : List α) : l.toArray.map f = (l.map f).toArray := by simp
theorem zm14b {α β : Type} (f : α → β) (a : α) (l : List α) : (a :: l).map f = f a :: l.map f := rfl
theorem zm14c {α β : Type} (f : α → β) : ([] : List α).map f = [] := rfl
theorem zm14d {α : Type} (n : Nat) (l : List α) : (l.drop n).length = l.length - n := List.length_drop
theorem zm14e {α : Type} (n : Nat) (l : List α) : (l.take n).length = min n l.length := List.length_take
end Go.Proofs.Ytkcicbigpbdjpaa
section
namespace Go.Proofs.Ytkcicbigpbdjpaa.P
open Go.RowKit Go.Proofs.YtkcicbigpbdjpaaW.PrintWords Go.Proofs.YtkcicbigpbdjpaaW.PrintLast Go.Proofs.YtkcicbigpbdjpaaW.PrintMore
attribute [local go_sem] max2_int min2_int max_two min_two max_three min_three max_four min_four
set_option linter.unusedVariables false
set_option linter.unusedSimpArgs false
mutual
def y_a.j0 : Nat → List (S71) → Int → List (S39) → Bool → Bool → Option (Bool)
 | 0, _, _, _, _, _ => none
 | k + 1, x3, x4, x5, x6, x72 => if x72 = true then (some false) else (if x6 = true then (y_a.l0 k x3 x4 x5 0) else (some ((x5.length : Int) == 0)))
def y_a.l0 : Nat → List (S71) → Int → List (S39) → Int → Option (Bool)
 | 0, _, _, _, _ => none
 | k + 1, x3, x4, x5, x11 => if (wrap64 (x11 + 1)) < (x5.length : Int) then (if 0 ≤ x11 then (if x11 < (x5.length : Int) then ((y_w.f k ((rd_T39 x5 x11).f0)).bind fun t666 => (if t666 ≤ (wrap64 ((wrap64 (x4 - 3)) - 1)) then (some false) else (y_a.l0 k x3 x4 x5 (wrap64 (x11 + 1))))) else (none)) else (none)) else ((y_l.f k x5).bind fun t667 => (if t667 = true then ((y_j.f k x5).bind fun t668 => ((y_gb.f k t668 x3).bind fun t671 => (if t671 = true then ((y_w.f k x3).bind fun t672 => (if t672 > x4 then (some true) else (some (decide ((x5.length : Int) ≤ 1))))) else (some false)))) else (some false)))
end
def y_a.f (k : Nat) (l0 : List Int) : Option (Bool) := (y_hc.f l0).bind fun t632 => (if t632 = true then (some true) else ((y_ec.f k l0).bind fun bt633 => ((y_c.f k bt633.1 bt633.2).bind fun bt637 => ((y_b.f k bt633.1 bt633.2).bind fun bt641 => ((y_xb.f k l0).bind fun t645 => ((y_wb.f k l0).bind fun t648 => (if (bt637.2 != bt641.2) = true then (y_a.j0 k bt633.1 bt633.2 bt637.1 bt637.2 true) else ((y_x.f k bt637.1 bt641.1).bind fun t651 => (if t651 = true then ((y_l.f k t645).bind fun t652 => ((y_q.f k t645).bind fun t653 => (if (t652 != t653) = true then (y_a.j0 k bt633.1 bt633.2 bt637.1 bt637.2 true) else ((y_t.f k t645).bind fun t654 => ((y_o.f k t645).bind fun t655 => (if t654.toList = t655.toList then ((y_f.f k t648).bind fun t656 => ((y_e.f k t648).bind fun t657 => (if t656 = t657 then ((y_j.f k t645).bind fun t658 => ((y_n.f k t645).bind fun t661 => ((y_i.f k t658 t661).bind fun t664 => (y_a.j0 k bt633.1 bt633.2 bt637.1 bt637.2 (!t664))))) else (y_a.j0 k bt633.1 bt633.2 bt637.1 bt637.2 true)))) else (y_a.j0 k bt633.1 bt633.2 bt637.1 bt637.2 true))))))) else (y_a.j0 k bt633.1 bt633.2 bt637.1 bt637.2 true))))))))))
set_option maxHeartbeats 8000000 in
set_option maxRecDepth 100000 in
theorem y_a.calls (k : Nat) (A0 : Option Addr) (c0 : Nat) (l0 : List Int) (r : Bool) (w : World) (hr0 : Kd.C (Kd.int .u8) w A0 l0.length l0) (hc0 : l0.length ≤ c0) (h : y_a.f k l0 = some r) (hr_ : r = true) :
  Calls Try.prog 3 #[.slice A0 l0.length c0] w fun e w' => e = .returned (.bool r) ∧ Below w.heap.size w w' := by
 have HR0 := z14a hr0
 have HC0 := z14a hc0
 clear hr0 hc0
 have HB := z14a (Below.refl w.heap.size w)
 have HR_ := z14a hr_
 clear hr_
 have H := h
 unfold y_a.f at H
 clear h
 replace H := z14e.mp H
 obtain ⟨t632, A20, H⟩ := H
 have A2 := z14a A20
 clear A20
 by_cases c3 : t632 = true
 ·subst c3
  rw [if_pos rfl] at H
  obtain rfl := Option.some.inj H
  go_enter Try.func3, Try.ntmps3
  go_wp2_with (first | ((with_reducible refine gate_callee (f := 15) rfl ?_); refine goesL_ (some 13) rfl rfl Try.func15 (by kernel_rfl) rfl #[.slice A0 l0.length c0] rfl (by (try simp only [zm14a, zm14b, zm14c]); first | done | rfl | (simp only [zm14d, zm14e]; rfl)) ?_; (with_reducible refine (y_hc.calls _ _ l0 true _ ?side1 ?side2 A2.out).mono ?_); (case side1 => repeat (first | exact HR0.out | (with_reducible refine z14j ?_ _) | (with_reducible refine z14k ?_ _) | (with_reducible refine z14l ?_))); (case side2 => exact HC0.out); rintro e w' ⟨rfl, ⟨nd, rfl⟩⟩; refine ⟨_, rfl, ?_⟩))
  go_ret
  exact ⟨by first | rfl | (simp [errW_none, errW_some] <;> rfl) | (simp [*, errW_none, errW_some] <;> rfl), by repeat (first | (with_reducible first | exact HB.out | apply z14d | apply z14b | apply z14c) | exact HB.out)⟩
 ·replace c3 := Bool.eq_false_iff.mpr c3
  subst c3
  have H1 : ((y_ec.f k l0).bind fun bt633 => ((y_c.f k bt633.1 bt633.2).bind fun bt637 => ((y_b.f k bt633.1 bt633.2).bind fun bt641 => ((y_xb.f k l0).bind fun t645 => ((y_wb.f k l0).bind fun t648 => (if (bt637.2 != bt641.2) = true then (y_a.j0 k bt633.1 bt633.2 bt637.1 bt637.2 true) else ((y_x.f k bt637.1 bt641.1).bind fun t651 => (if t651 = true then ((y_l.f k t645).bind fun t652 => ((y_q.f k t645).bind fun t653 => (if (t652 != t653) = true then (y_a.j0 k bt633.1 bt633.2 bt637.1 bt637.2 true) else ((y_t.f k t645).bind fun t654 => ((y_o.f k t645).bind fun t655 => (if t654.toList = t655.toList then ((y_f.f k t648).bind fun t656 => ((y_e.f k t648).bind fun t657 => (if t656 = t657 then ((y_j.f k t645).bind fun t658 => ((y_n.f k t645).bind fun t661 => ((y_i.f k t658 t661).bind fun t664 => (y_a.j0 k bt633.1 bt633.2 bt637.1 bt637.2 (!t664))))) else (y_a.j0 k bt633.1 bt633.2 bt637.1 bt637.2 true)))) else (y_a.j0 k bt633.1 bt633.2 bt637.1 bt637.2 true))))))) else (y_a.j0 k bt633.1 bt633.2 bt637.1 bt637.2 true))))))))) = some r := by rw [if_neg (show ¬ (false = true) by decide)] at H; exact H
  clear H
  have H := H1
  clear H1
  replace H := z14e.mp H
  obtain ⟨⟨t633, t634⟩, A40, H⟩ := H
  replace H : ((y_c.f k t633 t634).bind fun bt637 => ((y_b.f k t633 t634).bind fun bt641 => ((y_xb.f k l0).bind fun t645 => ((y_wb.f k l0).bind fun t648 => (if (bt637.2 != bt641.2) = true then (y_a.j0 k t633 t634 bt637.1 bt637.2 true) else ((y_x.f k bt637.1 bt641.1).bind fun t651 => (if t651 = true then ((y_l.f k t645).bind fun t652 => ((y_q.f k t645).bind fun t653 => (if (t652 != t653) = true then (y_a.j0 k t633 t634 bt637.1 bt637.2 true) else ((y_t.f k t645).bind fun t654 => ((y_o.f k t645).bind fun t655 => (if t654.toList = t655.toList then ((y_f.f k t648).bind fun t656 => ((y_e.f k t648).bind fun t657 => (if t656 = t657 then ((y_j.f k t645).bind fun t658 => ((y_n.f k t645).bind fun t661 => ((y_i.f k t658 t661).bind fun t664 => (y_a.j0 k t633 t634 bt637.1 bt637.2 (!t664))))) else (y_a.j0 k t633 t634 bt637.1 bt637.2 true)))) else (y_a.j0 k t633 t634 bt637.1 bt637.2 true))))))) else (y_a.j0 k t633 t634 bt637.1 bt637.2 true)))))))) = some r := H
  have A4 := z14a A40
  clear A40
  replace H := z14e.mp H
  obtain ⟨⟨t637, t638⟩, A50, H⟩ := H
  replace H : ((y_b.f k t633 t634).bind fun bt641 => ((y_xb.f k l0).bind fun t645 => ((y_wb.f k l0).bind fun t648 => (if (t638 != bt641.2) = true then (y_a.j0 k t633 t634 t637 t638 true) else ((y_x.f k t637 bt641.1).bind fun t651 => (if t651 = true then ((y_l.f k t645).bind fun t652 => ((y_q.f k t645).bind fun t653 => (if (t652 != t653) = true then (y_a.j0 k t633 t634 t637 t638 true) else ((y_t.f k t645).bind fun t654 => ((y_o.f k t645).bind fun t655 => (if t654.toList = t655.toList then ((y_f.f k t648).bind fun t656 => ((y_e.f k t648).bind fun t657 => (if t656 = t657 then ((y_j.f k t645).bind fun t658 => ((y_n.f k t645).bind fun t661 => ((y_i.f k t658 t661).bind fun t664 => (y_a.j0 k t633 t634 t637 t638 (!t664))))) else (y_a.j0 k t633 t634 t637 t638 true)))) else (y_a.j0 k t633 t634 t637 t638 true))))))) else (y_a.j0 k t633 t634 t637 t638 true))))))) = some r := H
  have A5 := z14a A50
  clear A50
  replace H := z14e.mp H
  obtain ⟨⟨t641, t642⟩, A60, H⟩ := H
  replace H : ((y_xb.f k l0).bind fun t645 => ((y_wb.f k l0).bind fun t648 => (if (t638 != t642) = true then (y_a.j0 k t633 t634 t637 t638 true) else ((y_x.f k t637 t641).bind fun t651 => (if t651 = true then ((y_l.f k t645).bind fun t652 => ((y_q.f k t645).bind fun t653 => (if (t652 != t653) = true then (y_a.j0 k t633 t634 t637 t638 true) else ((y_t.f k t645).bind fun t654 => ((y_o.f k t645).bind fun t655 => (if t654.toList = t655.toList then ((y_f.f k t648).bind fun t656 => ((y_e.f k t648).bind fun t657 => (if t656 = t657 then ((y_j.f k t645).bind fun t658 => ((y_n.f k t645).bind fun t661 => ((y_i.f k t658 t661).bind fun t664 => (y_a.j0 k t633 t634 t637 t638 (!t664))))) else (y_a.j0 k t633 t634 t637 t638 true)))) else (y_a.j0 k t633 t634 t637 t638 true))))))) else (y_a.j0 k t633 t634 t637 t638 true)))))) = some r := H
  have A6 := z14a A60
  clear A60
  replace H := z14e.mp H
  obtain ⟨t645, A70, H⟩ := H
  have A7 := z14a A70
  clear A70
  replace H := z14e.mp H
  obtain ⟨t648, A80, H⟩ := H
  have A8 := z14a A80
  clear A80
  have HC9 := z14a H
  clear H
  go_enter Try.func3, Try.ntmps3
  go_upto_region 8 with (first | ((with_reducible refine gate_callee (f := 15) rfl ?_); refine goesL_ (some 13) rfl rfl Try.func15 (by kernel_rfl) rfl #[.slice A0 l0.length c0] rfl (by (try simp only [zm14a, zm14b, zm14c]); first | done | rfl | (simp only [zm14d, zm14e]; rfl)) ?_; (with_reducible refine (y_hc.calls _ _ l0 false _ ?side1 ?side2 A2.out).mono ?_); (case side1 => repeat (first | exact HR0.out | (with_reducible refine z14j ?_ _) | (with_reducible refine z14k ?_ _) | (with_reducible refine z14l ?_))); (case side2 => exact HC0.out); rintro e w' ⟨rfl, ⟨nd, rfl⟩⟩; refine ⟨_, rfl, ?_⟩) | ((with_reducible refine gate_callee (f := 16) rfl ?_); refine goesL_ (some 16) rfl rfl Try.func16 (by kernel_rfl) rfl #[.slice A0 l0.length c0] rfl (by (try simp only [zm14a, zm14b, zm14c]); first | done | rfl | (simp only [zm14d, zm14e]; rfl)) ?_; (with_reducible refine (y_ec.calls k _ _ l0 t633 t634 _ ?side1 ?side2 A4.out).mono ?_); (case side1 => repeat (first | exact HR0.out | (with_reducible refine z14j ?_ _) | (with_reducible refine z14k ?_ _) | (with_reducible refine z14l ?_))); (case side2 => exact HC0.out); rintro e w10 ⟨v635, rfl, ho0, hb⟩; refine ⟨_, rfl, ?_⟩; have n0_ := z14a (Kd.R_lower ho0 (below_size (by repeat (first | (with_reducible first | exact HB.out | apply z14d | apply z14b | apply z14c) | exact HB.out)))); have n1_ := z14a (below_step (by repeat (first | (with_reducible first | exact HB.out | apply z14d | apply z14b | apply z14c) | exact HB.out)) hb); clear HB; have HO636 := n0_; have HB := n1_; clear n0_ n1_; (try clear hb); (try clear hb2); (try clear hk); (try clear hi); (try clear ho0); obtain ⟨Ao11, co11, eo11⟩ := Kd.R_slice HO636.out; subst eo11) | ((with_reducible refine gate_callee (f := 17) rfl ?_); refine goesL_ (some 22) rfl rfl Try.func17 (by kernel_rfl) rfl #[.slice Ao11 t633.length co11, .int .i64 t634] rfl (by (try simp only [zm14a, zm14b, zm14c]); first | done | rfl | (simp only [zm14d, zm14e]; rfl)) ?_; (with_reducible refine (y_c.calls k _ _ t633 t634 t637 t638 _ ?side1 ?side2 A5.out).mono ?_); (case side1 => repeat (first | exact (Kd.R_reads' HO636.out).2.2 | (with_reducible refine z14j ?_ _) | (with_reducible refine z14k ?_ _) | (with_reducible refine z14l ?_))); (case side2 => exact (Kd.R_reads' HO636.out).2.1); rintro e w12 ⟨v639, rfl, ho0, hb⟩; refine ⟨_, rfl, ?_⟩; have n0_ := z14a (z14i (by (with_reducible repeat (first | apply z14f | apply z14g | apply z14h)); exact HO636.out) hb); have n1_ := z14a (Kd.S_lower (Kd.S_new' ho0 (Kd.R_lt (by (with_reducible repeat (first | apply z14f | apply z14g | apply z14h)); exact HO636.out))) (below_size (by repeat (first | (with_reducible first | exact HB.out | apply z14d | apply z14b | apply z14c) | exact HB.out)))); have n2_ := z14a (below_step (by repeat (first | (with_reducible first | exact HB.out | apply z14d | apply z14b | apply z14c) | exact HB.out)) hb); clear HO636; clear HB; have HO636 := n0_; have HO640 := n1_; have HB := n2_; clear n0_ n1_ n2_; (try clear hb); (try clear hb2); (try clear hk); (try clear hi); (try clear ho0)) | ((with_reducible refine gate_callee (f := 18) rfl ?_); refine goesL_ (some 28) rfl rfl Try.func18 (by kernel_rfl) rfl #[.slice Ao11 t633.length co11, .int .i64 t634] rfl (by (try simp only [zm14a, zm14b, zm14c]); first | done | rfl | (simp only [zm14d, zm14e]; rfl)) ?_; (with_reducible refine (y_b.calls k _ _ t633 t634 t641 t642 _ ?side1 ?side2 A6.out).mono ?_); (case side1 => repeat (first | exact (Kd.R_reads' HO636.out).2.2 | (with_reducible refine z14j ?_ _) | (with_reducible refine z14k ?_ _) | (with_reducible refine z14l ?_))); (case side2 => exact (Kd.R_reads' HO636.out).2.1); rintro e w13 ⟨v643, rfl, ho0, hb⟩; refine ⟨_, rfl, ?_⟩; have n0_ := z14a (z14i (by (with_reducible repeat (first | apply z14f | apply z14g | apply z14h)); exact HO636.out) hb); have n1_ := z14a (Kd.S_elder' (by (with_reducible repeat (first | apply z14m | apply z14n | apply z14o)); exact HO640.out) (Kd.S_base ho0) hb); have n2_ := z14a (Kd.S_lower (Kd.S_new' (Kd.S_new' ho0 (Kd.R_lt (by (with_reducible repeat (first | apply z14f | apply z14g | apply z14h)); exact HO636.out))) (Kd.S_lt (by (with_reducible repeat (first | apply z14m | apply z14n | apply z14o)); exact HO640.out))) (below_size (by repeat (first | (with_reducible first | exact HB.out | apply z14d | apply z14b | apply z14c) | exact HB.out)))); have n3_ := z14a (below_step (by repeat (first | (with_reducible first | exact HB.out | apply z14d | apply z14b | apply z14c) | exact HB.out)) hb); clear HO636; clear HO640; clear HB; have HO636 := n0_; have HO640 := n1_; have HO644 := n2_; have HB := n3_; clear n0_ n1_ n2_ n3_; (try clear hb); (try clear hb2); (try clear hk); (try clear hi); (try clear ho0)) | ((with_reducible refine gate_callee (f := 19) rfl ?_); refine goesL_ (some 32) rfl rfl Try.func19 (by kernel_rfl) rfl #[.slice A0 l0.length c0] rfl (by (try simp only [zm14a, zm14b, zm14c]); first | done | rfl | (simp only [zm14d, zm14e]; rfl)) ?_; (with_reducible refine (y_xb.calls k _ _ l0 t645 _ ?side1 ?side2 A7.out).mono ?_); (case side1 => repeat (first | exact (Kd.C_below HR0.out HB.out) | (with_reducible refine z14j ?_ _) | (with_reducible refine z14k ?_ _) | (with_reducible refine z14l ?_))); (case side2 => exact HC0.out); rintro e w14 ⟨v646, rfl, ho0, hb⟩; refine ⟨_, rfl, ?_⟩; have n0_ := z14a (z14i (by (with_reducible repeat (first | apply z14f | apply z14g | apply z14h)); exact HO636.out) hb); have n1_ := z14a (Kd.S_elder' (by (with_reducible repeat (first | apply z14m | apply z14n | apply z14o)); exact HO640.out) (Kd.S_base ho0) hb); have n2_ := z14a (Kd.S_elder' (by (with_reducible repeat (first | apply z14m | apply z14n | apply z14o)); exact HO644.out) (Kd.S_base ho0) hb); have n3_ := z14a (Kd.S_lower (Kd.S_new' (Kd.S_new' (Kd.S_new' ho0 (Kd.R_lt (by (with_reducible repeat (first | apply z14f | apply z14g | apply z14h)); exact HO636.out))) (Kd.S_lt (by (with_reducible repeat (first | apply z14m | apply z14n | apply z14o)); exact HO640.out))) (Kd.S_lt (by (with_reducible repeat (first | apply z14m | apply z14n | apply z14o)); exact HO644.out))) (below_size (by repeat (first | (with_reducible first | exact HB.out | apply z14d | apply z14b | apply z14c) | exact HB.out)))); have n4_ := z14a (below_step (by repeat (first | (with_reducible first | exact HB.out | apply z14d | apply z14b | apply z14c) | exact HB.out)) hb); clear HO636; clear HO640; clear HO644; clear HB; have HO636 := n0_; have HO640 := n1_; have HO644 := n2_; have HO647 := n3_; have HB := n4_; clear n0_ n1_ n2_ n3_ n4_; (try clear hb); (try clear hb2); (try clear hk); (try clear hi); (try clear ho0)) | ((with_reducible refine gate_callee (f := 20) rfl ?_); refine goesL_ (some 34) rfl rfl Try.func20 (by kernel_rfl) rfl #[.slice A0 l0.length c0] rfl (by (try simp only [zm14a, zm14b, zm14c]); first | done | rfl | (simp only [zm14d, zm14e]; rfl)) ?_; (with_reducible refine (y_wb.calls k _ _ l0 t648 _ ?side1 ?side2 A8.out).mono ?_); (case side1 => repeat (first | exact (Kd.C_below HR0.out HB.out) | (with_reducible refine z14j ?_ _) | (with_reducible refine z14k ?_ _) | (with_reducible refine z14l ?_))); (case side2 => exact HC0.out); rintro e w15 ⟨v649, rfl, ho0, hb⟩; refine ⟨_, rfl, ?_⟩; have n0_ := z14a (Kd.R_elder' (by (with_reducible repeat (first | apply z14f | apply z14g | apply z14h)); exact HO636.out) (Kd.R_base ho0) hb); have n1_ := z14a (Kd.S_elder' (by (with_reducible repeat (first | apply z14m | apply z14n | apply z14o)); exact HO640.out) (Kd.R_base ho0) hb); have n2_ := z14a (Kd.S_elder' (by (with_reducible repeat (first | apply z14m | apply z14n | apply z14o)); exact HO644.out) (Kd.R_base ho0) hb); have n3_ := z14a (Kd.S_elder' (by (with_reducible repeat (first | apply z14m | apply z14n | apply z14o)); exact HO647.out) (Kd.R_base ho0) hb); have n4_ := z14a (Kd.R_lower (Kd.R_new' ho0 (Kd.R_lt (by (with_reducible repeat (first | apply z14f | apply z14g | apply z14h)); exact HO636.out))) (below_size (by repeat (first | (with_reducible first | exact HB.out | apply z14d | apply z14b | apply z14c) | exact HB.out)))); have n5_ := z14a (below_step (by repeat (first | (with_reducible first | exact HB.out | apply z14d | apply z14b | apply z14c) | exact HB.out)) hb); clear HO636; clear HO640; clear HO644; clear HO647; clear HB; have HO636 := n0_; have HO640 := n1_; have HO644 := n2_; have HO647 := n3_; have HO650 := n4_; have HB := n5_; clear n0_ n1_ n2_ n3_ n4_ n5_; (try clear hb); (try clear hb2); (try clear hk); (try clear hi); (try clear ho0)))
  (try simp only [Act.put, List.setIfInBounds_toArray, List.set_cons_zero, List.set_cons_succ])
  go_cut [72] (fun v72 wc => ∃ (kq : Nat) (x72_8 : Bool), v72 = .bool x72_8 ∧ Aside0 (y_a.j0 kq t633 t634 t637 t638 x72_8 = some r) ∧ Aside0 (kq ≤ k) ∧ Aside0 (Kd.R k71 71 wc w.heap.size (fun _ => True) (.slice Ao11 t633.length co11) t633) ∧ Aside0 (Kd.S k39 39 wc w.heap.size (fun k_ => some k_ ≠ ((.slice Ao11 t633.length co11) : Value).ownBlock) v639 t637) ∧ Aside0 (Below w.heap.size w wc))
  case first =>
   have H := HC9.out
   clear HC9
   by_cases c16 : (t638 != t642) = true
   ·rw [if_pos c16] at H
    have c16b0 : (t638 != t642) = true := c16
    (try (have c16b1 : decide (t638 = t642) = false := by simpa using c16))
    (try (have c16b2 : (t638 == t642) = false := by simpa using c16))
    (try (have c16b3 : ¬ (t638 = t642) := by simpa using c16))
    clear c16
    (first | rw [c16b0] | (simp only [i64_w, i32_w]; rw [c16b0]) | skip)
    have H' := z14a H
    clear H
    go_wp2
    go_meet
    case rel => exact ⟨_, (true), (by first | rfl | (simp; done) | (simp [*]; done)), H', ⟨by first | omega | exact Nat.le_refl _⟩, ⟨by (with_reducible repeat (first | apply z14f | apply z14g | apply z14h)); exact Kd.R_mono HO636.out (fun _ hk => trivial)⟩, ⟨by (with_reducible repeat (first | apply z14m | apply z14n | apply z14o)); exact Kd.S_mono HO640.out (fun _ hk => hk.1.1.1.2)⟩, ⟨by repeat (first | (with_reducible first | exact HB.out | apply z14d | apply z14b | apply z14c) | exact HB.out)⟩⟩
   ·rw [if_neg c16] at H
    have c16b0 : (t638 != t642) = false := by simpa using c16
    (try (have c16b1 : decide (t638 = t642) = true := by simpa using c16))
    (try (have c16b2 : (t638 == t642) = true := by simpa using c16))
    clear c16
    (first | rw [c16b0] | (simp only [i64_w, i32_w]; rw [c16b0]) | skip)
    replace H := z14e.mp H
    obtain ⟨t651, A170, H⟩ := H
    have A17 := z14a A170
    clear A170
    by_cases c18 : t651 = true
    ·subst c18
     rw [if_pos rfl] at H
     replace H := z14e.mp H
     obtain ⟨t652, A190, H⟩ := H
     have A19 := z14a A190
     clear A190
     replace H := z14e.mp H
     obtain ⟨t653, A200, H⟩ := H
     have A20 := z14a A200
     clear A200
     by_cases c21 : (t652 != t653) = true
     ·rw [if_pos c21] at H
      have c21b0 : (t652 != t653) = true := c21
      (try (have c21b1 : decide (t652 = t653) = false := by simpa using c21))
      (try (have c21b2 : (t652 == t653) = false := by simpa using c21))
      (try (have c21b3 : ¬ (t652 = t653) := by simpa using c21))
      clear c21
      have H' := z14a H
      clear H
      obtain ⟨Ao22, co22, eo22⟩ := Kd.S_slice HO640.out
      subst eo22
      obtain ⟨Ao23, co23, eo23⟩ := Kd.S_slice HO644.out
      subst eo23
      go_wp2_with (first | (go_at_call 21; (with_reducible refine (y_x.calls k _ _ t637 _ _ t641 true _ ?side1 ?side2 ?side3 ?side4 A17.out).mono ?_); (case side1 => repeat (first | exact (Kd.S_reads' HO640.out).2.2 | (with_reducible refine z14j ?_ _) | (with_reducible refine z14k ?_ _) | (with_reducible refine z14l ?_))); (case side2 => exact (Kd.S_reads' HO640.out).2.1); (case side3 => repeat (first | exact (Kd.S_reads' HO644.out).2.2 | (with_reducible refine z14j ?_ _) | (with_reducible refine z14k ?_ _) | (with_reducible refine z14l ?_))); (case side4 => exact (Kd.S_reads' HO644.out).2.1); rintro e w' ⟨rfl, ⟨nd, rfl⟩⟩; obtain ⟨Ao24, co24, eo24⟩ := Kd.S_slice HO647.out; subst eo24) | (go_at_call 22; (with_reducible refine (y_l.calls k _ _ t645 t652 _ ?side1 ?side2 A19.out).mono ?_); (case side1 => repeat (first | exact (Kd.S_reads' HO647.out).2.2 | (with_reducible refine z14j ?_ _) | (with_reducible refine z14k ?_ _) | (with_reducible refine z14l ?_))); (case side2 => exact (Kd.S_reads' HO647.out).2.1); rintro e w25 ⟨rfl, hb⟩; have n0_ := z14a (z14i (by (with_reducible repeat (first | apply z14f | apply z14g | apply z14h)); exact HO636.out) hb); have n1_ := z14a (z14p (by (with_reducible repeat (first | apply z14m | apply z14n | apply z14o)); exact HO640.out) hb); have n2_ := z14a (z14p (by (with_reducible repeat (first | apply z14m | apply z14n | apply z14o)); exact HO644.out) hb); have n3_ := z14a (z14p (by (with_reducible repeat (first | apply z14m | apply z14n | apply z14o)); exact HO647.out) hb); have n4_ := z14a (z14i (by (with_reducible repeat (first | apply z14f | apply z14g | apply z14h)); exact HO650.out) hb); have n5_ := z14a (below_step (by repeat (first | (with_reducible first | exact HB.out | apply z14d | apply z14b | apply z14c) | exact HB.out)) hb); clear HO636; clear HO640; clear HO644; clear HO647; clear HO650; clear HB; have HO636 := n0_; have HO640 := n1_; have HO644 := n2_; have HO647 := n3_; have HO650 := n4_; have HB := n5_; clear n0_ n1_ n2_ n3_ n4_ n5_; (try clear hb); (try clear hb2); (try clear hk); (try clear hi)) | (go_at_call 23; (with_reducible refine (y_q.calls k _ _ t645 t653 _ ?side1 ?side2 A20.out).mono ?_); (case side1 => repeat (first | exact (Kd.S_reads' HO647.out).2.2 | (with_reducible refine z14j ?_ _) | (with_reducible refine z14k ?_ _) | (with_reducible refine z14l ?_))); (case side2 => exact (Kd.S_reads' HO647.out).2.1); rintro e w26 ⟨rfl, hb⟩; have n0_ := z14a (z14i (by (with_reducible repeat (first | apply z14f | apply z14g | apply z14h)); exact HO636.out) hb); have n1_ := z14a (z14p (by (with_reducible repeat (first | apply z14m | apply z14n | apply z14o)); exact HO640.out) hb); have n2_ := z14a (z14p (by (with_reducible repeat (first | apply z14m | apply z14n | apply z14o)); exact HO644.out) hb); have n3_ := z14a (z14p (by (with_reducible repeat (first | apply z14m | apply z14n | apply z14o)); exact HO647.out) hb); have n4_ := z14a (z14i (by (with_reducible repeat (first | apply z14f | apply z14g | apply z14h)); exact HO650.out) hb); have n5_ := z14a (below_step (by repeat (first | (with_reducible first | exact HB.out | apply z14d | apply z14b | apply z14c) | exact HB.out)) hb); clear HO636; clear HO640; clear HO644; clear HO647; clear HO650; clear HB; have HO636 := n0_; have HO640 := n1_; have HO644 := n2_; have HO647 := n3_; have HO650 := n4_; have HB := n5_; clear n0_ n1_ n2_ n3_ n4_ n5_; (try clear hb); (try clear hb2); (try clear hk); (try clear hi)))
      go_meet
      case rel => exact ⟨_, (true), (by first | rfl | (simp; done) | (simp [*]; done)), H', ⟨by first | omega | exact Nat.le_refl _⟩, ⟨by (with_reducible repeat (first | apply z14f | apply z14g | apply z14h)); exact Kd.R_mono HO636.out (fun _ hk => trivial)⟩, ⟨by (with_reducible repeat (first | apply z14m | apply z14n | apply z14o)); exact Kd.S_mono HO640.out (fun _ hk => hk.1.1.1.2)⟩, ⟨by repeat (first | (with_reducible first | exact HB.out | apply z14d | apply z14b | apply z14c) | exact HB.out)⟩⟩
     ·rw [if_neg c21] at H
      have c21b0 : (t652 != t653) = false := by simpa using c21
      (try (have c21b1 : decide (t652 = t653) = true := by simpa using c21))
      (try (have c21b2 : (t652 == t653) = true := by simpa using c21))
      clear c21
      replace H := z14e.mp H
      obtain ⟨t654, A270, H⟩ := H
      have A27 := z14a A270
      clear A270
      replace H := z14e.mp H
      obtain ⟨t655, A280, H⟩ := H
      have A28 := z14a A280
      clear A280
      by_cases c29 : t654.toList = t655.toList
      ·rw [if_pos c29] at H
       have c29b0 : (t654.toList == t655.toList) = true := beq_iff_eq.mpr c29
       have c29b1 : (t654.toList != t655.toList) = false := bne_eq_false_iff_eq.mpr c29
       clear c29
       replace H := z14e.mp H
       obtain ⟨t656, A300, H⟩ := H
       have A30 := z14a A300
       clear A300
       replace H := z14e.mp H
       obtain ⟨t657, A310, H⟩ := H
       have A31 := z14a A310
       clear A310
       by_cases c32 : t656 = t657
       ·rw [if_pos c32] at H
        have c32b0 : (t656 == t657) = true := beq_iff_eq.mpr c32
        have c32b1 : (t656 != t657) = false := bne_eq_false_iff_eq.mpr c32
        clear c32
        replace H := z14e.mp H
        obtain ⟨t658, A330, H⟩ := H
        have A33 := z14a A330
        clear A330
        replace H := z14e.mp H
        obtain ⟨t661, A340, H⟩ := H
        have A34 := z14a A340
        clear A340
        replace H := z14e.mp H
        obtain ⟨t664, A350, H⟩ := H
        have A35 := z14a A350
        clear A350
        have H' := z14a H
        clear H
        obtain ⟨Ao36, co36, eo36⟩ := Kd.S_slice HO640.out
        subst eo36
        obtain ⟨Ao37, co37, eo37⟩ := Kd.S_slice HO644.out
        subst eo37
        go_wp2_with (first | (go_at_call 21; (with_reducible refine (y_x.calls k _ _ t637 _ _ t641 true _ ?side1 ?side2 ?side3 ?side4 A17.out).mono ?_); (case side1 => repeat (first | exact (Kd.S_reads' HO640.out).2.2 | (with_reducible refine z14j ?_ _) | (with_reducible refine z14k ?_ _) | (with_reducible refine z14l ?_))); (case side2 => exact (Kd.S_reads' HO640.out).2.1); (case side3 => repeat (first | exact (Kd.S_reads' HO644.out).2.2 | (with_reducible refine z14j ?_ _) | (with_reducible refine z14k ?_ _) | (with_reducible refine z14l ?_))); (case side4 => exact (Kd.S_reads' HO644.out).2.1); rintro e w' ⟨rfl, ⟨nd, rfl⟩⟩; obtain ⟨Ao38, co38, eo38⟩ := Kd.S_slice HO647.out; subst eo38) | (go_at_call 22; (with_reducible refine (y_l.calls k _ _ t645 t652 _ ?side1 ?side2 A19.out).mono ?_); (case side1 => repeat (first | exact (Kd.S_reads' HO647.out).2.2 | (with_reducible refine z14j ?_ _) | (with_reducible refine z14k ?_ _) | (with_reducible refine z14l ?_))); (case side2 => exact (Kd.S_reads' HO647.out).2.1); rintro e w39 ⟨rfl, hb⟩; have n0_ := z14a (z14i (by (with_reducible repeat (first | apply z14f | apply z14g | apply z14h)); exact HO636.out) hb); have n1_ := z14a (z14p (by (with_reducible repeat (first | apply z14m | apply z14n | apply z14o)); exact HO640.out) hb); have n2_ := z14a (z14p (by (with_reducible repeat (first | apply z14m | apply z14n | apply z14o)); exact HO644.out) hb); have n3_ := z14a (z14p (by (with_reducible repeat (first | apply z14m | apply z14n | apply z14o)); exact HO647.out) hb); have n4_ := z14a (z14i (by (with_reducible repeat (first | apply z14f | apply z14g | apply z14h)); exact HO650.out) hb); have n5_ := z14a (below_step (by repeat (first | (with_reducible first | exact HB.out | apply z14d | apply z14b | apply z14c) | exact HB.out)) hb); clear HO636; clear HO640; clear HO644; clear HO647; clear HO650; clear HB; have HO636 := n0_; have HO640 := n1_; have HO644 := n2_; have HO647 := n3_; have HO650 := n4_; have HB := n5_; clear n0_ n1_ n2_ n3_ n4_ n5_; (try clear hb); (try clear hb2); (try clear hk); (try clear hi)) | (go_at_call 23; (with_reducible refine (y_q.calls k _ _ t645 t653 _ ?side1 ?side2 A20.out).mono ?_); (case side1 => repeat (first | exact (Kd.S_reads' HO647.out).2.2 | (with_reducible refine z14j ?_ _) | (with_reducible refine z14k ?_ _) | (with_reducible refine z14l ?_))); (case side2 => exact (Kd.S_reads' HO647.out).2.1); rintro e w40 ⟨rfl, hb⟩; have n0_ := z14a (z14i (by (with_reducible repeat (first | apply z14f | apply z14g | apply z14h)); exact HO636.out) hb); have n1_ := z14a (z14p (by (with_reducible repeat (first | apply z14m | apply z14n | apply z14o)); exact HO640.out) hb); have n2_ := z14a (z14p (by (with_reducible repeat (first | apply z14m | apply z14n | apply z14o)); exact HO644.out) hb); have n3_ := z14a (z14p (by (with_reducible repeat (first | apply z14m | apply z14n | apply z14o)); exact HO647.out) hb); have n4_ := z14a (z14i (by (with_reducible repeat (first | apply z14f | apply z14g | apply z14h)); exact HO650.out) hb); have n5_ := z14a (below_step (by repeat (first | (with_reducible first | exact HB.out | apply z14d | apply z14b | apply z14c) | exact HB.out)) hb); clear HO636; clear HO640; clear HO644; clear HO647; clear HO650; clear HB; have HO636 := n0_; have HO640 := n1_; have HO644 := n2_; have HO647 := n3_; have HO650 := n4_; have HB := n5_; clear n0_ n1_ n2_ n3_ n4_ n5_; (try clear hb); (try clear hb2); (try clear hk); (try clear hi)) | (go_at_call 24; (with_reducible refine (y_t.calls k _ _ t645 t654 _ ?side1 ?side2 A27.out).mono ?_); (case side1 => repeat (first | exact (Kd.S_reads' HO647.out).2.2 | (with_reducible refine z14j ?_ _) | (with_reducible refine z14k ?_ _) | (with_reducible refine z14l ?_))); (case side2 => exact (Kd.S_reads' HO647.out).2.1); rintro e w41 ⟨rfl, hb⟩; have n0_ := z14a (z14i (by (with_reducible repeat (first | apply z14f | apply z14g | apply z14h)); exact HO636.out) hb); have n1_ := z14a (z14p (by (with_reducible repeat (first | apply z14m | apply z14n | apply z14o)); exact HO640.out) hb); have n2_ := z14a (z14p (by (with_reducible repeat (first | apply z14m | apply z14n | apply z14o)); exact HO644.out) hb); have n3_ := z14a (z14p (by (with_reducible repeat (first | apply z14m | apply z14n | apply z14o)); exact HO647.out) hb); have n4_ := z14a (z14i (by (with_reducible repeat (first | apply z14f | apply z14g | apply z14h)); exact HO650.out) hb); have n5_ := z14a (below_step (by repeat (first | (with_reducible first | exact HB.out | apply z14d | apply z14b | apply z14c) | exact HB.out)) hb); clear HO636; clear HO640; clear HO644; clear HO647; clear HO650; clear HB; have HO636 := n0_; have HO640 := n1_; have HO644 := n2_; have HO647 := n3_; have HO650 := n4_; have HB := n5_; clear n0_ n1_ n2_ n3_ n4_ n5_; (try clear hb); (try clear hb2); (try clear hk); (try clear hi)) | (go_at_call 25; (with_reducible refine (y_o.calls k _ _ t645 t655 _ ?side1 ?side2 A28.out).mono ?_); (case side1 => repeat (first | exact (Kd.S_reads' HO647.out).2.2 | (with_reducible refine z14j ?_ _) | (with_reducible refine z14k ?_ _) | (with_reducible refine z14l ?_))); (case side2 => exact (Kd.S_reads' HO647.out).2.1); rintro e w42 ⟨rfl, hb⟩; have n0_ := z14a (z14i (by (with_reducible repeat (first | apply z14f | apply z14g | apply z14h)); exact HO636.out) hb); have n1_ := z14a (z14p (by (with_reducible repeat (first | apply z14m | apply z14n | apply z14o)); exact HO640.out) hb); have n2_ := z14a (z14p (by (with_reducible repeat (first | apply z14m | apply z14n | apply z14o)); exact HO644.out) hb); have n3_ := z14a (z14p (by (with_reducible repeat (first | apply z14m | apply z14n | apply z14o)); exact HO647.out) hb); have n4_ := z14a (z14i (by (with_reducible repeat (first | apply z14f | apply z14g | apply z14h)); exact HO650.out) hb); have n5_ := z14a (below_step (by repeat (first | (with_reducible first | exact HB.out | apply z14d | apply z14b | apply z14c) | exact HB.out)) hb); clear HO636; clear HO640; clear HO644; clear HO647; clear HO650; clear HB; have HO636 := n0_; have HO640 := n1_; have HO644 := n2_; have HO647 := n3_; have HO650 := n4_; have HB := n5_; clear n0_ n1_ n2_ n3_ n4_ n5_; (try clear hb); (try clear hb2); (try clear hk); (try clear hi); obtain ⟨Ao43, co43, eo43⟩ := Kd.R_slice HO650.out; subst eo43) | (go_at_call 26; (with_reducible refine (y_f.calls k _ _ t648 t656 _ ?side1 ?side2 A30.out).mono ?_); (case side1 => repeat (first | exact (Kd.R_reads' HO650.out).2.2 | (with_reducible refine z14j ?_ _) | (with_reducible refine z14k ?_ _) | (with_reducible refine z14l ?_))); (case side2 => exact (Kd.R_reads' HO650.out).2.1); rintro e w44 ⟨rfl, hb⟩; have n0_ := z14a (z14i (by (with_reducible repeat (first | apply z14f | apply z14g | apply z14h)); exact HO636.out) hb); have n1_ := z14a (z14p (by (with_reducible repeat (first | apply z14m | apply z14n | apply z14o)); exact HO640.out) hb); have n2_ := z14a (z14p (by (with_reducible repeat (first | apply z14m | apply z14n | apply z14o)); exact HO644.out) hb); have n3_ := z14a (z14p (by (with_reducible repeat (first | apply z14m | apply z14n | apply z14o)); exact HO647.out) hb); have n4_ := z14a (z14i (by (with_reducible repeat (first | apply z14f | apply z14g | apply z14h)); exact HO650.out) hb); have n5_ := z14a (below_step (by repeat (first | (with_reducible first | exact HB.out | apply z14d | apply z14b | apply z14c) | exact HB.out)) hb); clear HO636; clear HO640; clear HO644; clear HO647; clear HO650; clear HB; have HO636 := n0_; have HO640 := n1_; have HO644 := n2_; have HO647 := n3_; have HO650 := n4_; have HB := n5_; clear n0_ n1_ n2_ n3_ n4_ n5_; (try clear hb); (try clear hb2); (try clear hk); (try clear hi)) | (go_at_call 27; (with_reducible refine (y_e.calls k _ _ t648 t657 _ ?side1 ?side2 A31.out).mono ?_); (case side1 => repeat (first | exact (Kd.R_reads' HO650.out).2.2 | (with_reducible refine z14j ?_ _) | (with_reducible refine z14k ?_ _) | (with_reducible refine z14l ?_))); (case side2 => exact (Kd.R_reads' HO650.out).2.1); rintro e w45 ⟨rfl, hb⟩; have n0_ := z14a (z14i (by (with_reducible repeat (first | apply z14f | apply z14g | apply z14h)); exact HO636.out) hb); have n1_ := z14a (z14p (by (with_reducible repeat (first | apply z14m | apply z14n | apply z14o)); exact HO640.out) hb); have n2_ := z14a (z14p (by (with_reducible repeat (first | apply z14m | apply z14n | apply z14o)); exact HO644.out) hb); have n3_ := z14a (z14p (by (with_reducible repeat (first | apply z14m | apply z14n | apply z14o)); exact HO647.out) hb); have n4_ := z14a (z14i (by (with_reducible repeat (first | apply z14f | apply z14g | apply z14h)); exact HO650.out) hb); have n5_ := z14a (below_step (by repeat (first | (with_reducible first | exact HB.out | apply z14d | apply z14b | apply z14c) | exact HB.out)) hb); clear HO636; clear HO640; clear HO644; clear HO647; clear HO650; clear HB; have HO636 := n0_; have HO640 := n1_; have HO644 := n2_; have HO647 := n3_; have HO650 := n4_; have HB := n5_; clear n0_ n1_ n2_ n3_ n4_ n5_; (try clear hb); (try clear hb2); (try clear hk); (try clear hi)) | (go_at_call 29; (with_reducible refine (y_j.calls k _ _ t645 t658 _ ?side1 ?side2 A33.out).mono ?_); (case side1 => repeat (first | exact (Kd.S_reads' HO647.out).2.2 | (with_reducible refine z14j ?_ _) | (with_reducible refine z14k ?_ _) | (with_reducible refine z14l ?_))); (case side2 => exact (Kd.S_reads' HO647.out).2.1); rintro e w46 ⟨v659, rfl, ho0, hb⟩; have n0_ := z14a (Kd.R_elder' (by (with_reducible repeat (first | apply z14f | apply z14g | apply z14h)); exact HO636.out) (Kd.R_base ho0) hb); have n1_ := z14a (Kd.S_elder' (by (with_reducible repeat (first | apply z14m | apply z14n | apply z14o)); exact HO640.out) (Kd.R_base ho0) hb); have n2_ := z14a (Kd.S_elder' (by (with_reducible repeat (first | apply z14m | apply z14n | apply z14o)); exact HO644.out) (Kd.R_base ho0) hb); have n3_ := z14a (Kd.S_elder' (by (with_reducible repeat (first | apply z14m | apply z14n | apply z14o)); exact HO647.out) (Kd.R_base ho0) hb); have n4_ := z14a (Kd.R_elder' (by (with_reducible repeat (first | apply z14f | apply z14g | apply z14h)); exact HO650.out) (Kd.R_base ho0) hb); have n5_ := z14a (Kd.R_lower (Kd.R_new' (Kd.R_new' ho0 (Kd.R_lt (by (with_reducible repeat (first | apply z14f | apply z14g | apply z14h)); exact HO636.out))) (Kd.R_lt (by (with_reducible repeat (first | apply z14f | apply z14g | apply z14h)); exact HO650.out))) (below_size (by repeat (first | (with_reducible first | exact HB.out | apply z14d | apply z14b | apply z14c) | exact HB.out)))); have n6_ := z14a (below_step (by repeat (first | (with_reducible first | exact HB.out | apply z14d | apply z14b | apply z14c) | exact HB.out)) hb); clear HO636; clear HO640; clear HO644; clear HO647; clear HO650; clear HB; have HO636 := n0_; have HO640 := n1_; have HO644 := n2_; have HO647 := n3_; have HO650 := n4_; have HO660 := n5_; have HB := n6_; clear n0_ n1_ n2_ n3_ n4_ n5_ n6_; (try clear hb); (try clear hb2); (try clear hk); (try clear hi); (try clear ho0)) | (go_at_call 30; (with_reducible refine (y_n.calls k _ _ t645 t661 _ ?side1 ?side2 A34.out).mono ?_); (case side1 => repeat (first | exact (Kd.S_reads' HO647.out).2.2 | (with_reducible refine z14j ?_ _) | (with_reducible refine z14k ?_ _) | (with_reducible refine z14l ?_))); (case side2 => exact (Kd.S_reads' HO647.out).2.1); rintro e w47 ⟨v662, rfl, ho0, hb⟩; have n0_ := z14a (Kd.R_elder' (by (with_reducible repeat (first | apply z14f | apply z14g | apply z14h)); exact HO636.out) (Kd.R_base ho0) hb); have n1_ := z14a (Kd.S_elder' (by (with_reducible repeat (first | apply z14m | apply z14n | apply z14o)); exact HO640.out) (Kd.R_base ho0) hb); have n2_ := z14a (Kd.S_elder' (by (with_reducible repeat (first | apply z14m | apply z14n | apply z14o)); exact HO644.out) (Kd.R_base ho0) hb); have n3_ := z14a (Kd.S_elder' (by (with_reducible repeat (first | apply z14m | apply z14n | apply z14o)); exact HO647.out) (Kd.R_base ho0) hb); have n4_ := z14a (Kd.R_elder' (by (with_reducible repeat (first | apply z14f | apply z14g | apply z14h)); exact HO650.out) (Kd.R_base ho0) hb); have n5_ := z14a (Kd.R_elder' (by (with_reducible repeat (first | apply z14f | apply z14g | apply z14h)); exact HO660.out) (Kd.R_base ho0) hb); have n6_ := z14a (Kd.R_lower (Kd.R_new' (Kd.R_new' (Kd.R_new' ho0 (Kd.R_lt (by (with_reducible repeat (first | apply z14f | apply z14g | apply z14h)); exact HO636.out))) (Kd.R_lt (by (with_reducible repeat (first | apply z14f | apply z14g | apply z14h)); exact HO650.out))) (Kd.R_lt (by (with_reducible repeat (first | apply z14f | apply z14g | apply z14h)); exact HO660.out))) (below_size (by repeat (first | (with_reducible first | exact HB.out | apply z14d | apply z14b | apply z14c) | exact HB.out)))); have n7_ := z14a (below_step (by repeat (first | (with_reducible first | exact HB.out | apply z14d | apply z14b | apply z14c) | exact HB.out)) hb); clear HO636; clear HO640; clear HO644; clear HO647; clear HO650; clear HO660; clear HB; have HO636 := n0_; have HO640 := n1_; have HO644 := n2_; have HO647 := n3_; have HO650 := n4_; have HO660 := n5_; have HO663 := n6_; have HB := n7_; clear n0_ n1_ n2_ n3_ n4_ n5_ n6_ n7_; (try clear hb); (try clear hb2); (try clear hk); (try clear hi); (try clear ho0); obtain ⟨Ao48, co48, eo48⟩ := Kd.R_slice HO660.out; subst eo48; obtain ⟨Ao49, co49, eo49⟩ := Kd.R_slice HO663.out; subst eo49) | (go_at_call 28; (with_reducible refine (y_i.calls k _ _ t658 _ _ t661 t664 _ ?side1 ?side2 ?side3 ?side4 A35.out).mono ?_); (case side1 => repeat (first | exact (Kd.R_reads' HO660.out).2.2 | (with_reducible refine z14j ?_ _) | (with_reducible refine z14k ?_ _) | (with_reducible refine z14l ?_))); (case side2 => exact (Kd.R_reads' HO660.out).2.1); (case side3 => repeat (first | exact (Kd.R_reads' HO663.out).2.2 | (with_reducible refine z14j ?_ _) | (with_reducible refine z14k ?_ _) | (with_reducible refine z14l ?_))); (case side4 => exact (Kd.R_reads' HO663.out).2.1); rintro e w' ⟨rfl, ⟨nd, rfl⟩⟩))
        go_meet
        case rel => exact ⟨_, (!t664), (by first | rfl | (simp; done) | (simp [*]; done)), H', ⟨by first | omega | exact Nat.le_refl _⟩, ⟨by (with_reducible repeat (first | apply z14f | apply z14g | apply z14h)); exact Kd.R_mono HO636.out (fun _ hk => trivial)⟩, ⟨by (with_reducible repeat (first | apply z14m | apply z14n | apply z14o)); exact Kd.S_mono HO640.out (fun _ hk => hk.1.1.1.1.1.2)⟩, ⟨by repeat (first | (with_reducible first | exact HB.out | apply z14d | apply z14b | apply z14c) | exact HB.out)⟩⟩
       ·rw [if_neg c32] at H
        have c32b0 : (t656 == t657) = false := beq_eq_false_iff_ne.mpr c32
        have c32b1 : (t656 != t657) = true := bne_iff_ne.mpr c32
        have H' := z14a H
        clear H
        obtain ⟨Ao50, co50, eo50⟩ := Kd.S_slice HO640.out
        subst eo50
        obtain ⟨Ao51, co51, eo51⟩ := Kd.S_slice HO644.out
        subst eo51
        go_wp2_with (first | (go_at_call 21; (with_reducible refine (y_x.calls k _ _ t637 _ _ t641 true _ ?side1 ?side2 ?side3 ?side4 A17.out).mono ?_); (case side1 => repeat (first | exact (Kd.S_reads' HO640.out).2.2 | (with_reducible refine z14j ?_ _) | (with_reducible refine z14k ?_ _) | (with_reducible refine z14l ?_))); (case side2 => exact (Kd.S_reads' HO640.out).2.1); (case side3 => repeat (first | exact (Kd.S_reads' HO644.out).2.2 | (with_reducible refine z14j ?_ _) | (with_reducible refine z14k ?_ _) | (with_reducible refine z14l ?_))); (case side4 => exact (Kd.S_reads' HO644.out).2.1); rintro e w' ⟨rfl, ⟨nd, rfl⟩⟩; obtain ⟨Ao52, co52, eo52⟩ := Kd.S_slice HO647.out; subst eo52) | (go_at_call 22; (with_reducible refine (y_l.calls k _ _ t645 t652 _ ?side1 ?side2 A19.out).mono ?_); (case side1 => repeat (first | exact (Kd.S_reads' HO647.out).2.2 | (with_reducible refine z14j ?_ _) | (with_reducible refine z14k ?_ _) | (with_reducible refine z14l ?_))); (case side2 => exact (Kd.S_reads' HO647.out).2.1); rintro e w53 ⟨rfl, hb⟩; have n0_ := z14a (z14i (by (with_reducible repeat (first | apply z14f | apply z14g | apply z14h)); exact HO636.out) hb); have n1_ := z14a (z14p (by (with_reducible repeat (first | apply z14m | apply z14n | apply z14o)); exact HO640.out) hb); have n2_ := z14a (z14p (by (with_reducible repeat (first | apply z14m | apply z14n | apply z14o)); exact HO644.out) hb); have n3_ := z14a (z14p (by (with_reducible repeat (first | apply z14m | apply z14n | apply z14o)); exact HO647.out) hb); have n4_ := z14a (z14i (by (with_reducible repeat (first | apply z14f | apply z14g | apply z14h)); exact HO650.out) hb); have n5_ := z14a (below_step (by repeat (first | (with_reducible first | exact HB.out | apply z14d | apply z14b | apply z14c) | exact HB.out)) hb); clear HO636; clear HO640; clear HO644; clear HO647; clear HO650; clear HB; have HO636 := n0_; have HO640 := n1_; have HO644 := n2_; have HO647 := n3_; have HO650 := n4_; have HB := n5_; clear n0_ n1_ n2_ n3_ n4_ n5_; (try clear hb); (try clear hb2); (try clear hk); (try clear hi)) | (go_at_call 23; (with_reducible refine (y_q.calls k _ _ t645 t653 _ ?side1 ?side2 A20.out).mono ?_); (case side1 => repeat (first | exact (Kd.S_reads' HO647.out).2.2 | (with_reducible refine z14j ?_ _) | (with_reducible refine z14k ?_ _) | (with_reducible refine z14l ?_))); (case side2 => exact (Kd.S_reads' HO647.out).2.1); rintro e w54 ⟨rfl, hb⟩; have n0_ := z14a (z14i (by (with_reducible repeat (first | apply z14f | apply z14g | apply z14h)); exact HO636.out) hb); have n1_ := z14a (z14p (by (with_reducible repeat (first | apply z14m | apply z14n | apply z14o)); exact HO640.out) hb); have n2_ := z14a (z14p (by (with_reducible repeat (first | apply z14m | apply z14n | apply z14o)); exact HO644.out) hb); have n3_ := z14a (z14p (by (with_reducible repeat (first | apply z14m | apply z14n | apply z14o)); exact HO647.out) hb); have n4_ := z14a (z14i (by (with_reducible repeat (first | apply z14f | apply z14g | apply z14h)); exact HO650.out) hb); have n5_ := z14a (below_step (by repeat (first | (with_reducible first | exact HB.out | apply z14d | apply z14b | apply z14c) | exact HB.out)) hb); clear HO636; clear HO640; clear HO644; clear HO647; clear HO650; clear HB; have HO636 := n0_; have HO640 := n1_; have HO644 := n2_; have HO647 := n3_; have HO650 := n4_; have HB := n5_; clear n0_ n1_ n2_ n3_ n4_ n5_; (try clear hb); (try clear hb2); (try clear hk); (try clear hi)) | (go_at_call 24; (with_reducible refine (y_t.calls k _ _ t645 t654 _ ?side1 ?side2 A27.out).mono ?_); (case side1 => repeat (first | exact (Kd.S_reads' HO647.out).2.2 | (with_reducible refine z14j ?_ _) | (with_reducible refine z14k ?_ _) | (with_reducible refine z14l ?_))); (case side2 => exact (Kd.S_reads' HO647.out).2.1); rintro e w55 ⟨rfl, hb⟩; have n0_ := z14a (z14i (by (with_reducible repeat (first | apply z14f | apply z14g | apply z14h)); exact HO636.out) hb); have n1_ := z14a (z14p (by (with_reducible repeat (first | apply z14m | apply z14n | apply z14o)); exact HO640.out) hb); have n2_ := z14a (z14p (by (with_reducible repeat (first | apply z14m | apply z14n | apply z14o)); exact HO644.out) hb); have n3_ := z14a (z14p (by (with_reducible repeat (first | apply z14m | apply z14n | apply z14o)); exact HO647.out) hb); have n4_ := z14a (z14i (by (with_reducible repeat (first | apply z14f | apply z14g | apply z14h)); exact HO650.out) hb); have n5_ := z14a (below_step (by repeat (first | (with_reducible first | exact HB.out | apply z14d | apply z14b | apply z14c) | exact HB.out)) hb); clear HO636; clear HO640; clear HO644; clear HO647; clear HO650; clear HB; have HO636 := n0_; have HO640 := n1_; have HO644 := n2_; have HO647 := n3_; have HO650 := n4_; have HB := n5_; clear n0_ n1_ n2_ n3_ n4_ n5_; (try clear hb); (try clear hb2); (try clear hk); (try clear hi)) | (go_at_call 25; (with_reducible refine (y_o.calls k _ _ t645 t655 _ ?side1 ?side2 A28.out).mono ?_); (case side1 => repeat (first | exact (Kd.S_reads' HO647.out).2.2 | (with_reducible refine z14j ?_ _) | (with_reducible refine z14k ?_ _) | (with_reducible refine z14l ?_))); (case side2 => exact (Kd.S_reads' HO647.out).2.1); rintro e w56 ⟨rfl, hb⟩; have n0_ := z14a (z14i (by (with_reducible repeat (first | apply z14f | apply z14g | apply z14h)); exact HO636.out) hb); have n1_ := z14a (z14p (by (with_reducible repeat (first | apply z14m | apply z14n | apply z14o)); exact HO640.out) hb); have n2_ := z14a (z14p (by (with_reducible repeat (first | apply z14m | apply z14n | apply z14o)); exact HO644.out) hb); have n3_ := z14a (z14p (by (with_reducible repeat (first | apply z14m | apply z14n | apply z14o)); exact HO647.out) hb); have n4_ := z14a (z14i (by (with_reducible repeat (first | apply z14f | apply z14g | apply z14h)); exact HO650.out) hb); have n5_ := z14a (below_step (by repeat (first | (with_reducible first | exact HB.out | apply z14d | apply z14b | apply z14c) | exact HB.out)) hb); clear HO636; clear HO640; clear HO644; clear HO647; clear HO650; clear HB; have HO636 := n0_; have HO640 := n1_; have HO644 := n2_; have HO647 := n3_; have HO650 := n4_; have HB := n5_; clear n0_ n1_ n2_ n3_ n4_ n5_; (try clear hb); (try clear hb2); (try clear hk); (try clear hi); obtain ⟨Ao57, co57, eo57⟩ := Kd.R_slice HO650.out; subst eo57) | (go_at_call 26; (with_reducible refine (y_f.calls k _ _ t648 t656 _ ?side1 ?side2 A30.out).mono ?_); (case side1 => repeat (first | exact (Kd.R_reads' HO650.out).2.2 | (with_reducible refine z14j ?_ _) | (with_reducible refine z14k ?_ _) | (with_reducible refine z14l ?_))); (case side2 => exact (Kd.R_reads' HO650.out).2.1); rintro e w58 ⟨rfl, hb⟩; have n0_ := z14a (z14i (by (with_reducible repeat (first | apply z14f | apply z14g | apply z14h)); exact HO636.out) hb); have n1_ := z14a (z14p (by (with_reducible repeat (first | apply z14m | apply z14n | apply z14o)); exact HO640.out) hb); have n2_ := z14a (z14p (by (with_reducible repeat (first | apply z14m | apply z14n | apply z14o)); exact HO644.out) hb); have n3_ := z14a (z14p (by (with_reducible repeat (first | apply z14m | apply z14n | apply z14o)); exact HO647.out) hb); have n4_ := z14a (z14i (by (with_reducible repeat (first | apply z14f | apply z14g | apply z14h)); exact HO650.out) hb); have n5_ := z14a (below_step (by repeat (first | (with_reducible first | exact HB.out | apply z14d | apply z14b | apply z14c) | exact HB.out)) hb); clear HO636; clear HO640; clear HO644; clear HO647; clear HO650; clear HB; have HO636 := n0_; have HO640 := n1_; have HO644 := n2_; have HO647 := n3_; have HO650 := n4_; have HB := n5_; clear n0_ n1_ n2_ n3_ n4_ n5_; (try clear hb); (try clear hb2); (try clear hk); (try clear hi)) | (go_at_call 27; (with_reducible refine (y_e.calls k _ _ t648 t657 _ ?side1 ?side2 A31.out).mono ?_); (case side1 => repeat (first | exact (Kd.R_reads' HO650.out).2.2 | (with_reducible refine z14j ?_ _) | (with_reducible refine z14k ?_ _) | (with_reducible refine z14l ?_))); (case side2 => exact (Kd.R_reads' HO650.out).2.1); rintro e w59 ⟨rfl, hb⟩; have n0_ := z14a (z14i (by (with_reducible repeat (first | apply z14f | apply z14g | apply z14h)); exact HO636.out) hb); have n1_ := z14a (z14p (by (with_reducible repeat (first | apply z14m | apply z14n | apply z14o)); exact HO640.out) hb); have n2_ := z14a (z14p (by (with_reducible repeat (first | apply z14m | apply z14n | apply z14o)); exact HO644.out) hb); have n3_ := z14a (z14p (by (with_reducible repeat (first | apply z14m | apply z14n | apply z14o)); exact HO647.out) hb); have n4_ := z14a (z14i (by (with_reducible repeat (first | apply z14f | apply z14g | apply z14h)); exact HO650.out) hb); have n5_ := z14a (below_step (by repeat (first | (with_reducible first | exact HB.out | apply z14d | apply z14b | apply z14c) | exact HB.out)) hb); clear HO636; clear HO640; clear HO644; clear HO647; clear HO650; clear HB; have HO636 := n0_; have HO640 := n1_; have HO644 := n2_; have HO647 := n3_; have HO650 := n4_; have HB := n5_; clear n0_ n1_ n2_ n3_ n4_ n5_; (try clear hb); (try clear hb2); (try clear hk); (try clear hi)))
        go_meet
        case rel => exact ⟨_, (true), (by first | rfl | (simp; done) | (simp [*]; done)), H', ⟨by first | omega | exact Nat.le_refl _⟩, ⟨by (with_reducible repeat (first | apply z14f | apply z14g | apply z14h)); exact Kd.R_mono HO636.out (fun _ hk => trivial)⟩, ⟨by (with_reducible repeat (first | apply z14m | apply z14n | apply z14o)); exact Kd.S_mono HO640.out (fun _ hk => hk.1.1.1.2)⟩, ⟨by repeat (first | (with_reducible first | exact HB.out | apply z14d | apply z14b | apply z14c) | exact HB.out)⟩⟩
      ·rw [if_neg c29] at H
       have c29b0 : (t654.toList == t655.toList) = false := beq_eq_false_iff_ne.mpr c29
       have c29b1 : (t654.toList != t655.toList) = true := bne_iff_ne.mpr c29
       have H' := z14a H
       clear H
       obtain ⟨Ao60, co60, eo60⟩ := Kd.S_slice HO640.out
       subst eo60
       obtain ⟨Ao61, co61, eo61⟩ := Kd.S_slice HO644.out
       subst eo61
       go_wp2_with (first | (go_at_call 21; (with_reducible refine (y_x.calls k _ _ t637 _ _ t641 true _ ?side1 ?side2 ?side3 ?side4 A17.out).mono ?_); (case side1 => repeat (first | exact (Kd.S_reads' HO640.out).2.2 | (with_reducible refine z14j ?_ _) | (with_reducible refine z14k ?_ _) | (with_reducible refine z14l ?_))); (case side2 => exact (Kd.S_reads' HO640.out).2.1); (case side3 => repeat (first | exact (Kd.S_reads' HO644.out).2.2 | (with_reducible refine z14j ?_ _) | (with_reducible refine z14k ?_ _) | (with_reducible refine z14l ?_))); (case side4 => exact (Kd.S_reads' HO644.out).2.1); rintro e w' ⟨rfl, ⟨nd, rfl⟩⟩; obtain ⟨Ao62, co62, eo62⟩ := Kd.S_slice HO647.out; subst eo62) | (go_at_call 22; (with_reducible refine (y_l.calls k _ _ t645 t652 _ ?side1 ?side2 A19.out).mono ?_); (case side1 => repeat (first | exact (Kd.S_reads' HO647.out).2.2 | (with_reducible refine z14j ?_ _) | (with_reducible refine z14k ?_ _) | (with_reducible refine z14l ?_))); (case side2 => exact (Kd.S_reads' HO647.out).2.1); rintro e w63 ⟨rfl, hb⟩; have n0_ := z14a (z14i (by (with_reducible repeat (first | apply z14f | apply z14g | apply z14h)); exact HO636.out) hb); have n1_ := z14a (z14p (by (with_reducible repeat (first | apply z14m | apply z14n | apply z14o)); exact HO640.out) hb); have n2_ := z14a (z14p (by (with_reducible repeat (first | apply z14m | apply z14n | apply z14o)); exact HO644.out) hb); have n3_ := z14a (z14p (by (with_reducible repeat (first | apply z14m | apply z14n | apply z14o)); exact HO647.out) hb); have n4_ := z14a (z14i (by (with_reducible repeat (first | apply z14f | apply z14g | apply z14h)); exact HO650.out) hb); have n5_ := z14a (below_step (by repeat (first | (with_reducible first | exact HB.out | apply z14d | apply z14b | apply z14c) | exact HB.out)) hb); clear HO636; clear HO640; clear HO644; clear HO647; clear HO650; clear HB; have HO636 := n0_; have HO640 := n1_; have HO644 := n2_; have HO647 := n3_; have HO650 := n4_; have HB := n5_; clear n0_ n1_ n2_ n3_ n4_ n5_; (try clear hb); (try clear hb2); (try clear hk); (try clear hi)) | (go_at_call 23; (with_reducible refine (y_q.calls k _ _ t645 t653 _ ?side1 ?side2 A20.out).mono ?_); (case side1 => repeat (first | exact (Kd.S_reads' HO647.out).2.2 | (with_reducible refine z14j ?_ _) | (with_reducible refine z14k ?_ _) | (with_reducible refine z14l ?_))); (case side2 => exact (Kd.S_reads' HO647.out).2.1); rintro e w64 ⟨rfl, hb⟩; have n0_ := z14a (z14i (by (with_reducible repeat (first | apply z14f | apply z14g | apply z14h)); exact HO636.out) hb); have n1_ := z14a (z14p (by (with_reducible repeat (first | apply z14m | apply z14n | apply z14o)); exact HO640.out) hb); have n2_ := z14a (z14p (by (with_reducible repeat (first | apply z14m | apply z14n | apply z14o)); exact HO644.out) hb); have n3_ := z14a (z14p (by (with_reducible repeat (first | apply z14m | apply z14n | apply z14o)); exact HO647.out) hb); have n4_ := z14a (z14i (by (with_reducible repeat (first | apply z14f | apply z14g | apply z14h)); exact HO650.out) hb); have n5_ := z14a (below_step (by repeat (first | (with_reducible first | exact HB.out | apply z14d | apply z14b | apply z14c) | exact HB.out)) hb); clear HO636; clear HO640; clear HO644; clear HO647; clear HO650; clear HB; have HO636 := n0_; have HO640 := n1_; have HO644 := n2_; have HO647 := n3_; have HO650 := n4_; have HB := n5_; clear n0_ n1_ n2_ n3_ n4_ n5_; (try clear hb); (try clear hb2); (try clear hk); (try clear hi)) | (go_at_call 24; (with_reducible refine (y_t.calls k _ _ t645 t654 _ ?side1 ?side2 A27.out).mono ?_); (case side1 => repeat (first | exact (Kd.S_reads' HO647.out).2.2 | (with_reducible refine z14j ?_ _) | (with_reducible refine z14k ?_ _) | (with_reducible refine z14l ?_))); (case side2 => exact (Kd.S_reads' HO647.out).2.1); rintro e w65 ⟨rfl, hb⟩; have n0_ := z14a (z14i (by (with_reducible repeat (first | apply z14f | apply z14g | apply z14h)); exact HO636.out) hb); have n1_ := z14a (z14p (by (with_reducible repeat (first | apply z14m | apply z14n | apply z14o)); exact HO640.out) hb); have n2_ := z14a (z14p (by (with_reducible repeat (first | apply z14m | apply z14n | apply z14o)); exact HO644.out) hb); have n3_ := z14a (z14p (by (with_reducible repeat (first | apply z14m | apply z14n | apply z14o)); exact HO647.out) hb); have n4_ := z14a (z14i (by (with_reducible repeat (first | apply z14f | apply z14g | apply z14h)); exact HO650.out) hb); have n5_ := z14a (below_step (by repeat (first | (with_reducible first | exact HB.out | apply z14d | apply z14b | apply z14c) | exact HB.out)) hb); clear HO636; clear HO640; clear HO644; clear HO647; clear HO650; clear HB; have HO636 := n0_; have HO640 := n1_; have HO644 := n2_; have HO647 := n3_; have HO650 := n4_; have HB := n5_; clear n0_ n1_ n2_ n3_ n4_ n5_; (try clear hb); (try clear hb2); (try clear hk); (try clear hi)) | (go_at_call 25; (with_reducible refine (y_o.calls k _ _ t645 t655 _ ?side1 ?side2 A28.out).mono ?_); (case side1 => repeat (first | exact (Kd.S_reads' HO647.out).2.2 | (with_reducible refine z14j ?_ _) | (with_reducible refine z14k ?_ _) | (with_reducible refine z14l ?_))); (case side2 => exact (Kd.S_reads' HO647.out).2.1); rintro e w66 ⟨rfl, hb⟩; have n0_ := z14a (z14i (by (with_reducible repeat (first | apply z14f | apply z14g | apply z14h)); exact HO636.out) hb); have n1_ := z14a (z14p (by (with_reducible repeat (first | apply z14m | apply z14n | apply z14o)); exact HO640.out) hb); have n2_ := z14a (z14p (by (with_reducible repeat (first | apply z14m | apply z14n | apply z14o)); exact HO644.out) hb); have n3_ := z14a (z14p (by (with_reducible repeat (first | apply z14m | apply z14n | apply z14o)); exact HO647.out) hb); have n4_ := z14a (z14i (by (with_reducible repeat (first | apply z14f | apply z14g | apply z14h)); exact HO650.out) hb); have n5_ := z14a (below_step (by repeat (first | (with_reducible first | exact HB.out | apply z14d | apply z14b | apply z14c) | exact HB.out)) hb); clear HO636; clear HO640; clear HO644; clear HO647; clear HO650; clear HB; have HO636 := n0_; have HO640 := n1_; have HO644 := n2_; have HO647 := n3_; have HO650 := n4_; have HB := n5_; clear n0_ n1_ n2_ n3_ n4_ n5_; (try clear hb); (try clear hb2); (try clear hk); (try clear hi)))
       go_meet
       case rel => exact ⟨_, (true), (by first | rfl | (simp; done) | (simp [*]; done)), H', ⟨by first | omega | exact Nat.le_refl _⟩, ⟨by (with_reducible repeat (first | apply z14f | apply z14g | apply z14h)); exact Kd.R_mono HO636.out (fun _ hk => trivial)⟩, ⟨by (with_reducible repeat (first | apply z14m | apply z14n | apply z14o)); exact Kd.S_mono HO640.out (fun _ hk => hk.1.1.1.2)⟩, ⟨by repeat (first | (with_reducible first | exact HB.out | apply z14d | apply z14b | apply z14c) | exact HB.out)⟩⟩
    ·replace c18 := Bool.eq_false_iff.mpr c18
     subst c18
     have H1 : (y_a.j0 k t633 t634 t637 t638 true) = some r := by rw [if_neg (show ¬ (false = true) by decide)] at H; exact H
     clear H
     have H := H1
     clear H1
     have H' := z14a H
     clear H
     obtain ⟨Ao67, co67, eo67⟩ := Kd.S_slice HO640.out
     subst eo67
     obtain ⟨Ao68, co68, eo68⟩ := Kd.S_slice HO644.out
     subst eo68
     go_wp2_with (first | (go_at_call 21; (with_reducible refine (y_x.calls k _ _ t637 _ _ t641 false _ ?side1 ?side2 ?side3 ?side4 A17.out).mono ?_); (case side1 => repeat (first | exact (Kd.S_reads' HO640.out).2.2 | (with_reducible refine z14j ?_ _) | (with_reducible refine z14k ?_ _) | (with_reducible refine z14l ?_))); (case side2 => exact (Kd.S_reads' HO640.out).2.1); (case side3 => repeat (first | exact (Kd.S_reads' HO644.out).2.2 | (with_reducible refine z14j ?_ _) | (with_reducible refine z14k ?_ _) | (with_reducible refine z14l ?_))); (case side4 => exact (Kd.S_reads' HO644.out).2.1); rintro e w' ⟨rfl, ⟨nd, rfl⟩⟩))
     go_meet
     case rel => exact ⟨_, (true), (by first | rfl | (simp; done) | (simp [*]; done)), H', ⟨by first | omega | exact Nat.le_refl _⟩, ⟨by (with_reducible repeat (first | apply z14f | apply z14g | apply z14h)); exact Kd.R_mono HO636.out (fun _ hk => trivial)⟩, ⟨by (with_reducible repeat (first | apply z14m | apply z14n | apply z14o)); exact Kd.S_mono HO640.out (fun _ hk => hk.1.1.1.2)⟩, ⟨by repeat (first | (with_reducible first | exact HB.out | apply z14d | apply z14b | apply z14c) | exact HB.out)⟩⟩
  case rest =>
   clear HC9
   try clear c1
   try clear c2
   try clear p2
   try clear c3
   try clear c15
   try clear c16
   try clear c16b0
   try clear c16b1
   try clear c16b2
   try clear c17
   try clear c18
   try clear c19
   try clear c20
   try clear c21
   try clear c21b0
   try clear c21b1
   try clear c21b2
   try clear c29
   try clear c29b0
   try clear c29b1
   try clear c32
   try clear c32b0
   try clear c32b1
   obtain ⟨kq, x72_8, rfl, HA, HJ8, HO_3, HO_5, HB⟩ := hcut
   cases kq with
   | zero => exact absurd HA.out (by simp [y_a.j0])
   | succ kj8 =>
    have H := HA.out
    clear HA
    simp only [y_a.j0] at H
    by_cases c69 : x72_8 = true
    ·subst c69
     rw [if_pos rfl] at H
     obtain rfl := Option.some.inj H
     exact absurd HR_.out (by decide)
    ·replace c69 := Bool.eq_false_iff.mpr c69
     subst c69
     have H1 : (if t638 = true then (y_a.l0 kj8 t633 t634 t637 0) else (some ((t637.length : Int) == 0))) = some r := by rw [if_neg (show ¬ (false = true) by decide)] at H; exact H
     clear H
     have H := H1
     clear H1
     by_cases c70 : t638 = true
     ·subst c70
      rw [if_pos rfl] at H
      have H' := z14a H
      clear H
      go_wp2
      go_loopg [11] kj8 (fun kq v11 w' => ∃ (x11_2 : Int), v11 = .int .i64 x11_2 ∧ Aside0 (y_a.l0 kq t633 t634 t637 x11_2 = some r) ∧ Aside0 (kq ≤ kj8) ∧ Aside0 (Kd.R k71 71 w' w.heap.size (fun _ => True) (.slice Ao11 t633.length co11) t633) ∧ Aside0 (Kd.S k39 39 w' w.heap.size (fun k_ => some k_ ≠ ((.slice Ao11 t633.length co11) : Value).ownBlock) v639 t637) ∧ Aside0 (Below w.heap.size w w'))
      case atStart => exact ⟨(0), (by first | rfl | (simp; done) | (simp [*]; done)), H', ⟨Nat.le_refl _⟩, ⟨by (with_reducible repeat (first | apply z14f | apply z14g | apply z14h)); exact HO_3.out⟩, ⟨by (with_reducible repeat (first | apply z14m | apply z14n | apply z14o)); exact HO_5.out⟩, ⟨by repeat (first | (with_reducible first | exact HB.out | apply z14d | apply z14b | apply z14c) | exact HB.out)⟩⟩
      case round =>
       clear H'
       try clear c1
       try clear c2
       try clear p2
       try clear c3
       try clear c6
       try clear c7
       try clear c15
       try clear c16
       try clear c16b0
       try clear c16b1
       try clear c16b2
       try clear c17
       try clear c18
       try clear c19
       try clear c20
       try clear c21
       try clear c21b0
       try clear c21b1
       try clear c21b2
       try clear c29
       try clear c29b0
       try clear c29b1
       try clear c32
       try clear c32b0
       try clear c32b1
       try clear c69
       try clear c70
       try clear p2
       obtain ⟨x11_2, rfl, HA, HK2, HO_3, HO_5, HB⟩ := hrel
       cases gk with
       | zero => exact absurd HA.out (by simp [y_a.l0])
       | succ k2 =>
        have H := HA.out
        clear HA
        simp only [y_a.l0] at H
        by_cases c71 : (wrap64 (x11_2 + 1)) < (t637.length : Int)
        ·rw [if_pos c71] at H
         have c71b0 : decide ((wrap64 (x11_2 + 1)) < (t637.length : Int)) = true := decide_eq_true c71
         clear c71
         by_cases c72 : 0 ≤ x11_2
         ·rw [if_pos c72] at H
          have c72b0 : decide (0 ≤ x11_2) = true := decide_eq_true c72
          clear c72
          by_cases c73 : x11_2 < (t637.length : Int)
          ·rw [if_pos c73] at H
           have c73b0 : decide (x11_2 < (t637.length : Int)) = true := decide_eq_true c73
           clear c73
           replace H := z14e.mp H
           obtain ⟨t666, A740, H⟩ := H
           have A74 := z14a A740
           clear A740
           by_cases c75 : t666 ≤ (wrap64 ((wrap64 (t634 - 3)) - 1))
           ·rw [if_pos c75] at H
            have c75b0 : decide (t666 ≤ (wrap64 ((wrap64 (t634 - 3)) - 1))) = true := decide_eq_true c75
            clear c75
            obtain rfl := Option.some.inj H
            exact absurd HR_.out (by decide)
           ·rw [if_neg c75] at H
            have c75b0 : decide (t666 ≤ (wrap64 ((wrap64 (t634 - 3)) - 1))) = false := decide_eq_false c75
            clear c75
            have H' := z14a H
            clear H
            obtain ⟨Ao76, co76, eo76⟩ := Kd.S_slice HO_5.out
            subst eo76
            have p665 : 0 ≤ (x11_2 : Int) := of_decide_eq_true (by first | (with_reducible assumption) | assumption)
            have q665 : x11_2 < (t637.length : Int) := of_decide_eq_true (by first | (with_reducible assumption) | assumption)
            obtain ⟨ad665, A665_0, c665_0, e665, hx665_0, hl665_0, hi665_0⟩ := at_T39 (Kd.S_reads' HO_5.out).2.2 x11_2 p665 q665
            cases e665
            obtain ⟨ce665, hce665, hMe665, hcc665⟩ := Kd.S_get HO_5.out z39 x11_2 p665 (by first | exact q665 | exact of_decide_eq_true (by first | (with_reducible assumption) | assumption) | (have e_ := (Kd.S_reads' HO_5.out).1; omega))
            obtain ⟨ve665_0, rfl, ge665_0⟩ := k39_openM hMe665
            have hv665_0 := hcc665 0 _ rfl
            rw [Nat.add_zero, show (k39).sz = 1 from rfl, Nat.mul_one] at hv665_0
            replace hv665_0 := Option.some.inj (hv665_0.symm.trans hx665_0)
            rw [hv665_0] at ge665_0
            have HL665_0 := z14a (show Kd.R k71 71 _ _ _ _ ((rd_T39 t637 x11_2).f0) from ge665_0)
            clear hv665_0 ge665_0
            clear hcc665 hce665
            have HR665_0 := z14a hi665_0
            have HC665_0 := z14a hl665_0
            clear hi665_0 hl665_0
            replace p665 := eq_true p665
            replace q665 := eq_true q665
            go_wp2_with (first | ((with_reducible refine gate_callee (f := 31) rfl ?_); refine goesL_ (some 90) rfl rfl Try.func31 (by kernel_rfl) rfl #[.slice A665_0 ((rd_T39 t637 x11_2).f0).length c665_0] rfl (by (try simp only [zm14a, zm14b, zm14c]); first | done | rfl | (simp only [zm14d, zm14e]; rfl)) ?_; (with_reducible refine (y_w.calls k2 _ _ ((rd_T39 t637 x11_2).f0) t666 _ ?side1 ?side2 A74.out).mono ?_); (case side1 => repeat (first | exact (by repeat (first | (with_reducible exact HR665_0.out) | (with_reducible refine z14j ?_ _) | (with_reducible refine z14k ?_ _) | (with_reducible refine z14l ?_) | exact HR665_0.out)) | (with_reducible refine z14j ?_ _) | (with_reducible refine z14k ?_ _) | (with_reducible refine z14l ?_))); (case side2 => exact HC665_0.out); rintro e w77 ⟨rfl, hb⟩; refine ⟨_, rfl, ?_⟩; have n0_ := z14a (z14i (by (with_reducible repeat (first | apply z14f | apply z14g | apply z14h)); exact HO_3.out) hb); have n1_ := z14a (z14p (by (with_reducible repeat (first | apply z14m | apply z14n | apply z14o)); exact HO_5.out) hb); have n2_ := z14a (z14i (by (with_reducible repeat (first | apply z14f | apply z14g | apply z14h)); exact HL665_0.out) hb); have n3_ := z14a (Kd.C_below (by repeat (first | (with_reducible exact HR665_0.out) | (with_reducible refine z14j ?_ _) | (with_reducible refine z14k ?_ _) | (with_reducible refine z14l ?_) | exact HR665_0.out)) hb); have n4_ := z14a (below_step (by repeat (first | (with_reducible first | exact HB.out | apply z14d | apply z14b | apply z14c) | exact HB.out)) hb); clear HO_3; clear HO_5; clear HL665_0; clear HR665_0; clear HB; have HO_3 := n0_; have HO_5 := n1_; have HL665_0 := n2_; have HR665_0 := n3_; have HB := n4_; clear n0_ n1_ n2_ n3_ n4_; (try clear hb); (try clear hb2); (try clear hk); (try clear hi)))
            go_roundg k2
            case measure => have := HJ8.out; have := HK2.out; omega
            case rel => exact ⟨(wrap64 (x11_2 + 1)), (by first | rfl | (simp; done) | (simp [*]; done)), H', ⟨by have := HJ8.out; have := HK2.out; omega⟩, ⟨by (with_reducible repeat (first | apply z14f | apply z14g | apply z14h)); exact HO_3.out⟩, ⟨by (with_reducible repeat (first | apply z14m | apply z14n | apply z14o)); exact HO_5.out⟩, ⟨by repeat (first | (with_reducible first | exact HB.out | apply z14d | apply z14b | apply z14c) | exact HB.out)⟩⟩
          ·rw [if_neg c73] at H
           exact absurd H (by simp)
         ·rw [if_neg c72] at H
          exact absurd H (by simp)
        ·rw [if_neg c71] at H
         have c71b0 : decide ((wrap64 (x11_2 + 1)) < (t637.length : Int)) = false := decide_eq_false c71
         clear c71
         replace H := z14e.mp H
         obtain ⟨t667, A780, H⟩ := H
         have A78 := z14a A780
         clear A780
         by_cases c79 : t667 = true
         ·subst c79
          rw [if_pos rfl] at H
          replace H := z14e.mp H
          obtain ⟨t668, A800, H⟩ := H
          have A80 := z14a A800
          clear A800
          replace H := z14e.mp H
          obtain ⟨t671, A810, H⟩ := H
          have A81 := z14a A810
          clear A810
          by_cases c82 : t671 = true
          ·subst c82
           rw [if_pos rfl] at H
           replace H := z14e.mp H
           obtain ⟨t672, A830, H⟩ := H
           have A83 := z14a A830
           clear A830
           by_cases c84 : t672 > t634
           ·rw [if_pos c84] at H
            have c84b0 : decide (t634 < t672) = true := decide_eq_true c84
            clear c84
            obtain rfl := Option.some.inj H
            obtain ⟨Ao85, co85, eo85⟩ := Kd.S_slice HO_5.out
            subst eo85
            go_wp2_with (first | ((with_reducible refine gate_callee (f := 22) rfl ?_); refine goesL_ (some 96) rfl rfl Try.func22 (by kernel_rfl) rfl #[.slice Ao85 t637.length co85] rfl (by (try simp only [zm14a, zm14b, zm14c]); first | done | rfl | (simp only [zm14d, zm14e]; rfl)) ?_; (with_reducible refine (y_l.calls k2 _ _ t637 true _ ?side1 ?side2 A78.out).mono ?_); (case side1 => repeat (first | exact (Kd.S_reads' HO_5.out).2.2 | (with_reducible refine z14j ?_ _) | (with_reducible refine z14k ?_ _) | (with_reducible refine z14l ?_))); (case side2 => exact (Kd.S_reads' HO_5.out).2.1); rintro e w86 ⟨rfl, hb⟩; refine ⟨_, rfl, ?_⟩; have n0_ := z14a (z14i (by (with_reducible repeat (first | apply z14f | apply z14g | apply z14h)); exact HO_3.out) hb); have n1_ := z14a (z14p (by (with_reducible repeat (first | apply z14m | apply z14n | apply z14o)); exact HO_5.out) hb); have n2_ := z14a (below_step (by repeat (first | (with_reducible first | exact HB.out | apply z14d | apply z14b | apply z14c) | exact HB.out)) hb); clear HO_3; clear HO_5; clear HB; have HO_3 := n0_; have HO_5 := n1_; have HB := n2_; clear n0_ n1_ n2_; (try clear hb); (try clear hb2); (try clear hk); (try clear hi)) | (go_at_call 29; (with_reducible refine (y_j.calls k2 _ _ t637 t668 _ ?side1 ?side2 A80.out).mono ?_); (case side1 => repeat (first | exact (Kd.S_reads' HO_5.out).2.2 | (with_reducible refine z14j ?_ _) | (with_reducible refine z14k ?_ _) | (with_reducible refine z14l ?_))); (case side2 => exact (Kd.S_reads' HO_5.out).2.1); rintro e w87 ⟨v669, rfl, ho0, hb⟩; have n0_ := z14a (Kd.R_elder' (by (with_reducible repeat (first | apply z14f | apply z14g | apply z14h)); exact HO_3.out) (Kd.R_base ho0) hb); have n1_ := z14a (Kd.S_elder' (by (with_reducible repeat (first | apply z14m | apply z14n | apply z14o)); exact HO_5.out) (Kd.R_base ho0) hb); have n2_ := z14a (Kd.R_lower (Kd.R_new' ho0 (Kd.R_lt (by (with_reducible repeat (first | apply z14f | apply z14g | apply z14h)); exact HO_3.out))) (below_size (by repeat (first | (with_reducible first | exact HB.out | apply z14d | apply z14b | apply z14c) | exact HB.out)))); have n3_ := z14a (below_step (by repeat (first | (with_reducible first | exact HB.out | apply z14d | apply z14b | apply z14c) | exact HB.out)) hb); clear HO_3; clear HO_5; clear HB; have HO_3 := n0_; have HO_5 := n1_; have HO670 := n2_; have HB := n3_; clear n0_ n1_ n2_ n3_; (try clear hb); (try clear hb2); (try clear hk); (try clear hi); (try clear ho0); obtain ⟨Ao88, co88, eo88⟩ := Kd.R_slice HO670.out; subst eo88) | (go_at_call 32; (with_reducible refine (y_gb.calls k2 _ _ t668 _ _ t633 true _ ?side1 ?side2 ?side3 ?side4 A81.out).mono ?_); (case side1 => repeat (first | exact (Kd.R_reads' HO670.out).2.2 | (with_reducible refine z14j ?_ _) | (with_reducible refine z14k ?_ _) | (with_reducible refine z14l ?_))); (case side2 => exact (Kd.R_reads' HO670.out).2.1); (case side3 => repeat (first | exact (Kd.R_reads' HO_3.out).2.2 | (with_reducible refine z14j ?_ _) | (with_reducible refine z14k ?_ _) | (with_reducible refine z14l ?_))); (case side4 => exact (Kd.R_reads' HO_3.out).2.1); rintro e w89 ⟨rfl, hb⟩; have n0_ := z14a (z14i (by (with_reducible repeat (first | apply z14f | apply z14g | apply z14h)); exact HO_3.out) hb); have n1_ := z14a (z14p (by (with_reducible repeat (first | apply z14m | apply z14n | apply z14o)); exact HO_5.out) hb); have n2_ := z14a (z14i (by (with_reducible repeat (first | apply z14f | apply z14g | apply z14h)); exact HO670.out) hb); have n3_ := z14a (below_step (by repeat (first | (with_reducible first | exact HB.out | apply z14d | apply z14b | apply z14c) | exact HB.out)) hb); clear HO_3; clear HO_5; clear HO670; clear HB; have HO_3 := n0_; have HO_5 := n1_; have HO670 := n2_; have HB := n3_; clear n0_ n1_ n2_ n3_; (try clear hb); (try clear hb2); (try clear hk); (try clear hi)) | (go_at_call 31; (with_reducible refine (y_w.calls k2 _ _ t633 t672 _ ?side1 ?side2 A83.out).mono ?_); (case side1 => repeat (first | exact (Kd.R_reads' HO_3.out).2.2 | (with_reducible refine z14j ?_ _) | (with_reducible refine z14k ?_ _) | (with_reducible refine z14l ?_))); (case side2 => exact (Kd.R_reads' HO_3.out).2.1); rintro e w90 ⟨rfl, hb⟩; have n0_ := z14a (z14i (by (with_reducible repeat (first | apply z14f | apply z14g | apply z14h)); exact HO_3.out) hb); have n1_ := z14a (z14p (by (with_reducible repeat (first | apply z14m | apply z14n | apply z14o)); exact HO_5.out) hb); have n2_ := z14a (z14i (by (with_reducible repeat (first | apply z14f | apply z14g | apply z14h)); exact HO670.out) hb); have n3_ := z14a (below_step (by repeat (first | (with_reducible first | exact HB.out | apply z14d | apply z14b | apply z14c) | exact HB.out)) hb); clear HO_3; clear HO_5; clear HO670; clear HB; have HO_3 := n0_; have HO_5 := n1_; have HO670 := n2_; have HB := n3_; clear n0_ n1_ n2_ n3_; (try clear hb); (try clear hb2); (try clear hk); (try clear hi)))
            go_ret
            exact ⟨by first | rfl | (simp [errW_none, errW_some] <;> rfl) | (simp [*, errW_none, errW_some] <;> rfl), by repeat (first | (with_reducible first | exact HB.out | apply z14d | apply z14b | apply z14c) | exact HB.out)⟩
           ·rw [if_neg c84] at H
            have c84b0 : decide (t634 < t672) = false := decide_eq_false c84
            clear c84
            obtain rfl := Option.some.inj H
            obtain ⟨Ao91, co91, eo91⟩ := Kd.S_slice HO_5.out
            subst eo91
            go_wp2_with (first | ((with_reducible refine gate_callee (f := 22) rfl ?_); refine goesL_ (some 96) rfl rfl Try.func22 (by kernel_rfl) rfl #[.slice Ao91 t637.length co91] rfl (by (try simp only [zm14a, zm14b, zm14c]); first | done | rfl | (simp only [zm14d, zm14e]; rfl)) ?_; (with_reducible refine (y_l.calls k2 _ _ t637 true _ ?side1 ?side2 A78.out).mono ?_); (case side1 => repeat (first | exact (Kd.S_reads' HO_5.out).2.2 | (with_reducible refine z14j ?_ _) | (with_reducible refine z14k ?_ _) | (with_reducible refine z14l ?_))); (case side2 => exact (Kd.S_reads' HO_5.out).2.1); rintro e w92 ⟨rfl, hb⟩; refine ⟨_, rfl, ?_⟩; have n0_ := z14a (z14i (by (with_reducible repeat (first | apply z14f | apply z14g | apply z14h)); exact HO_3.out) hb); have n1_ := z14a (z14p (by (with_reducible repeat (first | apply z14m | apply z14n | apply z14o)); exact HO_5.out) hb); have n2_ := z14a (below_step (by repeat (first | (with_reducible first | exact HB.out | apply z14d | apply z14b | apply z14c) | exact HB.out)) hb); clear HO_3; clear HO_5; clear HB; have HO_3 := n0_; have HO_5 := n1_; have HB := n2_; clear n0_ n1_ n2_; (try clear hb); (try clear hb2); (try clear hk); (try clear hi)) | (go_at_call 29; (with_reducible refine (y_j.calls k2 _ _ t637 t668 _ ?side1 ?side2 A80.out).mono ?_); (case side1 => repeat (first | exact (Kd.S_reads' HO_5.out).2.2 | (with_reducible refine z14j ?_ _) | (with_reducible refine z14k ?_ _) | (with_reducible refine z14l ?_))); (case side2 => exact (Kd.S_reads' HO_5.out).2.1); rintro e w93 ⟨v669, rfl, ho0, hb⟩; have n0_ := z14a (Kd.R_elder' (by (with_reducible repeat (first | apply z14f | apply z14g | apply z14h)); exact HO_3.out) (Kd.R_base ho0) hb); have n1_ := z14a (Kd.S_elder' (by (with_reducible repeat (first | apply z14m | apply z14n | apply z14o)); exact HO_5.out) (Kd.R_base ho0) hb); have n2_ := z14a (Kd.R_lower (Kd.R_new' ho0 (Kd.R_lt (by (with_reducible repeat (first | apply z14f | apply z14g | apply z14h)); exact HO_3.out))) (below_size (by repeat (first | (with_reducible first | exact HB.out | apply z14d | apply z14b | apply z14c) | exact HB.out)))); have n3_ := z14a (below_step (by repeat (first | (with_reducible first | exact HB.out | apply z14d | apply z14b | apply z14c) | exact HB.out)) hb); clear HO_3; clear HO_5; clear HB; have HO_3 := n0_; have HO_5 := n1_; have HO670 := n2_; have HB := n3_; clear n0_ n1_ n2_ n3_; (try clear hb); (try clear hb2); (try clear hk); (try clear hi); (try clear ho0); obtain ⟨Ao94, co94, eo94⟩ := Kd.R_slice HO670.out; subst eo94) | (go_at_call 32; (with_reducible refine (y_gb.calls k2 _ _ t668 _ _ t633 true _ ?side1 ?side2 ?side3 ?side4 A81.out).mono ?_); (case side1 => repeat (first | exact (Kd.R_reads' HO670.out).2.2 | (with_reducible refine z14j ?_ _) | (with_reducible refine z14k ?_ _) | (with_reducible refine z14l ?_))); (case side2 => exact (Kd.R_reads' HO670.out).2.1); (case side3 => repeat (first | exact (Kd.R_reads' HO_3.out).2.2 | (with_reducible refine z14j ?_ _) | (with_reducible refine z14k ?_ _) | (with_reducible refine z14l ?_))); (case side4 => exact (Kd.R_reads' HO_3.out).2.1); rintro e w95 ⟨rfl, hb⟩; have n0_ := z14a (z14i (by (with_reducible repeat (first | apply z14f | apply z14g | apply z14h)); exact HO_3.out) hb); have n1_ := z14a (z14p (by (with_reducible repeat (first | apply z14m | apply z14n | apply z14o)); exact HO_5.out) hb); have n2_ := z14a (z14i (by (with_reducible repeat (first | apply z14f | apply z14g | apply z14h)); exact HO670.out) hb); have n3_ := z14a (below_step (by repeat (first | (with_reducible first | exact HB.out | apply z14d | apply z14b | apply z14c) | exact HB.out)) hb); clear HO_3; clear HO_5; clear HO670; clear HB; have HO_3 := n0_; have HO_5 := n1_; have HO670 := n2_; have HB := n3_; clear n0_ n1_ n2_ n3_; (try clear hb); (try clear hb2); (try clear hk); (try clear hi)) | (go_at_call 31; (with_reducible refine (y_w.calls k2 _ _ t633 t672 _ ?side1 ?side2 A83.out).mono ?_); (case side1 => repeat (first | exact (Kd.R_reads' HO_3.out).2.2 | (with_reducible refine z14j ?_ _) | (with_reducible refine z14k ?_ _) | (with_reducible refine z14l ?_))); (case side2 => exact (Kd.R_reads' HO_3.out).2.1); rintro e w96 ⟨rfl, hb⟩; have n0_ := z14a (z14i (by (with_reducible repeat (first | apply z14f | apply z14g | apply z14h)); exact HO_3.out) hb); have n1_ := z14a (z14p (by (with_reducible repeat (first | apply z14m | apply z14n | apply z14o)); exact HO_5.out) hb); have n2_ := z14a (z14i (by (with_reducible repeat (first | apply z14f | apply z14g | apply z14h)); exact HO670.out) hb); have n3_ := z14a (below_step (by repeat (first | (with_reducible first | exact HB.out | apply z14d | apply z14b | apply z14c) | exact HB.out)) hb); clear HO_3; clear HO_5; clear HO670; clear HB; have HO_3 := n0_; have HO_5 := n1_; have HO670 := n2_; have HB := n3_; clear n0_ n1_ n2_ n3_; (try clear hb); (try clear hb2); (try clear hk); (try clear hi)))
            go_ret
            exact ⟨by first | rfl | (simp [errW_none, errW_some] <;> rfl) | (simp [*, errW_none, errW_some] <;> rfl), by repeat (first | (with_reducible first | exact HB.out | apply z14d | apply z14b | apply z14c) | exact HB.out)⟩
          ·replace c82 := Bool.eq_false_iff.mpr c82
           subst c82
           have H1 : (some false) = some r := by rw [if_neg (show ¬ (false = true) by decide)] at H; exact H
           clear H
           have H := H1
           clear H1
           obtain rfl := Option.some.inj H
           exact absurd HR_.out (by decide)
         ·replace c79 := Bool.eq_false_iff.mpr c79
          subst c79
          have H1 : (some false) = some r := by rw [if_neg (show ¬ (false = true) by decide)] at H; exact H
          clear H
          have H := H1
          clear H1
          obtain rfl := Option.some.inj H
          exact absurd HR_.out (by decide)
     ·replace c70 := Bool.eq_false_iff.mpr c70
      subst c70
      have H1 : (some ((t637.length : Int) == 0)) = some r := by rw [if_neg (show ¬ (false = true) by decide)] at H; exact H
      clear H
      have H := H1
      clear H1
      obtain rfl := Option.some.inj H
      obtain ⟨Ao97, co97, eo97⟩ := Kd.S_slice HO_5.out
      subst eo97
      go_wp2
      go_ret
      exact ⟨by first | rfl | (simp [errW_none, errW_some] <;> rfl) | (simp [*, errW_none, errW_some] <;> rfl), by repeat (first | (with_reducible first | exact HB.out | apply z14d | apply z14b | apply z14c) | exact HB.out)⟩
def y_a.Pure : Prop := ∀ (l0 : List Int), l0.length ≤ maxLen → l0.length * 1 ≤ 140737488351232 → (∀ x ∈ l0, (Lit.int .u8 x).wf = true) → ∃ k, y_a.f k l0 = some true
theorem y_a.walk (P : y_a.Pure) (a0 : Option Addr) (len0 cap0 : Nat) (z0 : List Int) (w : World) (w0 : (a0 = none ∧ len0 = 0 ∧ cap0 = 0 ∧ z0 = []) ∨ ∃ x, a0 = some x ∧ len0 ≤ cap0 ∧ cap0 ≤ maxLen ∧ z0.length = cap0 ∧ (∀ i, i < z0.length → w.cell? (x.add i) = some (.int .u8 (z0.getD i 0))) ∧ ∀ n ∈ z0, (Lit.int .u8 n).wf = true) (y0 : len0 * 1 ≤ 140737488351232) :
  Calls Try.prog 3 #[.slice a0 len0 cap0] w fun e w' => e = .returned (.bool true) ∧ Below w.heap.size w w' := by
 obtain ⟨l0, rfl, hr0, hm0, hw0, hc0⟩ := ReadsInt.ofRowC w0
 obtain ⟨k, h⟩ := P l0 hm0 y0 hw0
 refine (y_a.calls k _ _ l0 true w (Kd.C_of_reads (d := (0 : Int)) (h1 := fun _ => rfl) hr0) hc0 h rfl).mono ?_
 rintro e w' ⟨rfl, hd⟩
 exact ⟨rfl, hd⟩
end Go.Proofs.Ytkcicbigpbdjpaa.P
end
section
namespace Go.Proofs.Ytkcicbigpbdjpaa.Pure
open Go.RowKit Go.Proofs.YtkcicbigpbdjpaaW.PrintWords Go.Proofs.YtkcicbigpbdjpaaW.PrintLast
theorem wrap_succ {i : Int} {n : Nat} (h0 : 0 ≤ i) (h : i < (n : Int)) (hn : n ≤ 9223372036854775807) : wrap64 (i + 1) = i + 1 := by
 unfold wrap64
 omega
theorem wrap_id {x : Int} (h1 : -9223372036854775808 ≤ x) (h2 : x ≤ 9223372036854775807) : wrap64 x = x := by
 unfold wrap64
 omega
theorem drop_getD {α : Type} (l : List α) (z : α) (i : Int) (h0 : 0 ≤ i) (h : i < (l.length : Int)) : l.drop i.toNat = l.getD i.toNat z :: l.drop (i + 1).toNat := by
 have hi : i.toNat < l.length := by omega
 rw [List.drop_eq_getElem_cons hi, List.getD_eq_getElem?_getD, List.getElem?_eq_getElem hi, show (i + 1).toNat = i.toNat + 1 by omega]
 rfl
theorem getD_mem {α : Type} (l : List α) (z : α) (i : Int) (h0 : 0 ≤ i) (h : i < (l.length : Int)) : l.getD i.toNat z ∈ l := by
 have hi : i.toNat < l.length := by omega
 rw [List.getD_eq_getElem?_getD, List.getElem?_eq_getElem hi]
 exact List.getElem_mem hi
theorem drop_end {α : Type} (l : List α) (i : Int) (h : (l.length : Int) ≤ i) : l.drop i.toNat = [] := List.drop_eq_nil_of_le (by omega)
end Go.Proofs.Ytkcicbigpbdjpaa.Pure
end
section
namespace Go.Proofs.Ytkcicbigpbdjpaa.Pure
open Go.RowKit Go.Proofs.Ytkcicbigpbdjpaa.P Go.Proofs.YtkcicbigpbdjpaaW.PrintWords Go.Proofs.YtkcicbigpbdjpaaW.PrintLast
theorem within_in (a b c : Int) : y_ab.f a b c = some (decide (b ≤ a ∧ a ≤ c)) := by
 unfold y_ab.f
 by_cases h : a ≥ b
 ·rw [if_pos h]
  simp [h]
 ·rw [if_neg h]
  simp [h]
theorem l1In_in (a b c : Int) : y_z.f a b c = some (decide (b ≤ a ∧ a ≤ c)) := by
 unfold y_z.f
 by_cases h : a ≥ b
 ·rw [if_pos h]
  simp [h]
 ·rw [if_neg h]
  simp [h]
def vRow (x : S71) : Bool := decide (0 ≤ x.f0 ∧ x.f0 ≤ 9 ∧ 0 ≤ x.f1 ∧ x.f1 ≤ 99 ∧ 0 ≤ x.f2 ∧ x.f2 ≤ 3)
theorem vRow_impl (x : S71) : y_tb.f x.f0 x.f1 x.f2 = some (vRow x) := by
 unfold y_tb.f vRow
 simp only [within_in, Option.bind_some, decide_eq_true_eq]
 repeat' split
 all_goals (congr 1; simp only [Bool.false_eq, decide_eq_false_iff_not, decide_eq_decide]; omega)
theorem vRow_spec (x : S71) : y_ub.f x.f0 x.f1 x.f2 = some (vRow x) := by
 unfold y_ub.f vRow
 simp only [l1In_in, Option.bind_some, decide_eq_true_eq]
 repeat' split
 all_goals (congr 1; simp only [Bool.false_eq, decide_eq_false_iff_not, decide_eq_decide]; omega)
theorem vRow_iff (x : S71) : vRow x = true ↔ (0 ≤ x.f0 ∧ x.f0 ≤ 9 ∧ 0 ≤ x.f1 ∧ x.f1 ≤ 99 ∧ 0 ≤ x.f2 ∧ x.f2 ≤ 3) := by
 unfold vRow
 exact decide_eq_true_iff
def cost (x : S71) : Int := if vRow x = true then 1 + x.f2 else 0
theorem cost_bd (x : S71) : 0 ≤ cost x ∧ cost x ≤ 4 := by
 unfold cost
 split
 ·have := (vRow_iff x).1 ‹_›
  omega
 ·omega
theorem cost_impl (x : S71) : y_ac.f x.f0 x.f1 x.f2 = some (cost x) := by
 unfold y_ac.f cost
 rw [vRow_impl]
 simp only [Option.bind_some]
 split
 ·have := (vRow_iff x).1 ‹_›
  rw [wrap_id (by omega) (by omega)]
 ·rfl
theorem cost_spec (x : S71) : y_zb.f x.f0 x.f1 x.f2 = some (cost x) := by
 unfold y_zb.f cost
 rw [vRow_spec]
 simp only [Option.bind_some]
 split
 ·have := (vRow_iff x).1 ‹_›
  rw [wrap_id (by omega) (by omega)]
 ·rfl
def tot : List S71 → Int
 | [] => 0
 | x :: l => cost x + tot l
theorem tot_bd (l : List S71) : 0 ≤ tot l ∧ tot l ≤ 4 * l.length := by
 induction l with
 | nil => simp [tot]
 | cons x l ih =>
  have := cost_bd x
  simp only [tot, List.length_cons]
  omega
theorem tot_append (a b : List S71) : tot (a ++ b) = tot a + tot b := by
 induction a with
 | nil => simp [tot]
 | cons x a ih =>
  simp only [List.cons_append, tot, ih]
  omega
theorem tot_spec_go (l : List S71) (hl : l.length ≤ 1000000000000) (d : Nat) : ∀ (k : Nat) (acc i : Int), 0 ≤ i → i ≤ l.length → 0 ≤ acc → acc ≤ 4 * i → (l.length : Int) - i = d → d < k →
  y_w.l0 k l acc i = some (acc + tot (l.drop i.toNat)) := by
 induction d with
 | zero =>
  intro k acc i h0 h1 ha ha2 hd hk
  obtain ⟨k, rfl⟩ : ∃ m, k = m + 1 := ⟨k - 1, by omega⟩
  simp only [y_w.l0]
  rw [if_neg (by omega), drop_end l i (by omega)]
  simp [tot]
 | succ d ih =>
  intro k acc i h0 h1 ha ha2 hd hk
  obtain ⟨k, rfl⟩ : ∃ m, k = m + 1 := ⟨k - 1, by omega⟩
  have hc := cost_bd (rd_T71 l i)
  simp only [y_w.l0]
  rw [if_pos (by omega), if_pos h0, cost_spec]
  simp only [Option.bind_some]
  rw [wrap_succ h0 (n := l.length) (by omega) (by omega), wrap_id (by omega) (by omega), ih k _ (i + 1) (by omega) (by omega) (by omega) (by omega) (by omega) (by omega), drop_getD l z71 i h0 (by omega)]
  simp only [tot]
  congr 1
  show acc + cost (rd_T71 l i) + _ = acc + (cost (rd_T71 l i) + _)
  omega
theorem tot_impl_go (l : List S71) (hl : l.length ≤ 1000000000000) (d : Nat) : ∀ (k : Nat) (acc i : Int), 0 ≤ i → i ≤ l.length → 0 ≤ acc → acc ≤ 4 * i → (l.length : Int) - i = d → d < k →
  y_jb.l0 k acc l (l.length : Int) i = some (acc + tot (l.drop i.toNat)) := by
 induction d with
 | zero =>
  intro k acc i h0 h1 ha ha2 hd hk
  obtain ⟨k, rfl⟩ : ∃ m, k = m + 1 := ⟨k - 1, by omega⟩
  simp only [y_jb.l0]
  rw [if_neg (by omega), drop_end l i (by omega)]
  simp [tot]
 | succ d ih =>
  intro k acc i h0 h1 ha ha2 hd hk
  obtain ⟨k, rfl⟩ : ∃ m, k = m + 1 := ⟨k - 1, by omega⟩
  have hc := cost_bd (rd_T71 l i)
  simp only [y_jb.l0]
  rw [if_pos (by omega), if_pos h0, if_pos (by omega), cost_impl]
  simp only [Option.bind_some]
  rw [wrap_succ h0 (n := l.length) (by omega) (by omega), wrap_id (by omega) (by omega), ih k _ (i + 1) (by omega) (by omega) (by omega) (by omega) (by omega) (by omega), drop_getD l z71 i h0 (by omega)]
  simp only [tot]
  congr 1
  show acc + cost (rd_T71 l i) + _ = acc + (cost (rd_T71 l i) + _)
  omega
theorem tot_spec (l : List S71) (hl : l.length ≤ 1000000000000) (k : Nat) (hk : l.length < k) : y_w.f k l = some (tot l) := by
 unfold y_w.f
 rw [tot_spec_go l hl l.length k 0 0 (by omega) (by omega) (by omega) (by omega) (by omega) hk]
 simp
theorem tot_impl (l : List S71) (hl : l.length ≤ 1000000000000) (k : Nat) (hk : l.length < k) : y_jb.f k l = some (tot l) := by
 unfold y_jb.f
 rw [tot_impl_go l hl l.length k 0 0 (by omega) (by omega) (by omega) (by omega) (by omega) hk]
 simp
def cmpI (a b : Int) : Int := if a < b then -1 else if a > b then 1 else 0
def cmpR (x y : S71) : Int :=
 if cmpI x.f0 y.f0 = 0 then (if cmpI x.f1 y.f1 = 0 then cmpI x.f2 y.f2 else cmpI x.f1 y.f1) else cmpI x.f0 y.f0
theorem order_eq (a b : Int) : y_mb.f a b = some (cmpI a b) := by
 unfold y_mb.f cmpI
 repeat' split
 all_goals rfl
theorem cmp_impl (x y : S71) : y_rb.f x.f0 x.f1 x.f2 y.f0 y.f1 y.f2 = some (cmpR x y) := by
 unfold y_rb.f cmpR
 simp only [order_eq, Option.bind_some]
 repeat' split
 all_goals rfl
theorem cmp_spec (x y : S71) (k : Nat) (hk : 4 ≤ k) : y_g.f k x.f0 x.f1 x.f2 y.f0 y.f1 y.f2 = some (cmpR x y) := by
 obtain ⟨m, rfl⟩ : ∃ m, k = m + 4 := ⟨k - 4, by omega⟩
 have w0 : wrap64 (0 + 1) = 1 := by unfold wrap64; omega
 have w1 : wrap64 (1 + 1) = 2 := by unfold wrap64; omega
 have w2 : wrap64 (2 + 1) = 3 := by unfold wrap64; omega
 have r0 : ∀ a b c : Int, rd [a, b, c] 0 = a := fun _ _ _ => rfl
 have r1 : ∀ a b c : Int, rd [a, b, c] 1 = b := fun _ _ _ => rfl
 have r2 : ∀ a b c : Int, rd [a, b, c] 2 = c := fun _ _ _ => rfl
 unfold y_g.f cmpR cmpI
 simp only [y_g.l0, w0, w1, w2, r0, r1, r2, List.length_cons, List.length_nil]
 by_cases a : x.f0 < y.f0
 ·simp [a]
 by_cases b : x.f0 > y.f0
 ·simp [a, b]
 by_cases c : x.f1 < y.f1
 ·simp [a, b, c]
 by_cases d : x.f1 > y.f1
 ·simp [a, b, c, d]
 by_cases e : x.f2 < y.f2
 ·simp [a, b, c, d, e]
 by_cases f : x.f2 > y.f2
 ·simp [a, b, c, d, e, f]
 ·simp [a, b, c, d, e, f]
theorem cmpI_anti (a b : Int) : cmpI b a = -cmpI a b := by
 unfold cmpI
 repeat' split
 all_goals omega
theorem cmpI_zero (a b : Int) (h : cmpI a b = 0) : a = b := by
 unfold cmpI at h
 repeat' split at h
 all_goals omega
theorem cmpI_self (a : Int) : cmpI a a = 0 := by
 unfold cmpI
 rw [if_neg (by omega), if_neg (by omega)]
theorem cmpR_anti (x y : S71) : cmpR y x = -cmpR x y := by
 unfold cmpR
 simp only [cmpI_anti x.f0 y.f0, cmpI_anti x.f1 y.f1, cmpI_anti x.f2 y.f2]
 repeat' split
 all_goals omega
theorem cmpR_zero (x y : S71) (h : cmpR x y = 0) : x = y := by
 unfold cmpR at h
 split at h
 ·split at h
  ·obtain ⟨a, b, c⟩ := x
   obtain ⟨d, e, f⟩ := y
   simp only at *
   have h0 := cmpI_zero a d ‹_›
   have h1 := cmpI_zero b e ‹_›
   have h2 := cmpI_zero c f h
   subst h0 h1 h2
   rfl
  ·contradiction
 ·contradiction
theorem cmpR_self (x : S71) : cmpR x x = 0 := by
 unfold cmpR
 rw [if_pos (cmpI_self _), if_pos (cmpI_self _), cmpI_self]
theorem cmpI_eq (a b : Int) : cmpI a b = 0 ↔ a = b := ⟨cmpI_zero a b, fun h => h ▸ cmpI_self a⟩
theorem cmpI_le (a b : Int) : cmpI a b ≤ 0 ↔ a ≤ b := by
 unfold cmpI
 repeat' split
 all_goals omega
theorem cmpR_le (x y : S71) : cmpR x y ≤ 0 ↔ (x.f0 < y.f0 ∨ (x.f0 = y.f0 ∧ (x.f1 < y.f1 ∨ (x.f1 = y.f1 ∧ x.f2 ≤ y.f2)))) := by
 unfold cmpR
 have a0 := cmpI_eq x.f0 y.f0
 have a1 := cmpI_eq x.f1 y.f1
 have l0 := cmpI_le x.f0 y.f0
 have l1 := cmpI_le x.f1 y.f1
 have l2 := cmpI_le x.f2 y.f2
 split
 ·split
  ·omega
  ·omega
 ·omega
theorem cmpR_trans (x y z : S71) (h1 : cmpR x y ≤ 0) (h2 : cmpR y z ≤ 0) : cmpR x z ≤ 0 := by
 rw [cmpR_le] at *
 omega
theorem cmpR_total (x y : S71) : cmpR x y ≤ 0 ∨ cmpR y x ≤ 0 := by
 have := cmpR_anti x y
 omega
def srtd : List S71 → Bool
 | [] => true
 | [_] => true
 | x :: y :: l => decide (cmpR x y ≤ 0) && srtd (y :: l)
theorem srt_spec_go (l : List S71) (hl : l.length ≤ 9223372036854775807) (d : Nat) : ∀ (k : Nat) (i : Int), 1 ≤ i → i ≤ l.length → (l.length : Int) - i = d → d + 4 < k → y_v.l0 k l i = some (srtd (l.drop (i - 1).toNat)) := by
 induction d with
 | zero =>
  intro k i h0 h1 hd hk
  obtain ⟨k, rfl⟩ : ∃ m, k = m + 1 := ⟨k - 1, by omega⟩
  simp only [y_v.l0]
  rw [if_neg (by omega), drop_getD l z71 (i - 1) (by omega) (by omega), drop_end l (i - 1 + 1) (by omega)]
  rfl
 | succ d ih =>
  intro k i h0 h1 hd hk
  obtain ⟨k, rfl⟩ : ∃ m, k = m + 1 := ⟨k - 1, by omega⟩
  simp only [y_v.l0]
  rw [wrap_id (x := i - 1) (by omega) (by omega), wrap_succ (by omega) (n := l.length) (by omega) (by omega), if_pos (by omega), if_pos (by omega), if_pos (by omega), if_pos (by omega), cmp_spec _ _ k (by omega)]
  simp only [Option.bind_some]
  have ih := ih k (i + 1) (by omega) (by omega) (by omega) (by omega)
  rw [ih, show i + 1 - 1 = i by omega, drop_getD l z71 (i - 1) (by omega) (by omega), show i - 1 + 1 = i by omega, drop_getD l z71 i (by omega) (by omega)]
  simp only [srtd]
  by_cases hc : cmpR (rd_T71 l (i - 1)) (rd_T71 l i) > 0
  ·rw [if_pos hc]
   have : decide (cmpR (l.getD (i - 1).toNat z71) (l.getD i.toNat z71) ≤ 0) = false := decide_eq_false (by show ¬ (cmpR (rd_T71 l (i - 1)) (rd_T71 l i) ≤ 0); omega)
   rw [this]
   rfl
  ·rw [if_neg hc]
   have : decide (cmpR (l.getD (i - 1).toNat z71) (l.getD i.toNat z71) ≤ 0) = true := decide_eq_true (by show (cmpR (rd_T71 l (i - 1)) (rd_T71 l i) ≤ 0); omega)
   rw [this]
   rfl
theorem srt_impl_go (l : List S71) (hl : l.length ≤ 9223372036854775807) (d : Nat) : ∀ (k : Nat) (i : Int), 1 ≤ i → i ≤ l.length → (l.length : Int) - i = d → d < k → y_u.l0 k l i = some (srtd (l.drop (i - 1).toNat)) := by
 induction d with
 | zero =>
  intro k i h0 h1 hd hk
  obtain ⟨k, rfl⟩ : ∃ m, k = m + 1 := ⟨k - 1, by omega⟩
  simp only [y_u.l0]
  rw [if_neg (by omega), drop_getD l z71 (i - 1) (by omega) (by omega), drop_end l (i - 1 + 1) (by omega)]
  rfl
 | succ d ih =>
  intro k i h0 h1 hd hk
  obtain ⟨k, rfl⟩ : ∃ m, k = m + 1 := ⟨k - 1, by omega⟩
  simp only [y_u.l0]
  rw [wrap_id (x := i - 1) (by omega) (by omega), wrap_succ (by omega) (n := l.length) (by omega) (by omega), if_pos (by omega), if_pos (by omega), if_pos (by omega), if_pos (by omega), cmp_impl]
  simp only [Option.bind_some]
  have ih := ih k (i + 1) (by omega) (by omega) (by omega) (by omega)
  rw [ih, show i + 1 - 1 = i by omega, drop_getD l z71 (i - 1) (by omega) (by omega), show i - 1 + 1 = i by omega, drop_getD l z71 i (by omega) (by omega), cmpR_anti]
  simp only [srtd]
  by_cases hc : cmpR (rd_T71 l (i - 1)) (rd_T71 l i) > 0
  ·rw [if_pos (by omega)]
   have : decide (cmpR (l.getD (i - 1).toNat z71) (l.getD i.toNat z71) ≤ 0) = false := decide_eq_false (by show ¬ (cmpR (rd_T71 l (i - 1)) (rd_T71 l i) ≤ 0); omega)
   rw [this]
   rfl
  ·rw [if_neg (by omega)]
   have : decide (cmpR (l.getD (i - 1).toNat z71) (l.getD i.toNat z71) ≤ 0) = true := decide_eq_true (by show (cmpR (rd_T71 l (i - 1)) (rd_T71 l i) ≤ 0); omega)
   rw [this]
   rfl
theorem srt_spec (l : List S71) (hl : l.length ≤ 9223372036854775807) (k : Nat) (hk : l.length + 4 < k) : y_v.f k l = some (srtd l) := by
 unfold y_v.f
 by_cases h0 : l.length = 0
 ·obtain ⟨k, rfl⟩ : ∃ m, k = m + 1 := ⟨k - 1, by omega⟩
  simp only [y_v.l0]
  rw [if_neg (by omega), List.eq_nil_of_length_eq_zero h0]
  rfl
 ·exact srt_spec_go l hl (l.length - 1) k 1 (by omega) (by omega) (by omega) (by omega)
theorem srt_impl (l : List S71) (hl : l.length ≤ 9223372036854775807) (k : Nat) (hk : l.length + 4 < k) : y_u.f k l = some (srtd l) := by
 unfold y_u.f
 by_cases h0 : l.length = 0
 ·obtain ⟨k, rfl⟩ : ∃ m, k = m + 1 := ⟨k - 1, by omega⟩
  simp only [y_u.l0]
  rw [if_neg (by omega), List.eq_nil_of_length_eq_zero h0]
  rfl
 ·exact srt_impl_go l hl (l.length - 1) k 1 (by omega) (by omega) (by omega) (by omega)
def vRows (l : List S71) : Bool := l.all vRow && decide (l.length ≤ 24)
theorem vRows_spec_go (l : List S71) (hl : l.length ≤ 9223372036854775807) (d : Nat) : ∀ (k : Nat) (i : Int), 0 ≤ i → i ≤ l.length → (l.length : Int) - i = d → d < k → y_y.l0 k l i = some ((l.drop i.toNat).all vRow && decide (l.length ≤ 24)) := by
 induction d with
 | zero =>
  intro k i h0 h1 hd hk
  obtain ⟨k, rfl⟩ : ∃ m, k = m + 1 := ⟨k - 1, by omega⟩
  simp only [y_y.l0]
  rw [if_neg (by omega), drop_end l i (by omega)]
  simp only [List.all_nil, Bool.true_and]
  congr 1
  exact decide_eq_decide.2 (by omega)
 | succ d ih =>
  intro k i h0 h1 hd hk
  obtain ⟨k, rfl⟩ : ∃ m, k = m + 1 := ⟨k - 1, by omega⟩
  simp only [y_y.l0]
  rw [if_pos (by omega), if_pos h0, vRow_spec, wrap_succ h0 (n := l.length) (by omega) (by omega)]
  simp only [Option.bind_some]
  rw [ih k (i + 1) (by omega) (by omega) (by omega) (by omega), drop_getD l z71 i h0 (by omega)]
  simp only [List.all_cons]
  show (if vRow (rd_T71 l i) = true then _ else _) = some ((vRow (rd_T71 l i) && _) && _)
  cases vRow (rd_T71 l i) <;> simp
theorem vRows_spec (l : List S71) (hl : l.length ≤ 9223372036854775807) (k : Nat) (hk : l.length < k) : y_y.f k l = some (vRows l) := by
 unfold y_y.f
 exact vRows_spec_go l hl l.length k 0 (by omega) (by omega) (by omega) hk
theorem allV_impl_go (l : List S71) (hl : l.length ≤ 9223372036854775807) (d : Nat) : ∀ (k : Nat) (i : Int), 0 ≤ i → i ≤ l.length → (l.length : Int) - i = d → d < k → y_ob.l0 k l (l.length : Int) i = some ((l.drop i.toNat).all vRow) := by
 induction d with
 | zero =>
  intro k i h0 h1 hd hk
  obtain ⟨k, rfl⟩ : ∃ m, k = m + 1 := ⟨k - 1, by omega⟩
  simp only [y_ob.l0]
  rw [if_neg (by omega), drop_end l i (by omega)]
  rfl
 | succ d ih =>
  intro k i h0 h1 hd hk
  obtain ⟨k, rfl⟩ : ∃ m, k = m + 1 := ⟨k - 1, by omega⟩
  simp only [y_ob.l0]
  rw [if_pos (by omega), if_pos h0, if_pos (by omega), vRow_impl, wrap_succ h0 (n := l.length) (by omega) (by omega)]
  simp only [Option.bind_some]
  rw [ih k (i + 1) (by omega) (by omega) (by omega) (by omega), drop_getD l z71 i h0 (by omega)]
  simp only [List.all_cons]
  show (if vRow (rd_T71 l i) = true then _ else _) = some (vRow (rd_T71 l i) && _)
  cases vRow (rd_T71 l i) <;> simp
theorem vRows_impl (l : List S71) (hl : l.length ≤ 9223372036854775807) (k : Nat) (hk : l.length < k) : y_qb.f k l = some (vRows l) := by
 unfold y_qb.f y_ob.f vRows
 rw [allV_impl_go l hl l.length k 0 (by omega) (by omega) (by omega) hk]
 simp only [Option.bind_some]
 by_cases h : l.length ≤ 24
 ·rw [if_pos (by omega), decide_eq_true h]
  simp
 ·rw [if_neg (by omega), decide_eq_false h]
  simp
end Go.Proofs.Ytkcicbigpbdjpaa.Pure
end
