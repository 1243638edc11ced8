-- merged by pack.py out of Px38 Open StmtFnExactExternalSort Base Row Cost Cmp Srt SortS MinS RSel Flat (words: printed by the kit's print.sh; what this claim does not use is left out)
import Derived.ChangeArms
import Derived.ChangeShapes
import Derived.Deep.Slices
import Derived.WideShapes
import Derived.Test.YtkcicbigpbdjpaaKFnExactExternalSort0
import Derived.Test.YtkcicbigpbdjpaaKFnExactExternalSort1
import Derived.Test.YtkcicbigpbdjpaaKFnExactExternalSort2
import Derived.Test.YtkcicbigpbdjpaaKFnExactExternalSort4
import Derived.Test.YtkcicbigpbdjpaaKFnExactExternalSort6
import Derived.Test.YtkcicbigpbdjpaaKFnExactExternalSort7
import Derived.Test.YtkcicbigpbdjpaaKFnExactExternalSort8
import Derived.Test.YtkcicbigpbdjpaaKFnExactExternalSort10
import Derived.Test.YtkcicbigpbdjpaaKFnExactExternalSort12
import Derived.Test.YtkcicbigpbdjpaaKFnExactExternalSort13
namespace Go.Proofs.Ytkcicbigpbdjpaa
section
open Go.RowKit Go.Proofs.YtkcicbigpbdjpaaW.PrintWords Go.Proofs.YtkcicbigpbdjpaaW.PrintLast Go.Proofs.YtkcicbigpbdjpaaW.PrintMore
abbrev z14a := @Aside0.mk
abbrev z14b := @pw_below_drewN
abbrev z14c := @below_drew1
abbrev z14d := @below_alloc
abbrev z14e := @Option.bind_eq_some_iff
abbrev z14f := @Kd.R_alloc
abbrev z14g := @Kd.R_drewN
abbrev z14h := @Kd.R_drew
abbrev z14i := @Kd.R_below
abbrev z14j := @Kd.C_alloc
abbrev z14k := @Kd.C_drewN
abbrev z14l := @Kd.C_drew
end
theorem zm14a {α β : Type} (f : α → β) (l : List α) : l.toArray.map f = (l.map f).toArray := by simp
theorem zm14b {α β : Type} (f : α → β) (a : α) (l : List α) : (a :: l).map f = f a :: l.map f := rfl
theorem zm14c {α β : Type} (f : α → β) : ([] : List α).map f = [] := rfl
theorem zm14d {α : Type} (n : Nat) (l : List α) : (l.drop n).length = l.length - n := List.length_drop
theorem zm14e {α : Type} (n : Nat) (l : List α) : (l.take n).length = min n l.length := List.length_take
end Go.Proofs.Ytkcicbigpbdjpaa
section
namespace Go.Proofs.Ytkcicbigpbdjpaa.P
open Go.RowKit Go.Proofs.YtkcicbigpbdjpaaW.PrintWords Go.Proofs.YtkcicbigpbdjpaaW.PrintLast Go.Proofs.YtkcicbigpbdjpaaW.PrintMore
attribute [local go_sem] max2_int min2_int max_two min_two max_three min_three max_four min_four
set_option linter.unusedVariables false
set_option linter.unusedSimpArgs false
mutual
def y_c.j0 : Nat → List (S118) → Int → List (S71) → Int → Bool → List (S71) → List (S71) → Int → Bool → Bool → Option (Bool)
 | 0, _, _, _, _, _, _, _, _, _, _ => none
 | k + 1, x0, x1, x6, x7, x8, x9, x10, x11, x12, x54 => if x54 = true then (some false) else ((y_p.f k x0).bind fun t894 => ((y_e.f k x9 t894).bind fun t897 => (if t897 = true then ((y_x.f k x9 1).bind fun bt898 => (if bt898.1 < 0 then (y_c.j1 k x0 x1 x6 x7 x8 x10 true) else ((y_e.f k x10 x6).bind fun t900 => (if t900 = true then (if x11 = x7 then (y_c.j1 k x0 x1 x6 x7 x8 x10 (x12 != x8)) else (y_c.j1 k x0 x1 x6 x7 x8 x10 true)) else (y_c.j1 k x0 x1 x6 x7 x8 x10 true))))) else (some false))))
def y_c.j1 : Nat → List (S118) → Int → List (S71) → Int → Bool → List (S71) → Bool → Option (Bool)
 | 0, _, _, _, _, _, _, _ => none
 | k + 1, x0, x1, x6, x7, x8, x10, x80 => if x80 = true then (some false) else ((y_x.f k x10 1).bind fun bt901 => ((y_db.f k bt901.2 1).bind fun t903 => (if t903 < 0 then (some false) else (if t903 = bt901.1 then ((y_p.f k x0).bind fun t904 => ((y_ab.f k t904 x1).bind fun bt907 => ((y_e.f k bt907.1 x6).bind fun t912 => (if t912 = true then (if bt907.2.1 = x7 then (y_c.j2 k bt901.2 bt901.1 (bt907.2.2 != x8)) else (y_c.j2 k bt901.2 bt901.1 true)) else (y_c.j2 k bt901.2 bt901.1 true))))) else (some false)))))
def y_c.j2 : Nat → List (S71) → Int → Bool → Option (Bool)
 | 0, _, _, _ => none
 | k + 1, x10, x14, x113 => if x113 = true then (some false) else ((y_db.f k x10 1).bind fun t913 => (if t913 < 0 then (some false) else (if t913 = x14 then (some true) else (some false))))
end
def y_c.f (k : Nat) (l0 : List (S118)) (a1 : Int) : Option (Bool) := (y_nb.f l0 1048576).bind fun t876 => (if t876 < 0 then (some true) else ((y_p.f k l0).bind fun t877 => ((y_pb.f k t877 a1).bind fun bt880 => ((y_p.f k l0).bind fun t885 => ((y_ab.f k t885 a1).bind fun bt888 => ((y_e.f k bt888.1 bt880.1).bind fun t893 => (if t893 = true then (if bt888.2.1 = bt880.2.1 then (y_c.j0 k l0 a1 bt880.1 bt880.2.1 bt880.2.2 t885 bt888.1 bt888.2.1 bt888.2.2 (bt888.2.2 != bt880.2.2)) else (y_c.j0 k l0 a1 bt880.1 bt880.2.1 bt880.2.2 t885 bt888.1 bt888.2.1 bt888.2.2 true)) else (y_c.j0 k l0 a1 bt880.1 bt880.2.1 bt880.2.2 t885 bt888.1 bt888.2.1 bt888.2.2 true))))))))
set_option maxHeartbeats 8000000 in
set_option maxRecDepth 100000 in
theorem y_c.calls (k : Nat) (A0 : Option Addr) (c0 : Nat) (l0 : List (S118)) (a1 : Int) (r : Bool) (w : World) (hr0 : Kd.C k118 w A0 l0.length l0) (hc0 : l0.length ≤ c0) (h : y_c.f k l0 a1 = some r) (hr_ : r = true) :
  Calls Try.prog 7 #[.slice A0 l0.length c0, .int .i64 a1] w fun e w' => e = .returned (.bool r) ∧ Below w.heap.size w w' := by
 have HR0 := z14a hr0
 have HC0 := z14a hc0
 clear hr0 hc0
 have HB := z14a (Below.refl w.heap.size w)
 have HR_ := z14a hr_
 clear hr_
 have H := h
 unfold y_c.f at H
 clear h
 replace H := z14e.mp H
 obtain ⟨t876, A30, H⟩ := H
 have A3 := z14a A30
 clear A30
 by_cases c4 : t876 < 0
 ·rw [if_pos c4] at H
  have c4b0 : decide (t876 < 0) = true := decide_eq_true c4
  clear c4
  obtain rfl := Option.some.inj H
  go_enter Try.func7, Try.ntmps7
  go_wp2_with (first | ((with_reducible refine gate_callee (f := 33) rfl ?_); refine goesL_ (some 21) rfl rfl Try.func33 (by kernel_rfl) rfl #[.slice A0 l0.length c0, .int .i64 1048576] rfl (by (try simp only [zm14a, zm14b, zm14c]); first | done | rfl | (simp only [zm14d, zm14e]; rfl)) ?_; (with_reducible refine (y_nb.calls _ _ l0 1048576 t876 _ ?side1 ?side2 A3.out).mono ?_); (case side1 => repeat (first | exact HR0.out | (with_reducible refine z14j ?_ _) | (with_reducible refine z14k ?_ _) | (with_reducible refine z14l ?_))); (case side2 => exact HC0.out); rintro e w' ⟨rfl, ⟨nd, rfl⟩⟩; refine ⟨_, rfl, ?_⟩))
  go_ret
  exact ⟨by first | rfl | (simp [errW_none, errW_some] <;> rfl) | (simp [*, errW_none, errW_some] <;> rfl), by repeat (first | (with_reducible first | exact HB.out | apply z14d | apply z14b | apply z14c) | exact HB.out)⟩
 ·rw [if_neg c4] at H
  have c4b0 : decide (t876 < 0) = false := decide_eq_false c4
  clear c4
  replace H := z14e.mp H
  obtain ⟨t877, A50, H⟩ := H
  have A5 := z14a A50
  clear A50
  replace H := z14e.mp H
  obtain ⟨⟨t880, t881, t882⟩, A60, H⟩ := H
  replace H : ((y_p.f k l0).bind fun t885 => ((y_ab.f k t885 a1).bind fun bt888 => ((y_e.f k bt888.1 t880).bind fun t893 => (if t893 = true then (if bt888.2.1 = t881 then (y_c.j0 k l0 a1 t880 t881 t882 t885 bt888.1 bt888.2.1 bt888.2.2 (bt888.2.2 != t882)) else (y_c.j0 k l0 a1 t880 t881 t882 t885 bt888.1 bt888.2.1 bt888.2.2 true)) else (y_c.j0 k l0 a1 t880 t881 t882 t885 bt888.1 bt888.2.1 bt888.2.2 true))))) = some r := H
  have A6 := z14a A60
  clear A60
  replace H := z14e.mp H
  obtain ⟨t885, A70, H⟩ := H
  have A7 := z14a A70
  clear A70
  replace H := z14e.mp H
  obtain ⟨⟨t888, t889, t890⟩, A80, H⟩ := H
  replace H : ((y_e.f k t888 t880).bind fun t893 => (if t893 = true then (if t889 = t881 then (y_c.j0 k l0 a1 t880 t881 t882 t885 t888 t889 t890 (t890 != t882)) else (y_c.j0 k l0 a1 t880 t881 t882 t885 t888 t889 t890 true)) else (y_c.j0 k l0 a1 t880 t881 t882 t885 t888 t889 t890 true))) = some r := H
  have A8 := z14a A80
  clear A80
  have HC9 := z14a H
  clear H
  go_enter Try.func7, Try.ntmps7
  go_upto_region 8 with (first | ((with_reducible refine gate_callee (f := 33) rfl ?_); refine goesL_ (some 21) rfl rfl Try.func33 (by kernel_rfl) rfl #[.slice A0 l0.length c0, .int .i64 1048576] rfl (by (try simp only [zm14a, zm14b, zm14c]); first | done | rfl | (simp only [zm14d, zm14e]; rfl)) ?_; (with_reducible refine (y_nb.calls _ _ l0 1048576 t876 _ ?side1 ?side2 A3.out).mono ?_); (case side1 => repeat (first | exact HR0.out | (with_reducible refine z14j ?_ _) | (with_reducible refine z14k ?_ _) | (with_reducible refine z14l ?_))); (case side2 => exact HC0.out); rintro e w' ⟨rfl, ⟨nd, rfl⟩⟩; refine ⟨_, rfl, ?_⟩) | ((with_reducible refine gate_callee (f := 34) rfl ?_); refine goesL_ (some 26) rfl rfl Try.func34 (by kernel_rfl) rfl #[.slice A0 l0.length c0] rfl (by (try simp only [zm14a, zm14b, zm14c]); first | done | rfl | (simp only [zm14d, zm14e]; rfl)) ?_; (with_reducible refine (y_p.calls k _ _ l0 t877 _ ?side1 ?side2 A5.out).mono ?_); (case side1 => repeat (first | exact HR0.out | (with_reducible refine z14j ?_ _) | (with_reducible refine z14k ?_ _) | (with_reducible refine z14l ?_))); (case side2 => exact HC0.out); rintro e w10 ⟨v878, rfl, ho0, hb⟩; refine ⟨_, rfl, ?_⟩; have n0_ := z14a (Kd.R_lower ho0 (below_size (by repeat (first | (with_reducible first | exact HB.out | apply z14d | apply z14b | apply z14c) | exact HB.out)))); have n1_ := z14a (below_step (by repeat (first | (with_reducible first | exact HB.out | apply z14d | apply z14b | apply z14c) | exact HB.out)) hb); clear HB; have HO879 := n0_; have HB := n1_; clear n0_ n1_; (try clear hb); (try clear hb2); (try clear hk); (try clear hi); (try clear ho0); obtain ⟨Ao11, co11, eo11⟩ := Kd.R_slice HO879.out; subst eo11) | ((with_reducible refine gate_callee (f := 57) rfl ?_); refine goesL_ (some 28) rfl rfl Try.func57 (by kernel_rfl) rfl #[.slice Ao11 t877.length co11, .int .i64 a1] rfl (by (try simp only [zm14a, zm14b, zm14c]); first | done | rfl | (simp only [zm14d, zm14e]; rfl)) ?_; (with_reducible refine (y_pb.calls k _ _ t877 a1 t880 t881 t882 _ ?side1 ?side2 A6.out).mono ?_); (case side1 => repeat (first | exact (Kd.R_reads' HO879.out).2.2 | (with_reducible refine z14j ?_ _) | (with_reducible refine z14k ?_ _) | (with_reducible refine z14l ?_))); (case side2 => exact (Kd.R_reads' HO879.out).2.1); rintro e w12 ⟨v883, rfl, ho0, hb⟩; refine ⟨_, rfl, ?_⟩; have n0_ := z14a (Kd.R_elder' (by (with_reducible repeat (first | apply z14f | apply z14g | apply z14h)); exact HO879.out) (Kd.R_base ho0) hb); have n1_ := z14a (Kd.R_lower (Kd.R_new' ho0 (Kd.R_lt (by (with_reducible repeat (first | apply z14f | apply z14g | apply z14h)); exact HO879.out))) (below_size (by repeat (first | (with_reducible first | exact HB.out | apply z14d | apply z14b | apply z14c) | exact HB.out)))); have n2_ := z14a (below_step (by repeat (first | (with_reducible first | exact HB.out | apply z14d | apply z14b | apply z14c) | exact HB.out)) hb); clear HO879; clear HB; have HO879 := n0_; have HO884 := n1_; have HB := n2_; clear n0_ n1_ n2_; (try clear hb); (try clear hb2); (try clear hk); (try clear hi); (try clear ho0)) | ((with_reducible refine gate_callee (f := 34) rfl ?_); refine goesL_ (some 33) rfl rfl Try.func34 (by kernel_rfl) rfl #[.slice A0 l0.length c0] rfl (by (try simp only [zm14a, zm14b, zm14c]); first | done | rfl | (simp only [zm14d, zm14e]; rfl)) ?_; (with_reducible refine (y_p.calls k _ _ l0 t885 _ ?side1 ?side2 A7.out).mono ?_); (case side1 => repeat (first | exact (Kd.C_below HR0.out HB.out) | (with_reducible refine z14j ?_ _) | (with_reducible refine z14k ?_ _) | (with_reducible refine z14l ?_))); (case side2 => exact HC0.out); rintro e w13 ⟨v886, rfl, ho0, hb⟩; refine ⟨_, rfl, ?_⟩; have n0_ := z14a (Kd.R_elder' (by (with_reducible repeat (first | apply z14f | apply z14g | apply z14h)); exact HO879.out) (Kd.R_base ho0) hb); have n1_ := z14a (Kd.R_elder' (by (with_reducible repeat (first | apply z14f | apply z14g | apply z14h)); exact HO884.out) (Kd.R_base ho0) hb); have n2_ := z14a (Kd.R_lower (Kd.R_new' (Kd.R_new' ho0 (Kd.R_lt (by (with_reducible repeat (first | apply z14f | apply z14g | apply z14h)); exact HO879.out))) (Kd.R_lt (by (with_reducible repeat (first | apply z14f | apply z14g | apply z14h)); exact HO884.out))) (below_size (by repeat (first | (with_reducible first | exact HB.out | apply z14d | apply z14b | apply z14c) | exact HB.out)))); have n3_ := z14a (below_step (by repeat (first | (with_reducible first | exact HB.out | apply z14d | apply z14b | apply z14c) | exact HB.out)) hb); clear HO879; clear HO884; clear HB; have HO879 := n0_; have HO884 := n1_; have HO887 := n2_; have HB := n3_; clear n0_ n1_ n2_ n3_; (try clear hb); (try clear hb2); (try clear hk); (try clear hi); (try clear ho0); obtain ⟨Ao14, co14, eo14⟩ := Kd.R_slice HO887.out; subst eo14) | ((with_reducible refine gate_callee (f := 58) rfl ?_); refine goesL_ (some 37) rfl rfl Try.func58 (by kernel_rfl) rfl #[.slice Ao14 t885.length co14, .int .i64 a1] rfl (by (try simp only [zm14a, zm14b, zm14c]); first | done | rfl | (simp only [zm14d, zm14e]; rfl)) ?_; (with_reducible refine (y_ab.calls k _ _ t885 a1 t888 t889 t890 _ ?side1 ?side2 A8.out).mono ?_); (case side1 => repeat (first | exact (Kd.R_reads' HO887.out).2.2 | (with_reducible refine z14j ?_ _) | (with_reducible refine z14k ?_ _) | (with_reducible refine z14l ?_))); (case side2 => exact (Kd.R_reads' HO887.out).2.1); rintro e w15 ⟨v891, rfl, ho0, hb⟩; refine ⟨_, rfl, ?_⟩; have n0_ := z14a (Kd.R_elder' (by (with_reducible repeat (first | apply z14f | apply z14g | apply z14h)); exact HO879.out) (Kd.R_base ho0) hb); have n1_ := z14a (Kd.R_elder' (by (with_reducible repeat (first | apply z14f | apply z14g | apply z14h)); exact HO884.out) (Kd.R_base ho0) hb); have n2_ := z14a (Kd.R_elder' (by (with_reducible repeat (first | apply z14f | apply z14g | apply z14h)); exact HO887.out) (Kd.R_base ho0) hb); have n3_ := z14a (Kd.R_lower (Kd.R_new' (Kd.R_new' (Kd.R_new' ho0 (Kd.R_lt (by (with_reducible repeat (first | apply z14f | apply z14g | apply z14h)); exact HO879.out))) (Kd.R_lt (by (with_reducible repeat (first | apply z14f | apply z14g | apply z14h)); exact HO884.out))) (Kd.R_lt (by (with_reducible repeat (first | apply z14f | apply z14g | apply z14h)); exact HO887.out))) (below_size (by repeat (first | (with_reducible first | exact HB.out | apply z14d | apply z14b | apply z14c) | exact HB.out)))); have n4_ := z14a (below_step (by repeat (first | (with_reducible first | exact HB.out | apply z14d | apply z14b | apply z14c) | exact HB.out)) hb); clear HO879; clear HO884; clear HO887; clear HB; have HO879 := n0_; have HO884 := n1_; have HO887 := n2_; have HO892 := n3_; have HB := n4_; clear n0_ n1_ n2_ n3_ n4_; (try clear hb); (try clear hb2); (try clear hk); (try clear hi); (try clear ho0)))
  (try simp only [Act.put, List.setIfInBounds_toArray, List.set_cons_zero, List.set_cons_succ])
  go_cut [54] (fun v54 wc => ∃ (kq : Nat) (x54_8 : Bool), v54 = .bool x54_8 ∧ Aside0 (y_c.j0 kq l0 a1 t880 t881 t882 t885 t888 t889 t890 x54_8 = some r) ∧ Aside0 (kq ≤ k) ∧ Aside0 (Kd.R k71 71 wc w.heap.size (fun k_ => some k_ ≠ ((.slice Ao14 t885.length co14) : Value).ownBlock ∧ some k_ ≠ (v891 : Value).ownBlock) v883 t880) ∧ Aside0 (Kd.R k71 71 wc w.heap.size (fun k_ => some k_ ≠ (v883 : Value).ownBlock ∧ some k_ ≠ (v891 : Value).ownBlock) (.slice Ao14 t885.length co14) t885) ∧ Aside0 (Kd.R k71 71 wc w.heap.size (fun k_ => some k_ ≠ (v883 : Value).ownBlock ∧ some k_ ≠ ((.slice Ao14 t885.length co14) : Value).ownBlock) v891 t888) ∧ Aside0 (Below w.heap.size w wc))
  case first =>
   have H := HC9.out
   clear HC9
   replace H := z14e.mp H
   obtain ⟨t893, A160, H⟩ := H
   have A16 := z14a A160
   clear A160
   by_cases c17 : t893 = true
   ·subst c17
    rw [if_pos rfl] at H
    by_cases c18 : t889 = t881
    ·rw [if_pos c18] at H
     have c18b0 : (t889 == t881) = true := beq_iff_eq.mpr c18
     have c18b1 : (t889 != t881) = false := bne_eq_false_iff_eq.mpr c18
     clear c18
     (first | rw [c18b0] | (simp only [i64_w, i32_w]; rw [c18b0]) | skip)
     have H' := z14a H
     clear H
     obtain ⟨Ao19, co19, eo19⟩ := Kd.R_slice HO892.out
     subst eo19
     obtain ⟨Ao20, co20, eo20⟩ := Kd.R_slice HO884.out
     subst eo20
     go_wp2_with (first | ((with_reducible refine gate_callee (f := 36) rfl ?_); refine goesL_ (some 43) rfl rfl Try.func36 (by kernel_rfl) rfl #[.slice Ao19 t888.length co19, .slice Ao20 t880.length co20] rfl (by (try simp only [zm14a, zm14b, zm14c]); first | done | rfl | (simp only [zm14d, zm14e]; rfl)) ?_; (with_reducible refine (y_e.calls k _ _ t888 _ _ t880 true _ ?side1 ?side2 ?side3 ?side4 A16.out).mono ?_); (case side1 => repeat (first | exact (Kd.R_reads' HO892.out).2.2 | (with_reducible refine z14j ?_ _) | (with_reducible refine z14k ?_ _) | (with_reducible refine z14l ?_))); (case side2 => exact (Kd.R_reads' HO892.out).2.1); (case side3 => repeat (first | exact (Kd.R_reads' HO884.out).2.2 | (with_reducible refine z14j ?_ _) | (with_reducible refine z14k ?_ _) | (with_reducible refine z14l ?_))); (case side4 => exact (Kd.R_reads' HO884.out).2.1); rintro e w21 ⟨rfl, hb⟩; refine ⟨_, rfl, ?_⟩; have n0_ := z14a (z14i (by (with_reducible repeat (first | apply z14f | apply z14g | apply z14h)); exact HO879.out) hb); have n1_ := z14a (z14i (by (with_reducible repeat (first | apply z14f | apply z14g | apply z14h)); exact HO884.out) hb); have n2_ := z14a (z14i (by (with_reducible repeat (first | apply z14f | apply z14g | apply z14h)); exact HO887.out) hb); have n3_ := z14a (z14i (by (with_reducible repeat (first | apply z14f | apply z14g | apply z14h)); exact HO892.out) hb); have n4_ := z14a (below_step (by repeat (first | (with_reducible first | exact HB.out | apply z14d | apply z14b | apply z14c) | exact HB.out)) hb); clear HO879; clear HO884; clear HO887; clear HO892; clear HB; have HO879 := n0_; have HO884 := n1_; have HO887 := n2_; have HO892 := n3_; have HB := n4_; clear n0_ n1_ n2_ n3_ n4_; (try clear hb); (try clear hb2); (try clear hk); (try clear hi)))
     go_meet
     case rel => exact ⟨_, ((t890 != t882)), (by first | rfl | (simp; done) | (simp [*]; done)), H', ⟨by first | omega | exact Nat.le_refl _⟩, ⟨by (with_reducible repeat (first | apply z14f | apply z14g | apply z14h)); exact Kd.R_mono HO884.out (fun _ hk => ⟨hk.1.2, hk.2⟩)⟩, ⟨by (with_reducible repeat (first | apply z14f | apply z14g | apply z14h)); exact Kd.R_mono HO887.out (fun _ hk => ⟨hk.1.2, hk.2⟩)⟩, ⟨by (with_reducible repeat (first | apply z14f | apply z14g | apply z14h)); exact Kd.R_mono HO892.out (fun _ hk => ⟨hk.1.2, hk.2⟩)⟩, ⟨by repeat (first | (with_reducible first | exact HB.out | apply z14d | apply z14b | apply z14c) | exact HB.out)⟩⟩
    ·rw [if_neg c18] at H
     have c18b0 : (t889 == t881) = false := beq_eq_false_iff_ne.mpr c18
     have c18b1 : (t889 != t881) = true := bne_iff_ne.mpr c18
     (first | rw [c18b0] | (simp only [i64_w, i32_w]; rw [c18b0]) | skip)
     have H' := z14a H
     clear H
     obtain ⟨Ao22, co22, eo22⟩ := Kd.R_slice HO892.out
     subst eo22
     obtain ⟨Ao23, co23, eo23⟩ := Kd.R_slice HO884.out
     subst eo23
     go_wp2_with (first | ((with_reducible refine gate_callee (f := 36) rfl ?_); refine goesL_ (some 43) rfl rfl Try.func36 (by kernel_rfl) rfl #[.slice Ao22 t888.length co22, .slice Ao23 t880.length co23] rfl (by (try simp only [zm14a, zm14b, zm14c]); first | done | rfl | (simp only [zm14d, zm14e]; rfl)) ?_; (with_reducible refine (y_e.calls k _ _ t888 _ _ t880 true _ ?side1 ?side2 ?side3 ?side4 A16.out).mono ?_); (case side1 => repeat (first | exact (Kd.R_reads' HO892.out).2.2 | (with_reducible refine z14j ?_ _) | (with_reducible refine z14k ?_ _) | (with_reducible refine z14l ?_))); (case side2 => exact (Kd.R_reads' HO892.out).2.1); (case side3 => repeat (first | exact (Kd.R_reads' HO884.out).2.2 | (with_reducible refine z14j ?_ _) | (with_reducible refine z14k ?_ _) | (with_reducible refine z14l ?_))); (case side4 => exact (Kd.R_reads' HO884.out).2.1); rintro e w24 ⟨rfl, hb⟩; refine ⟨_, rfl, ?_⟩; have n0_ := z14a (z14i (by (with_reducible repeat (first | apply z14f | apply z14g | apply z14h)); exact HO879.out) hb); have n1_ := z14a (z14i (by (with_reducible repeat (first | apply z14f | apply z14g | apply z14h)); exact HO884.out) hb); have n2_ := z14a (z14i (by (with_reducible repeat (first | apply z14f | apply z14g | apply z14h)); exact HO887.out) hb); have n3_ := z14a (z14i (by (with_reducible repeat (first | apply z14f | apply z14g | apply z14h)); exact HO892.out) hb); have n4_ := z14a (below_step (by repeat (first | (with_reducible first | exact HB.out | apply z14d | apply z14b | apply z14c) | exact HB.out)) hb); clear HO879; clear HO884; clear HO887; clear HO892; clear HB; have HO879 := n0_; have HO884 := n1_; have HO887 := n2_; have HO892 := n3_; have HB := n4_; clear n0_ n1_ n2_ n3_ n4_; (try clear hb); (try clear hb2); (try clear hk); (try clear hi)))
     go_meet
     case rel => exact ⟨_, (true), (by first | rfl | (simp; done) | (simp [*]; done)), H', ⟨by first | omega | exact Nat.le_refl _⟩, ⟨by (with_reducible repeat (first | apply z14f | apply z14g | apply z14h)); exact Kd.R_mono HO884.out (fun _ hk => ⟨hk.1.2, hk.2⟩)⟩, ⟨by (with_reducible repeat (first | apply z14f | apply z14g | apply z14h)); exact Kd.R_mono HO887.out (fun _ hk => ⟨hk.1.2, hk.2⟩)⟩, ⟨by (with_reducible repeat (first | apply z14f | apply z14g | apply z14h)); exact Kd.R_mono HO892.out (fun _ hk => ⟨hk.1.2, hk.2⟩)⟩, ⟨by repeat (first | (with_reducible first | exact HB.out | apply z14d | apply z14b | apply z14c) | exact HB.out)⟩⟩
   ·replace c17 := Bool.eq_false_iff.mpr c17
    subst c17
    have H1 : (y_c.j0 k l0 a1 t880 t881 t882 t885 t888 t889 t890 true) = some r := by rw [if_neg (show ¬ (false = true) by decide)] at H; exact H
    clear H
    have H := H1
    clear H1
    have H' := z14a H
    clear H
    obtain ⟨Ao25, co25, eo25⟩ := Kd.R_slice HO892.out
    subst eo25
    obtain ⟨Ao26, co26, eo26⟩ := Kd.R_slice HO884.out
    subst eo26
    go_wp2_with (first | ((with_reducible refine gate_callee (f := 36) rfl ?_); refine goesL_ (some 43) rfl rfl Try.func36 (by kernel_rfl) rfl #[.slice Ao25 t888.length co25, .slice Ao26 t880.length co26] rfl (by (try simp only [zm14a, zm14b, zm14c]); first | done | rfl | (simp only [zm14d, zm14e]; rfl)) ?_; (with_reducible refine (y_e.calls k _ _ t888 _ _ t880 false _ ?side1 ?side2 ?side3 ?side4 A16.out).mono ?_); (case side1 => repeat (first | exact (Kd.R_reads' HO892.out).2.2 | (with_reducible refine z14j ?_ _) | (with_reducible refine z14k ?_ _) | (with_reducible refine z14l ?_))); (case side2 => exact (Kd.R_reads' HO892.out).2.1); (case side3 => repeat (first | exact (Kd.R_reads' HO884.out).2.2 | (with_reducible refine z14j ?_ _) | (with_reducible refine z14k ?_ _) | (with_reducible refine z14l ?_))); (case side4 => exact (Kd.R_reads' HO884.out).2.1); rintro e w27 ⟨rfl, hb⟩; refine ⟨_, rfl, ?_⟩; have n0_ := z14a (z14i (by (with_reducible repeat (first | apply z14f | apply z14g | apply z14h)); exact HO879.out) hb); have n1_ := z14a (z14i (by (with_reducible repeat (first | apply z14f | apply z14g | apply z14h)); exact HO884.out) hb); have n2_ := z14a (z14i (by (with_reducible repeat (first | apply z14f | apply z14g | apply z14h)); exact HO887.out) hb); have n3_ := z14a (z14i (by (with_reducible repeat (first | apply z14f | apply z14g | apply z14h)); exact HO892.out) hb); have n4_ := z14a (below_step (by repeat (first | (with_reducible first | exact HB.out | apply z14d | apply z14b | apply z14c) | exact HB.out)) hb); clear HO879; clear HO884; clear HO887; clear HO892; clear HB; have HO879 := n0_; have HO884 := n1_; have HO887 := n2_; have HO892 := n3_; have HB := n4_; clear n0_ n1_ n2_ n3_ n4_; (try clear hb); (try clear hb2); (try clear hk); (try clear hi)))
    go_meet
    case rel => exact ⟨_, (true), (by first | rfl | (simp; done) | (simp [*]; done)), H', ⟨by first | omega | exact Nat.le_refl _⟩, ⟨by (with_reducible repeat (first | apply z14f | apply z14g | apply z14h)); exact Kd.R_mono HO884.out (fun _ hk => ⟨hk.1.2, hk.2⟩)⟩, ⟨by (with_reducible repeat (first | apply z14f | apply z14g | apply z14h)); exact Kd.R_mono HO887.out (fun _ hk => ⟨hk.1.2, hk.2⟩)⟩, ⟨by (with_reducible repeat (first | apply z14f | apply z14g | apply z14h)); exact Kd.R_mono HO892.out (fun _ hk => ⟨hk.1.2, hk.2⟩)⟩, ⟨by repeat (first | (with_reducible first | exact HB.out | apply z14d | apply z14b | apply z14c) | exact HB.out)⟩⟩
  case rest =>
   clear HC9
   try clear c1
   try clear p2
   try clear c3
   try clear c4
   try clear c4b0
   try clear c5
   try clear c7
   try clear c17
   try clear c18
   try clear c18b0
   try clear c18b1
   obtain ⟨kq, x54_8, rfl, HA, HJ8, HO_6, HO_9, HO_10, HB⟩ := hcut
   cases kq with
   | zero => exact absurd HA.out (by simp [y_c.j0])
   | succ kj8 =>
    have H := HA.out
    clear HA
    simp only [y_c.j0] at H
    by_cases c28 : x54_8 = true
    ·subst c28
     rw [if_pos rfl] at H
     obtain rfl := Option.some.inj H
     exact absurd HR_.out (by decide)
    ·replace c28 := Bool.eq_false_iff.mpr c28
     subst c28
     have H1 : ((y_p.f kj8 l0).bind fun t894 => ((y_e.f kj8 t885 t894).bind fun t897 => (if t897 = true then ((y_x.f kj8 t885 1).bind fun bt898 => (if bt898.1 < 0 then (y_c.j1 kj8 l0 a1 t880 t881 t882 t888 true) else ((y_e.f kj8 t888 t880).bind fun t900 => (if t900 = true then (if t889 = t881 then (y_c.j1 kj8 l0 a1 t880 t881 t882 t888 (t890 != t882)) else (y_c.j1 kj8 l0 a1 t880 t881 t882 t888 true)) else (y_c.j1 kj8 l0 a1 t880 t881 t882 t888 true))))) else (some false)))) = some r := by rw [if_neg (show ¬ (false = true) by decide)] at H; exact H
     clear H
     have H := H1
     clear H1
     replace H := z14e.mp H
     obtain ⟨t894, A290, H⟩ := H
     have A29 := z14a A290
     clear A290
     replace H := z14e.mp H
     obtain ⟨t897, A300, H⟩ := H
     have A30 := z14a A300
     clear A300
     by_cases c31 : t897 = true
     ·subst c31
      rw [if_pos rfl] at H
      replace H := z14e.mp H
      obtain ⟨⟨t898, t899⟩, A320, H⟩ := H
      replace H : (if t898 < 0 then (y_c.j1 kj8 l0 a1 t880 t881 t882 t888 true) else ((y_e.f kj8 t888 t880).bind fun t900 => (if t900 = true then (if t889 = t881 then (y_c.j1 kj8 l0 a1 t880 t881 t882 t888 (t890 != t882)) else (y_c.j1 kj8 l0 a1 t880 t881 t882 t888 true)) else (y_c.j1 kj8 l0 a1 t880 t881 t882 t888 true)))) = some r := H
      have A32 := z14a A320
      clear A320
      have HC33 := z14a H
      clear H
      go_upto_region 14 with (first | ((with_reducible refine gate_callee (f := 34) rfl ?_); refine goesL_ (some 57) rfl rfl Try.func34 (by kernel_rfl) rfl #[.slice A0 l0.length c0] rfl (by (try simp only [zm14a, zm14b, zm14c]); first | done | rfl | (simp only [zm14d, zm14e]; rfl)) ?_; (with_reducible refine (y_p.calls kj8 _ _ l0 t894 _ ?side1 ?side2 A29.out).mono ?_); (case side1 => repeat (first | exact (Kd.C_below HR0.out HB.out) | (with_reducible refine z14j ?_ _) | (with_reducible refine z14k ?_ _) | (with_reducible refine z14l ?_))); (case side2 => exact HC0.out); rintro e w34 ⟨v895, rfl, ho0, hb⟩; refine ⟨_, rfl, ?_⟩; have n0_ := z14a (Kd.R_elder' (by (with_reducible repeat (first | apply z14f | apply z14g | apply z14h)); exact HO_6.out) (Kd.R_base ho0) hb); have n1_ := z14a (Kd.R_elder' (by (with_reducible repeat (first | apply z14f | apply z14g | apply z14h)); exact HO_9.out) (Kd.R_base ho0) hb); have n2_ := z14a (Kd.R_elder' (by (with_reducible repeat (first | apply z14f | apply z14g | apply z14h)); exact HO_10.out) (Kd.R_base ho0) hb); have n3_ := z14a (Kd.R_lower (Kd.R_new' (Kd.R_new' (Kd.R_new' ho0 (Kd.R_lt (by (with_reducible repeat (first | apply z14f | apply z14g | apply z14h)); exact HO_6.out))) (Kd.R_lt (by (with_reducible repeat (first | apply z14f | apply z14g | apply z14h)); exact HO_9.out))) (Kd.R_lt (by (with_reducible repeat (first | apply z14f | apply z14g | apply z14h)); exact HO_10.out))) (below_size (by repeat (first | (with_reducible first | exact HB.out | apply z14d | apply z14b | apply z14c) | exact HB.out)))); have n4_ := z14a (below_step (by repeat (first | (with_reducible first | exact HB.out | apply z14d | apply z14b | apply z14c) | exact HB.out)) hb); clear HO_6; clear HO_9; clear HO_10; clear HB; have HO_6 := n0_; have HO_9 := n1_; have HO_10 := n2_; have HO896 := n3_; have HB := n4_; clear n0_ n1_ n2_ n3_ n4_; (try clear hb); (try clear hb2); (try clear hk); (try clear hi); (try clear ho0); obtain ⟨Ao35, co35, eo35⟩ := Kd.R_slice HO896.out; subst eo35) | ((with_reducible refine gate_callee (f := 36) rfl ?_); refine goesL_ (some 58) rfl rfl Try.func36 (by kernel_rfl) rfl #[.slice Ao14 t885.length co14, .slice Ao35 t894.length co35] rfl (by (try simp only [zm14a, zm14b, zm14c]); first | done | rfl | (simp only [zm14d, zm14e]; rfl)) ?_; (with_reducible refine (y_e.calls kj8 _ _ t885 _ _ t894 true _ ?side1 ?side2 ?side3 ?side4 A30.out).mono ?_); (case side1 => repeat (first | exact (Kd.R_reads' HO_9.out).2.2 | (with_reducible refine z14j ?_ _) | (with_reducible refine z14k ?_ _) | (with_reducible refine z14l ?_))); (case side2 => exact (Kd.R_reads' HO_9.out).2.1); (case side3 => repeat (first | exact (Kd.R_reads' HO896.out).2.2 | (with_reducible refine z14j ?_ _) | (with_reducible refine z14k ?_ _) | (with_reducible refine z14l ?_))); (case side4 => exact (Kd.R_reads' HO896.out).2.1); rintro e w36 ⟨rfl, hb⟩; refine ⟨_, rfl, ?_⟩; have n0_ := z14a (z14i (by (with_reducible repeat (first | apply z14f | apply z14g | apply z14h)); exact HO_6.out) hb); have n1_ := z14a (z14i (by (with_reducible repeat (first | apply z14f | apply z14g | apply z14h)); exact HO_9.out) hb); have n2_ := z14a (z14i (by (with_reducible repeat (first | apply z14f | apply z14g | apply z14h)); exact HO_10.out) hb); have n3_ := z14a (z14i (by (with_reducible repeat (first | apply z14f | apply z14g | apply z14h)); exact HO896.out) hb); have n4_ := z14a (below_step (by repeat (first | (with_reducible first | exact HB.out | apply z14d | apply z14b | apply z14c) | exact HB.out)) hb); clear HO_6; clear HO_9; clear HO_10; clear HO896; clear HB; have HO_6 := n0_; have HO_9 := n1_; have HO_10 := n2_; have HO896 := n3_; have HB := n4_; clear n0_ n1_ n2_ n3_ n4_; (try clear hb); (try clear hb2); (try clear hk); (try clear hi)) | ((with_reducible refine gate_callee (f := 37) rfl ?_); refine goesL_ (some 62) rfl rfl Try.func37 (by kernel_rfl) rfl #[.slice Ao14 t885.length co14, .int .i64 1] rfl (by (try simp only [zm14a, zm14b, zm14c]); first | done | rfl | (simp only [zm14d, zm14e]; rfl)) ?_; (with_reducible refine (y_x.calls kj8 (fun k_ => some k_ = (.slice Ao14 t885.length co14 : Value).ownBlock) (.slice Ao14 t885.length co14) t885 1 t898 t899 w _ ?side1 ?side2 A32.out).mono ?_); (case side1 => repeat (first | (with_reducible first | exact HB.out | apply z14d | apply z14b | apply z14c) | exact HB.out)); (case side2 => exact Kd.R_tight rfl HO_9.out); rintro e w37 ⟨rfl, hy0, hb, hkp⟩; refine ⟨_, rfl, ?_⟩; have n0_ := z14a (Kd.R_mono (ok' := fun k_ => some k_ ≠ (.slice Ao14 t885.length co14 : Value).ownBlock ∧ some k_ ≠ (v891 : Value).ownBlock ∧ some k_ ≠ (.slice Ao35 t894.length co35 : Value).ownBlock) (Kd.R_keptB (HO_6.out) hkp (fun k_ hk_ hs_ => (hk_.1.1) hs_)) (fun k_ hk_ => ⟨hk_.1.1.1, hk_.1.1.2, hk_.1.2⟩)); have n1_ := z14a (Kd.R_reok rfl hy0 (fun k_ e_ => HO_9.out.1 k_ e_)); have n2_ := z14a (Kd.R_mono (ok' := fun k_ => some k_ ≠ (v883 : Value).ownBlock ∧ some k_ ≠ (.slice Ao14 t885.length co14 : Value).ownBlock ∧ some k_ ≠ (.slice Ao35 t894.length co35 : Value).ownBlock) (Kd.R_keptB (HO_10.out) hkp (fun k_ hk_ hs_ => (hk_.1.2) hs_)) (fun k_ hk_ => ⟨hk_.1.1.1, hk_.1.1.2, hk_.1.2⟩)); have n3_ := z14a (Kd.R_mono (ok' := fun k_ => some k_ ≠ (v883 : Value).ownBlock ∧ some k_ ≠ (.slice Ao14 t885.length co14 : Value).ownBlock ∧ some k_ ≠ (v891 : Value).ownBlock) (Kd.R_keptB (HO896.out) hkp (fun k_ hk_ hs_ => (hk_.1.2) hs_)) (fun k_ hk_ => ⟨hk_.1.1.1.2, hk_.1.1.2, hk_.1.2⟩)); have n4_ := z14a (hb); clear HO_6; clear HO_9; clear HO_10; clear HO896; clear HB; have HO_6 := n0_; have HO_9 := n1_; have HO_10 := n2_; have HO896 := n3_; have HB := n4_; clear n0_ n1_ n2_ n3_ n4_; (try clear hb); (try clear hkp); (try clear hy0)))
      (try simp only [Act.put, List.setIfInBounds_toArray, List.set_cons_zero, List.set_cons_succ])
      go_cut [80] (fun v80 wc => ∃ (kq : Nat) (x80_32 : Bool), v80 = .bool x80_32 ∧ Aside0 (y_c.j1 kq l0 a1 t880 t881 t882 t888 x80_32 = some r) ∧ Aside0 (kq ≤ kj8) ∧ Aside0 (Kd.R k71 71 wc w.heap.size (fun k_ => some k_ ≠ (v891 : Value).ownBlock) v883 t880) ∧ Aside0 (Kd.R k71 71 wc w.heap.size (fun k_ => some k_ ≠ (v883 : Value).ownBlock) v891 t888) ∧ Aside0 (Below w.heap.size w wc))
      case first =>
       have H := HC33.out
       clear HC33
       by_cases c38 : t898 < 0
       ·rw [if_pos c38] at H
        have c38b0 : decide (t898 < 0) = true := decide_eq_true c38
        clear c38
        (first | rw [c38b0] | (simp only [i64_w, i32_w]; rw [c38b0]) | skip)
        have H' := z14a H
        clear H
        go_wp2
        go_meet
        case rel => exact ⟨_, (true), (by first | rfl | (simp; done) | (simp [*]; done)), H', ⟨by have := HJ8.out; first | omega | exact Nat.le_refl _⟩, ⟨by (with_reducible repeat (first | apply z14f | apply z14g | apply z14h)); exact Kd.R_mono HO_6.out (fun _ hk => hk.2.1)⟩, ⟨by (with_reducible repeat (first | apply z14f | apply z14g | apply z14h)); exact Kd.R_mono HO_10.out (fun _ hk => hk.1)⟩, ⟨by repeat (first | (with_reducible first | exact HB.out | apply z14d | apply z14b | apply z14c) | exact HB.out)⟩⟩
       ·rw [if_neg c38] at H
        have c38b0 : decide (t898 < 0) = false := decide_eq_false c38
        clear c38
        (first | rw [c38b0] | (simp only [i64_w, i32_w]; rw [c38b0]) | skip)
        replace H := z14e.mp H
        obtain ⟨t900, A390, H⟩ := H
        have A39 := z14a A390
        clear A390
        by_cases c40 : t900 = true
        ·subst c40
         rw [if_pos rfl] at H
         by_cases c41 : t889 = t881
         ·rw [if_pos c41] at H
          have c41b0 : (t889 == t881) = true := beq_iff_eq.mpr c41
          have c41b1 : (t889 != t881) = false := bne_eq_false_iff_eq.mpr c41
          clear c41
          have H' := z14a H
          clear H
          obtain ⟨Ao42, co42, eo42⟩ := Kd.R_slice HO_10.out
          subst eo42
          obtain ⟨Ao43, co43, eo43⟩ := Kd.R_slice HO_6.out
          subst eo43
          go_wp2_with (first | (go_at_call 36; (with_reducible refine (y_e.calls kj8 _ _ t888 _ _ t880 true _ ?side1 ?side2 ?side3 ?side4 A39.out).mono ?_); (case side1 => repeat (first | exact (Kd.R_reads' HO_10.out).2.2 | (with_reducible refine z14j ?_ _) | (with_reducible refine z14k ?_ _) | (with_reducible refine z14l ?_))); (case side2 => exact (Kd.R_reads' HO_10.out).2.1); (case side3 => repeat (first | exact (Kd.R_reads' HO_6.out).2.2 | (with_reducible refine z14j ?_ _) | (with_reducible refine z14k ?_ _) | (with_reducible refine z14l ?_))); (case side4 => exact (Kd.R_reads' HO_6.out).2.1); rintro e w44 ⟨rfl, hb⟩; have n0_ := z14a (z14i (by (with_reducible repeat (first | apply z14f | apply z14g | apply z14h)); exact HO_6.out) hb); have n1_ := z14a (z14i (by (with_reducible repeat (first | apply z14f | apply z14g | apply z14h)); exact HO_9.out) hb); have n2_ := z14a (z14i (by (with_reducible repeat (first | apply z14f | apply z14g | apply z14h)); exact HO_10.out) hb); have n3_ := z14a (z14i (by (with_reducible repeat (first | apply z14f | apply z14g | apply z14h)); exact HO896.out) hb); have n4_ := z14a (below_step (by repeat (first | (with_reducible first | exact HB.out | apply z14d | apply z14b | apply z14c) | exact HB.out)) hb); clear HO_6; clear HO_9; clear HO_10; clear HO896; clear HB; have HO_6 := n0_; have HO_9 := n1_; have HO_10 := n2_; have HO896 := n3_; have HB := n4_; clear n0_ n1_ n2_ n3_ n4_; (try clear hb); (try clear hb2); (try clear hk); (try clear hi)))
          go_meet
          case rel => exact ⟨_, ((t890 != t882)), (by first | rfl | (simp; done) | (simp [*]; done)), H', ⟨by have := HJ8.out; first | omega | exact Nat.le_refl _⟩, ⟨by (with_reducible repeat (first | apply z14f | apply z14g | apply z14h)); exact Kd.R_mono HO_6.out (fun _ hk => hk.2.1)⟩, ⟨by (with_reducible repeat (first | apply z14f | apply z14g | apply z14h)); exact Kd.R_mono HO_10.out (fun _ hk => hk.1)⟩, ⟨by repeat (first | (with_reducible first | exact HB.out | apply z14d | apply z14b | apply z14c) | exact HB.out)⟩⟩
         ·rw [if_neg c41] at H
          have c41b0 : (t889 == t881) = false := beq_eq_false_iff_ne.mpr c41
          have c41b1 : (t889 != t881) = true := bne_iff_ne.mpr c41
          have H' := z14a H
          clear H
          obtain ⟨Ao45, co45, eo45⟩ := Kd.R_slice HO_10.out
          subst eo45
          obtain ⟨Ao46, co46, eo46⟩ := Kd.R_slice HO_6.out
          subst eo46
          go_wp2_with (first | (go_at_call 36; (with_reducible refine (y_e.calls kj8 _ _ t888 _ _ t880 true _ ?side1 ?side2 ?side3 ?side4 A39.out).mono ?_); (case side1 => repeat (first | exact (Kd.R_reads' HO_10.out).2.2 | (with_reducible refine z14j ?_ _) | (with_reducible refine z14k ?_ _) | (with_reducible refine z14l ?_))); (case side2 => exact (Kd.R_reads' HO_10.out).2.1); (case side3 => repeat (first | exact (Kd.R_reads' HO_6.out).2.2 | (with_reducible refine z14j ?_ _) | (with_reducible refine z14k ?_ _) | (with_reducible refine z14l ?_))); (case side4 => exact (Kd.R_reads' HO_6.out).2.1); rintro e w47 ⟨rfl, hb⟩; have n0_ := z14a (z14i (by (with_reducible repeat (first | apply z14f | apply z14g | apply z14h)); exact HO_6.out) hb); have n1_ := z14a (z14i (by (with_reducible repeat (first | apply z14f | apply z14g | apply z14h)); exact HO_9.out) hb); have n2_ := z14a (z14i (by (with_reducible repeat (first | apply z14f | apply z14g | apply z14h)); exact HO_10.out) hb); have n3_ := z14a (z14i (by (with_reducible repeat (first | apply z14f | apply z14g | apply z14h)); exact HO896.out) hb); have n4_ := z14a (below_step (by repeat (first | (with_reducible first | exact HB.out | apply z14d | apply z14b | apply z14c) | exact HB.out)) hb); clear HO_6; clear HO_9; clear HO_10; clear HO896; clear HB; have HO_6 := n0_; have HO_9 := n1_; have HO_10 := n2_; have HO896 := n3_; have HB := n4_; clear n0_ n1_ n2_ n3_ n4_; (try clear hb); (try clear hb2); (try clear hk); (try clear hi)))
          go_meet
          case rel => exact ⟨_, (true), (by first | rfl | (simp; done) | (simp [*]; done)), H', ⟨by have := HJ8.out; first | omega | exact Nat.le_refl _⟩, ⟨by (with_reducible repeat (first | apply z14f | apply z14g | apply z14h)); exact Kd.R_mono HO_6.out (fun _ hk => hk.2.1)⟩, ⟨by (with_reducible repeat (first | apply z14f | apply z14g | apply z14h)); exact Kd.R_mono HO_10.out (fun _ hk => hk.1)⟩, ⟨by repeat (first | (with_reducible first | exact HB.out | apply z14d | apply z14b | apply z14c) | exact HB.out)⟩⟩
        ·replace c40 := Bool.eq_false_iff.mpr c40
         subst c40
         have H1 : (y_c.j1 kj8 l0 a1 t880 t881 t882 t888 true) = some r := by rw [if_neg (show ¬ (false = true) by decide)] at H; exact H
         clear H
         have H := H1
         clear H1
         have H' := z14a H
         clear H
         obtain ⟨Ao48, co48, eo48⟩ := Kd.R_slice HO_10.out
         subst eo48
         obtain ⟨Ao49, co49, eo49⟩ := Kd.R_slice HO_6.out
         subst eo49
         go_wp2_with (first | (go_at_call 36; (with_reducible refine (y_e.calls kj8 _ _ t888 _ _ t880 false _ ?side1 ?side2 ?side3 ?side4 A39.out).mono ?_); (case side1 => repeat (first | exact (Kd.R_reads' HO_10.out).2.2 | (with_reducible refine z14j ?_ _) | (with_reducible refine z14k ?_ _) | (with_reducible refine z14l ?_))); (case side2 => exact (Kd.R_reads' HO_10.out).2.1); (case side3 => repeat (first | exact (Kd.R_reads' HO_6.out).2.2 | (with_reducible refine z14j ?_ _) | (with_reducible refine z14k ?_ _) | (with_reducible refine z14l ?_))); (case side4 => exact (Kd.R_reads' HO_6.out).2.1); rintro e w50 ⟨rfl, hb⟩; have n0_ := z14a (z14i (by (with_reducible repeat (first | apply z14f | apply z14g | apply z14h)); exact HO_6.out) hb); have n1_ := z14a (z14i (by (with_reducible repeat (first | apply z14f | apply z14g | apply z14h)); exact HO_9.out) hb); have n2_ := z14a (z14i (by (with_reducible repeat (first | apply z14f | apply z14g | apply z14h)); exact HO_10.out) hb); have n3_ := z14a (z14i (by (with_reducible repeat (first | apply z14f | apply z14g | apply z14h)); exact HO896.out) hb); have n4_ := z14a (below_step (by repeat (first | (with_reducible first | exact HB.out | apply z14d | apply z14b | apply z14c) | exact HB.out)) hb); clear HO_6; clear HO_9; clear HO_10; clear HO896; clear HB; have HO_6 := n0_; have HO_9 := n1_; have HO_10 := n2_; have HO896 := n3_; have HB := n4_; clear n0_ n1_ n2_ n3_ n4_; (try clear hb); (try clear hb2); (try clear hk); (try clear hi)))
         go_meet
         case rel => exact ⟨_, (true), (by first | rfl | (simp; done) | (simp [*]; done)), H', ⟨by have := HJ8.out; first | omega | exact Nat.le_refl _⟩, ⟨by (with_reducible repeat (first | apply z14f | apply z14g | apply z14h)); exact Kd.R_mono HO_6.out (fun _ hk => hk.2.1)⟩, ⟨by (with_reducible repeat (first | apply z14f | apply z14g | apply z14h)); exact Kd.R_mono HO_10.out (fun _ hk => hk.1)⟩, ⟨by repeat (first | (with_reducible first | exact HB.out | apply z14d | apply z14b | apply z14c) | exact HB.out)⟩⟩
      case rest =>
       clear HC33
       try clear c1
       try clear c2
       try clear p2
       try clear c3
       try clear c4
       try clear c4b0
       try clear c5
       try clear c7
       try clear c17
       try clear c18
       try clear c18b0
       try clear c18b1
       try clear c28
       try clear c31
       try clear c33
       try clear c34
       try clear c36
       try clear c37
       try clear c38
       try clear c38b0
       try clear c40
       try clear c41
       try clear c41b0
       try clear c41b1
       try clear p2
       obtain ⟨kq, x80_32, rfl, HA, HJ32, HO_6, HO_10, HB⟩ := hcut
       cases kq with
       | zero => exact absurd HA.out (by simp [y_c.j1])
       | succ kj32 =>
        have H := HA.out
        clear HA
        simp only [y_c.j1] at H
        by_cases c51 : x80_32 = true
        ·subst c51
         rw [if_pos rfl] at H
         obtain rfl := Option.some.inj H
         exact absurd HR_.out (by decide)
        ·replace c51 := Bool.eq_false_iff.mpr c51
         subst c51
         have H1 : ((y_x.f kj32 t888 1).bind fun bt901 => ((y_db.f kj32 bt901.2 1).bind fun t903 => (if t903 < 0 then (some false) else (if t903 = bt901.1 then ((y_p.f kj32 l0).bind fun t904 => ((y_ab.f kj32 t904 a1).bind fun bt907 => ((y_e.f kj32 bt907.1 t880).bind fun t912 => (if t912 = true then (if bt907.2.1 = t881 then (y_c.j2 kj32 bt901.2 bt901.1 (bt907.2.2 != t882)) else (y_c.j2 kj32 bt901.2 bt901.1 true)) else (y_c.j2 kj32 bt901.2 bt901.1 true))))) else (some false))))) = some r := by rw [if_neg (show ¬ (false = true) by decide)] at H; exact H
         clear H
         have H := H1
         clear H1
         replace H := z14e.mp H
         obtain ⟨⟨t901, t902⟩, A520, H⟩ := H
         replace H : ((y_db.f kj32 t902 1).bind fun t903 => (if t903 < 0 then (some false) else (if t903 = t901 then ((y_p.f kj32 l0).bind fun t904 => ((y_ab.f kj32 t904 a1).bind fun bt907 => ((y_e.f kj32 bt907.1 t880).bind fun t912 => (if t912 = true then (if bt907.2.1 = t881 then (y_c.j2 kj32 t902 t901 (bt907.2.2 != t882)) else (y_c.j2 kj32 t902 t901 true)) else (y_c.j2 kj32 t902 t901 true))))) else (some false)))) = some r := H
         have A52 := z14a A520
         clear A520
         replace H := z14e.mp H
         obtain ⟨t903, A530, H⟩ := H
         have A53 := z14a A530
         clear A530
         by_cases c54 : t903 < 0
         ·rw [if_pos c54] at H
          have c54b0 : decide (t903 < 0) = true := decide_eq_true c54
          clear c54
          obtain rfl := Option.some.inj H
          exact absurd HR_.out (by decide)
         ·rw [if_neg c54] at H
          have c54b0 : decide (t903 < 0) = false := decide_eq_false c54
          clear c54
          by_cases c55 : t903 = t901
          ·rw [if_pos c55] at H
           have c55b0 : (t903 == t901) = true := beq_iff_eq.mpr c55
           have c55b1 : (t903 != t901) = false := bne_eq_false_iff_eq.mpr c55
           clear c55
           replace H := z14e.mp H
           obtain ⟨t904, A560, H⟩ := H
           have A56 := z14a A560
           clear A560
           replace H := z14e.mp H
           obtain ⟨⟨t907, t908, t909⟩, A570, H⟩ := H
           replace H : ((y_e.f kj32 t907 t880).bind fun t912 => (if t912 = true then (if t908 = t881 then (y_c.j2 kj32 t902 t901 (t909 != t882)) else (y_c.j2 kj32 t902 t901 true)) else (y_c.j2 kj32 t902 t901 true))) = some r := H
           have A57 := z14a A570
           clear A570
           have HC58 := z14a H
           clear H
           obtain ⟨Ao59, co59, eo59⟩ := Kd.R_slice HO_10.out
           subst eo59
           go_upto_region 25 with (first | ((with_reducible refine gate_callee (f := 37) rfl ?_); refine goesL_ (some 83) rfl rfl Try.func37 (by kernel_rfl) rfl #[.slice Ao59 t888.length co59, .int .i64 1] rfl (by (try simp only [zm14a, zm14b, zm14c]); first | done | rfl | (simp only [zm14d, zm14e]; rfl)) ?_; (with_reducible refine (y_x.calls kj32 (fun k_ => some k_ = (.slice Ao59 t888.length co59 : Value).ownBlock) (.slice Ao59 t888.length co59) t888 1 t901 t902 w _ ?side1 ?side2 A52.out).mono ?_); (case side1 => repeat (first | (with_reducible first | exact HB.out | apply z14d | apply z14b | apply z14c) | exact HB.out)); (case side2 => exact Kd.R_tight rfl HO_10.out); rintro e w60 ⟨rfl, hy0, hb, hkp⟩; refine ⟨_, rfl, ?_⟩; have n0_ := z14a (Kd.R_mono (ok' := fun k_ => some k_ ≠ (.slice Ao59 t888.length co59 : Value).ownBlock) (Kd.R_keptB (HO_6.out) hkp (fun k_ hk_ hs_ => (hk_) hs_)) (fun k_ hk_ => hk_.1)); have n1_ := z14a (Kd.R_reok rfl hy0 (fun k_ e_ => HO_10.out.1 k_ e_)); have n2_ := z14a (hb); clear HO_6; clear HO_10; clear HB; have HO_6 := n0_; have HO_10 := n1_; have HB := n2_; clear n0_ n1_ n2_; (try clear hb); (try clear hkp); (try clear hy0)) | ((with_reducible refine gate_callee (f := 44) rfl ?_); refine goesL_ (some 86) rfl rfl Try.func44 (by kernel_rfl) rfl #[.slice Ao59 t902.length co59, .int .i64 1] rfl (by (try simp only [zm14a, zm14b, zm14c]); first | done | (rw [show t902.length = t888.length from (Kd.R_reads' HO_10.out).1.symm] <;> rfl) | rfl | (simp only [zm14d, zm14e]; rfl)) ?_; (with_reducible refine (y_db.calls kj32 _ _ t902 1 t903 _ ?side1 ?side2 A53.out).mono ?_); (case side1 => repeat (first | exact (Kd.R_reads' HO_10.out).2.2 | (with_reducible refine z14j ?_ _) | (with_reducible refine z14k ?_ _) | (with_reducible refine z14l ?_))); (case side2 => rw [show t902.length = t888.length from (Kd.R_reads' HO_10.out).1.symm]; exact (Kd.R_reads' HO_10.out).2.1); rintro e w' ⟨rfl, ⟨nd, rfl⟩⟩; refine ⟨_, rfl, ?_⟩) | ((with_reducible refine gate_callee (f := 34) rfl ?_); refine goesL_ (some 94) rfl rfl Try.func34 (by kernel_rfl) rfl #[.slice A0 l0.length c0] rfl (by (try simp only [zm14a, zm14b, zm14c]); first | done | rfl | (simp only [zm14d, zm14e]; rfl)) ?_; (with_reducible refine (y_p.calls kj32 _ _ l0 t904 _ ?side1 ?side2 A56.out).mono ?_); (case side1 => repeat (first | exact (Kd.C_below HR0.out (by repeat (first | (with_reducible first | exact HB.out | apply z14d | apply z14b | apply z14c) | exact HB.out))) | (with_reducible refine z14j ?_ _) | (with_reducible refine z14k ?_ _) | (with_reducible refine z14l ?_))); (case side2 => exact HC0.out); rintro e w61 ⟨v905, rfl, ho0, hb⟩; refine ⟨_, rfl, ?_⟩; have n0_ := z14a (Kd.R_elder' (by (with_reducible repeat (first | apply z14f | apply z14g | apply z14h)); exact HO_6.out) (Kd.R_base ho0) hb); have n1_ := z14a (Kd.R_elder' (by (with_reducible repeat (first | apply z14f | apply z14g | apply z14h)); exact HO_10.out) (Kd.R_base ho0) hb); have n2_ := z14a (Kd.R_lower (Kd.R_new' (Kd.R_new' ho0 (Kd.R_lt (by (with_reducible repeat (first | apply z14f | apply z14g | apply z14h)); exact HO_6.out))) (Kd.R_lt (by (with_reducible repeat (first | apply z14f | apply z14g | apply z14h)); exact HO_10.out))) (below_size (by repeat (first | (with_reducible first | exact HB.out | apply z14d | apply z14b | apply z14c) | exact HB.out)))); have n3_ := z14a (below_step (by repeat (first | (with_reducible first | exact HB.out | apply z14d | apply z14b | apply z14c) | exact HB.out)) hb); clear HO_6; clear HO_10; clear HB; have HO_6 := n0_; have HO_10 := n1_; have HO906 := n2_; have HB := n3_; clear n0_ n1_ n2_ n3_; (try clear hb); (try clear hb2); (try clear hk); (try clear hi); (try clear ho0); obtain ⟨Ao62, co62, eo62⟩ := Kd.R_slice HO906.out; subst eo62) | ((with_reducible refine gate_callee (f := 58) rfl ?_); refine goesL_ (some 96) rfl rfl Try.func58 (by kernel_rfl) rfl #[.slice Ao62 t904.length co62, .int .i64 a1] rfl (by (try simp only [zm14a, zm14b, zm14c]); first | done | rfl | (simp only [zm14d, zm14e]; rfl)) ?_; (with_reducible refine (y_ab.calls kj32 _ _ t904 a1 t907 t908 t909 _ ?side1 ?side2 A57.out).mono ?_); (case side1 => repeat (first | exact (Kd.R_reads' HO906.out).2.2 | (with_reducible refine z14j ?_ _) | (with_reducible refine z14k ?_ _) | (with_reducible refine z14l ?_))); (case side2 => exact (Kd.R_reads' HO906.out).2.1); rintro e w63 ⟨v910, rfl, ho0, hb⟩; refine ⟨_, rfl, ?_⟩; have n0_ := z14a (Kd.R_elder' (by (with_reducible repeat (first | apply z14f | apply z14g | apply z14h)); exact HO_6.out) (Kd.R_base ho0) hb); have n1_ := z14a (Kd.R_elder' (by (with_reducible repeat (first | apply z14f | apply z14g | apply z14h)); exact HO_10.out) (Kd.R_base ho0) hb); have n2_ := z14a (Kd.R_elder' (by (with_reducible repeat (first | apply z14f | apply z14g | apply z14h)); exact HO906.out) (Kd.R_base ho0) hb); have n3_ := z14a (Kd.R_lower (Kd.R_new' (Kd.R_new' (Kd.R_new' ho0 (Kd.R_lt (by (with_reducible repeat (first | apply z14f | apply z14g | apply z14h)); exact HO_6.out))) (Kd.R_lt (by (with_reducible repeat (first | apply z14f | apply z14g | apply z14h)); exact HO_10.out))) (Kd.R_lt (by (with_reducible repeat (first | apply z14f | apply z14g | apply z14h)); exact HO906.out))) (below_size (by repeat (first | (with_reducible first | exact HB.out | apply z14d | apply z14b | apply z14c) | exact HB.out)))); have n4_ := z14a (below_step (by repeat (first | (with_reducible first | exact HB.out | apply z14d | apply z14b | apply z14c) | exact HB.out)) hb); clear HO_6; clear HO_10; clear HO906; clear HB; have HO_6 := n0_; have HO_10 := n1_; have HO906 := n2_; have HO911 := n3_; have HB := n4_; clear n0_ n1_ n2_ n3_ n4_; (try clear hb); (try clear hb2); (try clear hk); (try clear hi); (try clear ho0)))
           (try simp only [Act.put, List.setIfInBounds_toArray, List.set_cons_zero, List.set_cons_succ])
           go_cut [113] (fun v113 wc => ∃ (kq : Nat) (x113_57 : Bool), v113 = .bool x113_57 ∧ Aside0 (y_c.j2 kq t902 t901 x113_57 = some r) ∧ Aside0 (kq ≤ kj32) ∧ Aside0 (Kd.R k71 71 wc w.heap.size (fun _ => True) (.slice Ao59 t888.length co59) t902) ∧ Aside0 (Below w.heap.size w wc))
           case first =>
            have H := HC58.out
            clear HC58
            replace H := z14e.mp H
            obtain ⟨t912, A640, H⟩ := H
            have A64 := z14a A640
            clear A640
            by_cases c65 : t912 = true
            ·subst c65
             rw [if_pos rfl] at H
             by_cases c66 : t908 = t881
             ·rw [if_pos c66] at H
              have c66b0 : (t908 == t881) = true := beq_iff_eq.mpr c66
              have c66b1 : (t908 != t881) = false := bne_eq_false_iff_eq.mpr c66
              clear c66
              (first | rw [c66b0] | (simp only [i64_w, i32_w]; rw [c66b0]) | skip)
              have H' := z14a H
              clear H
              obtain ⟨Ao67, co67, eo67⟩ := Kd.R_slice HO911.out
              subst eo67
              obtain ⟨Ao68, co68, eo68⟩ := Kd.R_slice HO_6.out
              subst eo68
              go_wp2_with (first | ((with_reducible refine gate_callee (f := 36) rfl ?_); refine goesL_ (some 102) rfl rfl Try.func36 (by kernel_rfl) rfl #[.slice Ao67 t907.length co67, .slice Ao68 t880.length co68] rfl (by (try simp only [zm14a, zm14b, zm14c]); first | done | rfl | (simp only [zm14d, zm14e]; rfl)) ?_; (with_reducible refine (y_e.calls kj32 _ _ t907 _ _ t880 true _ ?side1 ?side2 ?side3 ?side4 A64.out).mono ?_); (case side1 => repeat (first | exact (Kd.R_reads' HO911.out).2.2 | (with_reducible refine z14j ?_ _) | (with_reducible refine z14k ?_ _) | (with_reducible refine z14l ?_))); (case side2 => exact (Kd.R_reads' HO911.out).2.1); (case side3 => repeat (first | exact (Kd.R_reads' HO_6.out).2.2 | (with_reducible refine z14j ?_ _) | (with_reducible refine z14k ?_ _) | (with_reducible refine z14l ?_))); (case side4 => exact (Kd.R_reads' HO_6.out).2.1); rintro e w69 ⟨rfl, hb⟩; refine ⟨_, rfl, ?_⟩; have n0_ := z14a (z14i (by (with_reducible repeat (first | apply z14f | apply z14g | apply z14h)); exact HO_6.out) hb); have n1_ := z14a (z14i (by (with_reducible repeat (first | apply z14f | apply z14g | apply z14h)); exact HO_10.out) hb); have n2_ := z14a (z14i (by (with_reducible repeat (first | apply z14f | apply z14g | apply z14h)); exact HO906.out) hb); have n3_ := z14a (z14i (by (with_reducible repeat (first | apply z14f | apply z14g | apply z14h)); exact HO911.out) hb); have n4_ := z14a (below_step (by repeat (first | (with_reducible first | exact HB.out | apply z14d | apply z14b | apply z14c) | exact HB.out)) hb); clear HO_6; clear HO_10; clear HO906; clear HO911; clear HB; have HO_6 := n0_; have HO_10 := n1_; have HO906 := n2_; have HO911 := n3_; have HB := n4_; clear n0_ n1_ n2_ n3_ n4_; (try clear hb); (try clear hb2); (try clear hk); (try clear hi)))
              go_meet
              case rel => exact ⟨_, ((t909 != t882)), (by first | rfl | (simp; done) | (simp [*]; done)), H', ⟨by have := HJ8.out; have := HJ32.out; first | omega | exact Nat.le_refl _⟩, ⟨by (with_reducible repeat (first | apply z14f | apply z14g | apply z14h)); exact Kd.R_mono HO_10.out (fun _ hk => trivial)⟩, ⟨by repeat (first | (with_reducible first | exact HB.out | apply z14d | apply z14b | apply z14c) | exact HB.out)⟩⟩
             ·rw [if_neg c66] at H
              have c66b0 : (t908 == t881) = false := beq_eq_false_iff_ne.mpr c66
              have c66b1 : (t908 != t881) = true := bne_iff_ne.mpr c66
              (first | rw [c66b0] | (simp only [i64_w, i32_w]; rw [c66b0]) | skip)
              have H' := z14a H
              clear H
              obtain ⟨Ao70, co70, eo70⟩ := Kd.R_slice HO911.out
              subst eo70
              obtain ⟨Ao71, co71, eo71⟩ := Kd.R_slice HO_6.out
              subst eo71
              go_wp2_with (first | ((with_reducible refine gate_callee (f := 36) rfl ?_); refine goesL_ (some 102) rfl rfl Try.func36 (by kernel_rfl) rfl #[.slice Ao70 t907.length co70, .slice Ao71 t880.length co71] rfl (by (try simp only [zm14a, zm14b, zm14c]); first | done | rfl | (simp only [zm14d, zm14e]; rfl)) ?_; (with_reducible refine (y_e.calls kj32 _ _ t907 _ _ t880 true _ ?side1 ?side2 ?side3 ?side4 A64.out).mono ?_); (case side1 => repeat (first | exact (Kd.R_reads' HO911.out).2.2 | (with_reducible refine z14j ?_ _) | (with_reducible refine z14k ?_ _) | (with_reducible refine z14l ?_))); (case side2 => exact (Kd.R_reads' HO911.out).2.1); (case side3 => repeat (first | exact (Kd.R_reads' HO_6.out).2.2 | (with_reducible refine z14j ?_ _) | (with_reducible refine z14k ?_ _) | (with_reducible refine z14l ?_))); (case side4 => exact (Kd.R_reads' HO_6.out).2.1); rintro e w72 ⟨rfl, hb⟩; refine ⟨_, rfl, ?_⟩; have n0_ := z14a (z14i (by (with_reducible repeat (first | apply z14f | apply z14g | apply z14h)); exact HO_6.out) hb); have n1_ := z14a (z14i (by (with_reducible repeat (first | apply z14f | apply z14g | apply z14h)); exact HO_10.out) hb); have n2_ := z14a (z14i (by (with_reducible repeat (first | apply z14f | apply z14g | apply z14h)); exact HO906.out) hb); have n3_ := z14a (z14i (by (with_reducible repeat (first | apply z14f | apply z14g | apply z14h)); exact HO911.out) hb); have n4_ := z14a (below_step (by repeat (first | (with_reducible first | exact HB.out | apply z14d | apply z14b | apply z14c) | exact HB.out)) hb); clear HO_6; clear HO_10; clear HO906; clear HO911; clear HB; have HO_6 := n0_; have HO_10 := n1_; have HO906 := n2_; have HO911 := n3_; have HB := n4_; clear n0_ n1_ n2_ n3_ n4_; (try clear hb); (try clear hb2); (try clear hk); (try clear hi)))
              go_meet
              case rel => exact ⟨_, (true), (by first | rfl | (simp; done) | (simp [*]; done)), H', ⟨by have := HJ8.out; have := HJ32.out; first | omega | exact Nat.le_refl _⟩, ⟨by (with_reducible repeat (first | apply z14f | apply z14g | apply z14h)); exact Kd.R_mono HO_10.out (fun _ hk => trivial)⟩, ⟨by repeat (first | (with_reducible first | exact HB.out | apply z14d | apply z14b | apply z14c) | exact HB.out)⟩⟩
            ·replace c65 := Bool.eq_false_iff.mpr c65
             subst c65
             have H1 : (y_c.j2 kj32 t902 t901 true) = some r := by rw [if_neg (show ¬ (false = true) by decide)] at H; exact H
             clear H
             have H := H1
             clear H1
             have H' := z14a H
             clear H
             obtain ⟨Ao73, co73, eo73⟩ := Kd.R_slice HO911.out
             subst eo73
             obtain ⟨Ao74, co74, eo74⟩ := Kd.R_slice HO_6.out
             subst eo74
             go_wp2_with (first | ((with_reducible refine gate_callee (f := 36) rfl ?_); refine goesL_ (some 102) rfl rfl Try.func36 (by kernel_rfl) rfl #[.slice Ao73 t907.length co73, .slice Ao74 t880.length co74] rfl (by (try simp only [zm14a, zm14b, zm14c]); first | done | rfl | (simp only [zm14d, zm14e]; rfl)) ?_; (with_reducible refine (y_e.calls kj32 _ _ t907 _ _ t880 false _ ?side1 ?side2 ?side3 ?side4 A64.out).mono ?_); (case side1 => repeat (first | exact (Kd.R_reads' HO911.out).2.2 | (with_reducible refine z14j ?_ _) | (with_reducible refine z14k ?_ _) | (with_reducible refine z14l ?_))); (case side2 => exact (Kd.R_reads' HO911.out).2.1); (case side3 => repeat (first | exact (Kd.R_reads' HO_6.out).2.2 | (with_reducible refine z14j ?_ _) | (with_reducible refine z14k ?_ _) | (with_reducible refine z14l ?_))); (case side4 => exact (Kd.R_reads' HO_6.out).2.1); rintro e w75 ⟨rfl, hb⟩; refine ⟨_, rfl, ?_⟩; have n0_ := z14a (z14i (by (with_reducible repeat (first | apply z14f | apply z14g | apply z14h)); exact HO_6.out) hb); have n1_ := z14a (z14i (by (with_reducible repeat (first | apply z14f | apply z14g | apply z14h)); exact HO_10.out) hb); have n2_ := z14a (z14i (by (with_reducible repeat (first | apply z14f | apply z14g | apply z14h)); exact HO906.out) hb); have n3_ := z14a (z14i (by (with_reducible repeat (first | apply z14f | apply z14g | apply z14h)); exact HO911.out) hb); have n4_ := z14a (below_step (by repeat (first | (with_reducible first | exact HB.out | apply z14d | apply z14b | apply z14c) | exact HB.out)) hb); clear HO_6; clear HO_10; clear HO906; clear HO911; clear HB; have HO_6 := n0_; have HO_10 := n1_; have HO906 := n2_; have HO911 := n3_; have HB := n4_; clear n0_ n1_ n2_ n3_ n4_; (try clear hb); (try clear hb2); (try clear hk); (try clear hi)))
             go_meet
             case rel => exact ⟨_, (true), (by first | rfl | (simp; done) | (simp [*]; done)), H', ⟨by have := HJ8.out; have := HJ32.out; first | omega | exact Nat.le_refl _⟩, ⟨by (with_reducible repeat (first | apply z14f | apply z14g | apply z14h)); exact Kd.R_mono HO_10.out (fun _ hk => trivial)⟩, ⟨by repeat (first | (with_reducible first | exact HB.out | apply z14d | apply z14b | apply z14c) | exact HB.out)⟩⟩
           case rest =>
            clear HC58
            try clear c1
            try clear c2
            try clear p2
            try clear c3
            try clear c4
            try clear c4b0
            try clear c5
            try clear c6
            try clear c7
            try clear c17
            try clear c18
            try clear c18b0
            try clear c18b1
            try clear c28
            try clear c31
            try clear c33
            try clear c34
            try clear c36
            try clear c37
            try clear c38
            try clear c38b0
            try clear c40
            try clear c41
            try clear c41b0
            try clear c41b1
            try clear c44
            try clear c51
            try clear c54
            try clear c54b0
            try clear c55
            try clear c55b0
            try clear c55b1
            try clear c57
            try clear c58
            try clear c65
            try clear c66
            try clear c66b0
            try clear c66b1
            try clear p2
            obtain ⟨kq, x113_57, rfl, HA, HJ57, HO_10, HB⟩ := hcut
            have hl10_57 := (Kd.R_reads' HO_10.out).1
            rw [hl10_57] at HO_10
            (try simp only [hl10_57])
            cases kq with
            | zero => exact absurd HA.out (by simp [y_c.j2])
            | succ kj57 =>
             have H := HA.out
             clear HA
             simp only [y_c.j2] at H
             by_cases c76 : x113_57 = true
             ·subst c76
              rw [if_pos rfl] at H
              obtain rfl := Option.some.inj H
              exact absurd HR_.out (by decide)
             ·replace c76 := Bool.eq_false_iff.mpr c76
              subst c76
              have H1 : ((y_db.f kj57 t902 1).bind fun t913 => (if t913 < 0 then (some false) else (if t913 = t901 then (some true) else (some false)))) = some r := by rw [if_neg (show ¬ (false = true) by decide)] at H; exact H
              clear H
              have H := H1
              clear H1
              replace H := z14e.mp H
              obtain ⟨t913, A770, H⟩ := H
              have A77 := z14a A770
              clear A770
              by_cases c78 : t913 < 0
              ·rw [if_pos c78] at H
               have c78b0 : decide (t913 < 0) = true := decide_eq_true c78
               clear c78
               obtain rfl := Option.some.inj H
               exact absurd HR_.out (by decide)
              ·rw [if_neg c78] at H
               have c78b0 : decide (t913 < 0) = false := decide_eq_false c78
               clear c78
               by_cases c79 : t913 = t901
               ·rw [if_pos c79] at H
                have c79b0 : (t913 == t901) = true := beq_iff_eq.mpr c79
                have c79b1 : (t913 != t901) = false := bne_eq_false_iff_eq.mpr c79
                clear c79
                obtain rfl := Option.some.inj H
                go_wp2_with (first | ((with_reducible refine gate_callee (f := 44) rfl ?_); refine goesL_ (some 116) rfl rfl Try.func44 (by kernel_rfl) rfl #[.slice Ao59 t902.length co59, .int .i64 1] rfl (by (try simp only [zm14a, zm14b, zm14c]); first | done | rfl | (simp only [zm14d, zm14e]; rfl)) ?_; (with_reducible refine (y_db.calls kj57 _ _ t902 1 t913 _ ?side1 ?side2 A77.out).mono ?_); (case side1 => repeat (first | exact (Kd.R_reads' HO_10.out).2.2 | (with_reducible refine z14j ?_ _) | (with_reducible refine z14k ?_ _) | (with_reducible refine z14l ?_))); (case side2 => exact (Kd.R_reads' HO_10.out).2.1); rintro e w' ⟨rfl, ⟨nd, rfl⟩⟩; refine ⟨_, rfl, ?_⟩))
                go_ret
                exact ⟨by first | rfl | (simp [errW_none, errW_some] <;> rfl) | (simp [*, errW_none, errW_some] <;> rfl), by repeat (first | (with_reducible first | exact HB.out | apply z14d | apply z14b | apply z14c) | exact HB.out)⟩
               ·rw [if_neg c79] at H
                have c79b0 : (t913 == t901) = false := beq_eq_false_iff_ne.mpr c79
                have c79b1 : (t913 != t901) = true := bne_iff_ne.mpr c79
                obtain rfl := Option.some.inj H
                exact absurd HR_.out (by decide)
          ·rw [if_neg c55] at H
           have c55b0 : (t903 == t901) = false := beq_eq_false_iff_ne.mpr c55
           have c55b1 : (t903 != t901) = true := bne_iff_ne.mpr c55
           obtain rfl := Option.some.inj H
           exact absurd HR_.out (by decide)
     ·replace c31 := Bool.eq_false_iff.mpr c31
      subst c31
      have H1 : (some false) = some r := by rw [if_neg (show ¬ (false = true) by decide)] at H; exact H
      clear H
      have H := H1
      clear H1
      obtain rfl := Option.some.inj H
      exact absurd HR_.out (by decide)
end Go.Proofs.Ytkcicbigpbdjpaa.P
end
section
namespace Go.Proofs.Ytkcicbigpbdjpaa.Opn
open Go.ChangeShapes Go.WideShapes Go.RowKit Go.Proofs.YtkcicbigpbdjpaaW.PrintWords
set_option linter.unusedVariables false
def Opens {α : Type} (P : Program) (t : TypeId) (d : Kd α) (ok : α → Prop) : Prop :=
 ∀ (H : Type) (enc : TypeId × Value → H) (W : World) (base : Nat) (spare : Nat → Bool) (held : Bool) (fuel : Nat) (cs : List Value) (x : DataW H × List MemPlace),
  DataW.trod enc P W base spare held fuel t cs = some x → ∃ a, d.K W a cs ∧ ok a
def okI (k : IntKind) (a : Int) : Prop := (Lit.int k a).wf = true
def okL {α : Type} (ok : α → Prop) (l : List α) : Prop := l.length ≤ 9223372036854775807 ∧ ∀ x ∈ l, ok x
theorem opens_int {P : Program} {t : TypeId} {k : IntKind} (ht : P.underlying t = some (.int k)) : Opens P t (Kd.int k) (okI k) := by
 intro H enc W base spare held fuel cs x h
 obtain ⟨n, rfl, _, hw⟩ := DataW.trod_int ht h
 exact ⟨n, rfl, hw⟩
theorem list_of {α : Type} : ∀ (n : Nat) (p : Nat → α → Prop), (∀ i, i < n → ∃ x, p i x) → ∃ l : List α, l.length = n ∧ ∀ j x, l[j]? = some x → p j x
 | 0, _, _ => ⟨[], rfl, fun j x h => by simp at h⟩
 | n + 1, p, h => by
  obtain ⟨l, hl, hp⟩ := list_of n p (fun i hi => h i (by omega))
  obtain ⟨x, hx⟩ := h n (by omega)
  refine ⟨l ++ [x], by simp [hl], fun j y hy => ?_⟩
  by_cases hj : j < l.length
  ·rw [List.getElem?_append_left hj] at hy
   exact hp j y hy
  ·rw [List.getElem?_append_right (by omega)] at hy
   have hlt : j - l.length < 1 := by simpa using (List.getElem?_eq_some_iff.1 hy).1
   have hj0 : j = n := by omega
   subst hj0
   rw [show j - l.length = 0 by omega] at hy
   have : x = y := by simpa using hy
   subst this
   exact hx
theorem opens_slice {α : Type} {P : Program} {t e : TypeId} {d : Kd α} {ok : α → Prop} (ht : P.underlying t = some (.slice e)) (hc : P.cellsOf e = d.sz) (h : Opens P e d ok) : Opens P t (Kd.slice e d) (okL ok) := by
 intro H enc W base spare held fuel cs x hx
 rcases Go.Deep.open_slice ht hx with ⟨rfl, _⟩ | ⟨a, len, cap, m, n, D, Pl, rfl, hb, hl, hm, hmm, _, hi⟩
 ·exact ⟨[], ⟨none, 0, rfl, Nat.le_refl _, ⟨rfl, by simp, fun h0 => absurd h0 (by simp)⟩⟩, by simp, fun x hx => by simp at hx⟩
 ·have hlm : len ≤ m := by
   rw [hmm]
   split <;> omega
  unfold maxLen at hm
  obtain ⟨l, hll, hp⟩ := list_of (α := α) len (fun i p => ok p ∧ ∃ c, c.length = d.sz ∧ d.K W p c ∧ ∀ j u, c[j]? = some u → W.cell? (a.add (i * d.sz + j)) = some u) (fun i hlt => by
   obtain ⟨c, h1, h2⟩ := hi i (by omega)
   obtain ⟨p, hk, hok⟩ := h H enc W base spare held n c _ h2
   obtain ⟨_, hlen, hcell⟩ := World.cells?_some h1
   refine ⟨p, hok, c, d.K_len hk, hk, fun j u hu => ?_⟩
   have hj : j < c.length := (List.getElem?_eq_some_iff.1 hu).1
   rw [← Go.Deep.add_add, ← hc, hcell j (by omega)]
   exact hu)
  subst hll
  refine ⟨l, ⟨some a, cap, rfl, hl, ⟨rfl, by omega, fun _ => ⟨a, rfl, fun j p hj => ?_⟩⟩⟩, by omega, fun x hx => ?_⟩
  ·obtain ⟨_, c, h1, h2, h3⟩ := hp j p hj
   exact ⟨c, h1, h2, h3⟩
  ·obtain ⟨j, hj⟩ := List.mem_iff_getElem?.1 hx
   exact (hp j x hj).1
end Go.Proofs.Ytkcicbigpbdjpaa.Opn
end
section
namespace Go.Proofs.Ytkcicbigpbdjpaa.StFnExactExternalSort
open Go.RowKit Go.Proofs.Ytkcicbigpbdjpaa.P Go.Proofs.YtkcicbigpbdjpaaW.PrintWords Go.Proofs.Ytkcicbigpbdjpaa.Opn
def ok118 (x : S118) : Prop := (okI .i64) x.f0 ∧ (okI .i64) x.f1 ∧ (okI .i64) x.f2
def Pure : Prop := ∀ (x0 : (List S118)) (x1 : Int), (okL ok118) x0 → (okI .i64) x1 → ∃ k, y_c.f k x0 x1 = some true
end Go.Proofs.Ytkcicbigpbdjpaa.StFnExactExternalSort
end
section
namespace Go.Proofs.Ytkcicbigpbdjpaa.Pure
open Go.RowKit Go.Proofs.YtkcicbigpbdjpaaW.PrintWords Go.Proofs.YtkcicbigpbdjpaaW.PrintLast
theorem wrap_succ {i : Int} {n : Nat} (h0 : 0 ≤ i) (h : i < (n : Int)) (hn : n ≤ 9223372036854775807) : wrap64 (i + 1) = i + 1 := by
 unfold wrap64
 omega
theorem wrap_id {x : Int} (h1 : -9223372036854775808 ≤ x) (h2 : x ≤ 9223372036854775807) : wrap64 x = x := by
 unfold wrap64
 omega
theorem drop_getD {α : Type} (l : List α) (z : α) (i : Int) (h0 : 0 ≤ i) (h : i < (l.length : Int)) : l.drop i.toNat = l.getD i.toNat z :: l.drop (i + 1).toNat := by
 have hi : i.toNat < l.length := by omega
 rw [List.drop_eq_getElem_cons hi, List.getD_eq_getElem?_getD, List.getElem?_eq_getElem hi, show (i + 1).toNat = i.toNat + 1 by omega]
 rfl
theorem getD_mem {α : Type} (l : List α) (z : α) (i : Int) (h0 : 0 ≤ i) (h : i < (l.length : Int)) : l.getD i.toNat z ∈ l := by
 have hi : i.toNat < l.length := by omega
 rw [List.getD_eq_getElem?_getD, List.getElem?_eq_getElem hi]
 exact List.getElem_mem hi
theorem drop_end {α : Type} (l : List α) (i : Int) (h : (l.length : Int) ≤ i) : l.drop i.toNat = [] := List.drop_eq_nil_of_le (by omega)
theorem take_set_succ {α β : Type} (f : β → α) (l : List β) (acc : List α) (z : β) (i : Int) (h0 : 0 ≤ i) (h : i < (l.length : Int)) (ha : acc.length = l.length) (ht : acc.take i.toNat = (l.map f).take i.toNat) :
  (acc.set i.toNat (f (l.getD i.toNat z))).take (i + 1).toNat = (l.map f).take (i + 1).toNat := by
 have hi : i.toNat < l.length := by omega
 rw [show (i + 1).toNat = i.toNat + 1 by omega, List.take_add_one, List.take_add_one, List.take_set_of_le (by omega), ht]
 congr 1
 rw [List.getElem?_set_self (by omega), List.getElem?_map, List.getElem?_eq_getElem hi, List.getD_eq_getElem?_getD, List.getElem?_eq_getElem hi]
 rfl
theorem take_all {α : Type} (acc l : List α) (i : Int) (h : (acc.length : Int) ≤ i) (ha : acc.length = l.length) (ht : acc.take i.toNat = l.take i.toNat) : acc = l := by
 rwa [List.take_of_length_le (by omega), List.take_of_length_le (by omega)] at ht
end Go.Proofs.Ytkcicbigpbdjpaa.Pure
end
section
namespace Go.Proofs.Ytkcicbigpbdjpaa.Pure
open Go.RowKit Go.Proofs.Ytkcicbigpbdjpaa.P Go.Proofs.YtkcicbigpbdjpaaW.PrintWords Go.Proofs.YtkcicbigpbdjpaaW.PrintLast
theorem within_in (a b c : Int) : y_y.f a b c = some (decide (b ≤ a ∧ a ≤ c)) := by
 unfold y_y.f
 by_cases h : a ≥ b
 ·rw [if_pos h]
  simp [h]
 ·rw [if_neg h]
  simp [h]
theorem l1In_in (a b c : Int) : y_w.f a b c = some (decide (b ≤ a ∧ a ≤ c)) := by
 unfold y_w.f
 by_cases h : a ≥ b
 ·rw [if_pos h]
  simp [h]
 ·rw [if_neg h]
  simp [h]
def vRow (x : S71) : Bool := decide (0 ≤ x.f0 ∧ x.f0 ≤ 9 ∧ 0 ≤ x.f1 ∧ x.f1 ≤ 99 ∧ 0 ≤ x.f2 ∧ x.f2 ≤ 3)
theorem vRow_impl (x : S71) : y_jb.f x.f0 x.f1 x.f2 = some (vRow x) := by
 unfold y_jb.f vRow
 simp only [within_in, Option.bind_some, decide_eq_true_eq]
 repeat' split
 all_goals (congr 1; simp only [Bool.false_eq, decide_eq_false_iff_not, decide_eq_decide]; omega)
theorem vRow_spec (x : S71) : y_kb.f x.f0 x.f1 x.f2 = some (vRow x) := by
 unfold y_kb.f vRow
 simp only [l1In_in, Option.bind_some, decide_eq_true_eq]
 repeat' split
 all_goals (congr 1; simp only [Bool.false_eq, decide_eq_false_iff_not, decide_eq_decide]; omega)
theorem vRow_iff (x : S71) : vRow x = true ↔ (0 ≤ x.f0 ∧ x.f0 ≤ 9 ∧ 0 ≤ x.f1 ∧ x.f1 ≤ 99 ∧ 0 ≤ x.f2 ∧ x.f2 ≤ 3) := by
 unfold vRow
 exact decide_eq_true_iff
def cost (x : S71) : Int := if vRow x = true then 1 + x.f2 else 0
theorem cost_bd (x : S71) : 0 ≤ cost x ∧ cost x ≤ 4 := by
 unfold cost
 split
 ·have := (vRow_iff x).1 ‹_›
  omega
 ·omega
theorem cost_impl (x : S71) : y_mb.f x.f0 x.f1 x.f2 = some (cost x) := by
 unfold y_mb.f cost
 rw [vRow_impl]
 simp only [Option.bind_some]
 split
 ·have := (vRow_iff x).1 ‹_›
  rw [wrap_id (by omega) (by omega)]
 ·rfl
theorem cost_spec (x : S71) : y_lb.f x.f0 x.f1 x.f2 = some (cost x) := by
 unfold y_lb.f cost
 rw [vRow_spec]
 simp only [Option.bind_some]
 split
 ·have := (vRow_iff x).1 ‹_›
  rw [wrap_id (by omega) (by omega)]
 ·rfl
def tot : List S71 → Int
 | [] => 0
 | x :: l => cost x + tot l
theorem tot_bd (l : List S71) : 0 ≤ tot l ∧ tot l ≤ 4 * l.length := by
 induction l with
 | nil => simp [tot]
 | cons x l ih =>
  have := cost_bd x
  simp only [tot, List.length_cons]
  omega
theorem tot_append (a b : List S71) : tot (a ++ b) = tot a + tot b := by
 induction a with
 | nil => simp [tot]
 | cons x a ih =>
  simp only [List.cons_append, tot, ih]
  omega
theorem tot_spec_go (l : List S71) (hl : l.length ≤ 1000000000000) (d : Nat) : ∀ (k : Nat) (acc i : Int), 0 ≤ i → i ≤ l.length → 0 ≤ acc → acc ≤ 4 * i → (l.length : Int) - i = d → d < k →
  y_v.l0 k l acc i = some (acc + tot (l.drop i.toNat)) := by
 induction d with
 | zero =>
  intro k acc i h0 h1 ha ha2 hd hk
  obtain ⟨k, rfl⟩ : ∃ m, k = m + 1 := ⟨k - 1, by omega⟩
  simp only [y_v.l0]
  rw [if_neg (by omega), drop_end l i (by omega)]
  simp [tot]
 | succ d ih =>
  intro k acc i h0 h1 ha ha2 hd hk
  obtain ⟨k, rfl⟩ : ∃ m, k = m + 1 := ⟨k - 1, by omega⟩
  have hc := cost_bd (rd_T71 l i)
  simp only [y_v.l0]
  rw [if_pos (by omega), if_pos h0, cost_spec]
  simp only [Option.bind_some]
  rw [wrap_succ h0 (n := l.length) (by omega) (by omega), wrap_id (by omega) (by omega), ih k _ (i + 1) (by omega) (by omega) (by omega) (by omega) (by omega) (by omega), drop_getD l z71 i h0 (by omega)]
  simp only [tot]
  congr 1
  show acc + cost (rd_T71 l i) + _ = acc + (cost (rd_T71 l i) + _)
  omega
theorem tot_impl_go (l : List S71) (hl : l.length ≤ 1000000000000) (d : Nat) : ∀ (k : Nat) (acc i : Int), 0 ≤ i → i ≤ l.length → 0 ≤ acc → acc ≤ 4 * i → (l.length : Int) - i = d → d < k →
  y_i.l0 k acc l (l.length : Int) i = some (acc + tot (l.drop i.toNat)) := by
 induction d with
 | zero =>
  intro k acc i h0 h1 ha ha2 hd hk
  obtain ⟨k, rfl⟩ : ∃ m, k = m + 1 := ⟨k - 1, by omega⟩
  simp only [y_i.l0]
  rw [if_neg (by omega), drop_end l i (by omega)]
  simp [tot]
 | succ d ih =>
  intro k acc i h0 h1 ha ha2 hd hk
  obtain ⟨k, rfl⟩ : ∃ m, k = m + 1 := ⟨k - 1, by omega⟩
  have hc := cost_bd (rd_T71 l i)
  simp only [y_i.l0]
  rw [if_pos (by omega), if_pos h0, if_pos (by omega), cost_impl]
  simp only [Option.bind_some]
  rw [wrap_succ h0 (n := l.length) (by omega) (by omega), wrap_id (by omega) (by omega), ih k _ (i + 1) (by omega) (by omega) (by omega) (by omega) (by omega) (by omega), drop_getD l z71 i h0 (by omega)]
  simp only [tot]
  congr 1
  show acc + cost (rd_T71 l i) + _ = acc + (cost (rd_T71 l i) + _)
  omega
theorem tot_spec (l : List S71) (hl : l.length ≤ 1000000000000) (k : Nat) (hk : l.length < k) : y_v.f k l = some (tot l) := by
 unfold y_v.f
 rw [tot_spec_go l hl l.length k 0 0 (by omega) (by omega) (by omega) (by omega) (by omega) hk]
 simp
theorem tot_impl (l : List S71) (hl : l.length ≤ 1000000000000) (k : Nat) (hk : l.length < k) : y_i.f k l = some (tot l) := by
 unfold y_i.f
 rw [tot_impl_go l hl l.length k 0 0 (by omega) (by omega) (by omega) (by omega) (by omega) hk]
 simp
def cmpI (a b : Int) : Int := if a < b then -1 else if a > b then 1 else 0
def cmpR (x y : S71) : Int :=
 if cmpI x.f0 y.f0 = 0 then (if cmpI x.f1 y.f1 = 0 then cmpI x.f2 y.f2 else cmpI x.f1 y.f1) else cmpI x.f0 y.f0
theorem order_eq (a b : Int) : y_gb.f a b = some (cmpI a b) := by
 unfold y_gb.f cmpI
 repeat' split
 all_goals rfl
theorem cmp_impl (x y : S71) : y_eb.f x.f0 x.f1 x.f2 y.f0 y.f1 y.f2 = some (cmpR x y) := by
 unfold y_eb.f cmpR
 simp only [order_eq, Option.bind_some]
 repeat' split
 all_goals rfl
theorem cmp_spec (x y : S71) (k : Nat) (hk : 4 ≤ k) : y_l.f k x.f0 x.f1 x.f2 y.f0 y.f1 y.f2 = some (cmpR x y) := by
 obtain ⟨m, rfl⟩ : ∃ m, k = m + 4 := ⟨k - 4, by omega⟩
 have w0 : wrap64 (0 + 1) = 1 := by unfold wrap64; omega
 have w1 : wrap64 (1 + 1) = 2 := by unfold wrap64; omega
 have w2 : wrap64 (2 + 1) = 3 := by unfold wrap64; omega
 have r0 : ∀ a b c : Int, rd [a, b, c] 0 = a := fun _ _ _ => rfl
 have r1 : ∀ a b c : Int, rd [a, b, c] 1 = b := fun _ _ _ => rfl
 have r2 : ∀ a b c : Int, rd [a, b, c] 2 = c := fun _ _ _ => rfl
 unfold y_l.f cmpR cmpI
 simp only [y_l.l0, w0, w1, w2, r0, r1, r2, List.length_cons, List.length_nil]
 by_cases a : x.f0 < y.f0
 ·simp [a]
 by_cases b : x.f0 > y.f0
 ·simp [a, b]
 by_cases c : x.f1 < y.f1
 ·simp [a, b, c]
 by_cases d : x.f1 > y.f1
 ·simp [a, b, c, d]
 by_cases e : x.f2 < y.f2
 ·simp [a, b, c, d, e]
 by_cases f : x.f2 > y.f2
 ·simp [a, b, c, d, e, f]
 ·simp [a, b, c, d, e, f]
theorem cmpI_anti (a b : Int) : cmpI b a = -cmpI a b := by
 unfold cmpI
 repeat' split
 all_goals omega
theorem cmpI_zero (a b : Int) (h : cmpI a b = 0) : a = b := by
 unfold cmpI at h
 repeat' split at h
 all_goals omega
theorem cmpI_self (a : Int) : cmpI a a = 0 := by
 unfold cmpI
 rw [if_neg (by omega), if_neg (by omega)]
theorem cmpR_anti (x y : S71) : cmpR y x = -cmpR x y := by
 unfold cmpR
 simp only [cmpI_anti x.f0 y.f0, cmpI_anti x.f1 y.f1, cmpI_anti x.f2 y.f2]
 repeat' split
 all_goals omega
theorem cmpR_zero (x y : S71) (h : cmpR x y = 0) : x = y := by
 unfold cmpR at h
 split at h
 ·split at h
  ·obtain ⟨a, b, c⟩ := x
   obtain ⟨d, e, f⟩ := y
   simp only at *
   have h0 := cmpI_zero a d ‹_›
   have h1 := cmpI_zero b e ‹_›
   have h2 := cmpI_zero c f h
   subst h0 h1 h2
   rfl
  ·contradiction
 ·contradiction
theorem cmpR_self (x : S71) : cmpR x x = 0 := by
 unfold cmpR
 rw [if_pos (cmpI_self _), if_pos (cmpI_self _), cmpI_self]
theorem cmpI_eq (a b : Int) : cmpI a b = 0 ↔ a = b := ⟨cmpI_zero a b, fun h => h ▸ cmpI_self a⟩
theorem cmpI_le (a b : Int) : cmpI a b ≤ 0 ↔ a ≤ b := by
 unfold cmpI
 repeat' split
 all_goals omega
theorem cmpR_le (x y : S71) : cmpR x y ≤ 0 ↔ (x.f0 < y.f0 ∨ (x.f0 = y.f0 ∧ (x.f1 < y.f1 ∨ (x.f1 = y.f1 ∧ x.f2 ≤ y.f2)))) := by
 unfold cmpR
 have a0 := cmpI_eq x.f0 y.f0
 have a1 := cmpI_eq x.f1 y.f1
 have l0 := cmpI_le x.f0 y.f0
 have l1 := cmpI_le x.f1 y.f1
 have l2 := cmpI_le x.f2 y.f2
 split
 ·split
  ·omega
  ·omega
 ·omega
theorem cmpR_trans (x y z : S71) (h1 : cmpR x y ≤ 0) (h2 : cmpR y z ≤ 0) : cmpR x z ≤ 0 := by
 rw [cmpR_le] at *
 omega
theorem cmpR_total (x y : S71) : cmpR x y ≤ 0 ∨ cmpR y x ≤ 0 := by
 have := cmpR_anti x y
 omega
def srtd : List S71 → Bool
 | [] => true
 | [_] => true
 | x :: y :: l => decide (cmpR x y ≤ 0) && srtd (y :: l)
theorem srt_spec_go (l : List S71) (hl : l.length ≤ 9223372036854775807) (d : Nat) : ∀ (k : Nat) (i : Int), 1 ≤ i → i ≤ l.length → (l.length : Int) - i = d → d + 4 < k → y_s.l0 k l i = some (srtd (l.drop (i - 1).toNat)) := by
 induction d with
 | zero =>
  intro k i h0 h1 hd hk
  obtain ⟨k, rfl⟩ : ∃ m, k = m + 1 := ⟨k - 1, by omega⟩
  simp only [y_s.l0]
  rw [if_neg (by omega), drop_getD l z71 (i - 1) (by omega) (by omega), drop_end l (i - 1 + 1) (by omega)]
  rfl
 | succ d ih =>
  intro k i h0 h1 hd hk
  obtain ⟨k, rfl⟩ : ∃ m, k = m + 1 := ⟨k - 1, by omega⟩
  simp only [y_s.l0]
  rw [wrap_id (x := i - 1) (by omega) (by omega), wrap_succ (by omega) (n := l.length) (by omega) (by omega), if_pos (by omega), if_pos (by omega), if_pos (by omega), if_pos (by omega), cmp_spec _ _ k (by omega)]
  simp only [Option.bind_some]
  have ih := ih k (i + 1) (by omega) (by omega) (by omega) (by omega)
  rw [ih, show i + 1 - 1 = i by omega, drop_getD l z71 (i - 1) (by omega) (by omega), show i - 1 + 1 = i by omega, drop_getD l z71 i (by omega) (by omega)]
  simp only [srtd]
  by_cases hc : cmpR (rd_T71 l (i - 1)) (rd_T71 l i) > 0
  ·rw [if_pos hc]
   have : decide (cmpR (l.getD (i - 1).toNat z71) (l.getD i.toNat z71) ≤ 0) = false := decide_eq_false (by show ¬ (cmpR (rd_T71 l (i - 1)) (rd_T71 l i) ≤ 0); omega)
   rw [this]
   rfl
  ·rw [if_neg hc]
   have : decide (cmpR (l.getD (i - 1).toNat z71) (l.getD i.toNat z71) ≤ 0) = true := decide_eq_true (by show (cmpR (rd_T71 l (i - 1)) (rd_T71 l i) ≤ 0); omega)
   rw [this]
   rfl
theorem srt_impl_go (l : List S71) (hl : l.length ≤ 9223372036854775807) (d : Nat) : ∀ (k : Nat) (i : Int), 1 ≤ i → i ≤ l.length → (l.length : Int) - i = d → d < k → y_j.l0 k l i = some (srtd (l.drop (i - 1).toNat)) := by
 induction d with
 | zero =>
  intro k i h0 h1 hd hk
  obtain ⟨k, rfl⟩ : ∃ m, k = m + 1 := ⟨k - 1, by omega⟩
  simp only [y_j.l0]
  rw [if_neg (by omega), drop_getD l z71 (i - 1) (by omega) (by omega), drop_end l (i - 1 + 1) (by omega)]
  rfl
 | succ d ih =>
  intro k i h0 h1 hd hk
  obtain ⟨k, rfl⟩ : ∃ m, k = m + 1 := ⟨k - 1, by omega⟩
  simp only [y_j.l0]
  rw [wrap_id (x := i - 1) (by omega) (by omega), wrap_succ (by omega) (n := l.length) (by omega) (by omega), if_pos (by omega), if_pos (by omega), if_pos (by omega), if_pos (by omega), cmp_impl]
  simp only [Option.bind_some]
  have ih := ih k (i + 1) (by omega) (by omega) (by omega) (by omega)
  rw [ih, show i + 1 - 1 = i by omega, drop_getD l z71 (i - 1) (by omega) (by omega), show i - 1 + 1 = i by omega, drop_getD l z71 i (by omega) (by omega), cmpR_anti]
  simp only [srtd]
  by_cases hc : cmpR (rd_T71 l (i - 1)) (rd_T71 l i) > 0
  ·rw [if_pos (by omega)]
   have : decide (cmpR (l.getD (i - 1).toNat z71) (l.getD i.toNat z71) ≤ 0) = false := decide_eq_false (by show ¬ (cmpR (rd_T71 l (i - 1)) (rd_T71 l i) ≤ 0); omega)
   rw [this]
   rfl
  ·rw [if_neg (by omega)]
   have : decide (cmpR (l.getD (i - 1).toNat z71) (l.getD i.toNat z71) ≤ 0) = true := decide_eq_true (by show (cmpR (rd_T71 l (i - 1)) (rd_T71 l i) ≤ 0); omega)
   rw [this]
   rfl
theorem srt_spec (l : List S71) (hl : l.length ≤ 9223372036854775807) (k : Nat) (hk : l.length + 4 < k) : y_s.f k l = some (srtd l) := by
 unfold y_s.f
 by_cases h0 : l.length = 0
 ·obtain ⟨k, rfl⟩ : ∃ m, k = m + 1 := ⟨k - 1, by omega⟩
  simp only [y_s.l0]
  rw [if_neg (by omega), List.eq_nil_of_length_eq_zero h0]
  rfl
 ·exact srt_spec_go l hl (l.length - 1) k 1 (by omega) (by omega) (by omega) (by omega)
theorem srt_impl (l : List S71) (hl : l.length ≤ 9223372036854775807) (k : Nat) (hk : l.length + 4 < k) : y_j.f k l = some (srtd l) := by
 unfold y_j.f
 by_cases h0 : l.length = 0
 ·obtain ⟨k, rfl⟩ : ∃ m, k = m + 1 := ⟨k - 1, by omega⟩
  simp only [y_j.l0]
  rw [if_neg (by omega), List.eq_nil_of_length_eq_zero h0]
  rfl
 ·exact srt_impl_go l hl (l.length - 1) k 1 (by omega) (by omega) (by omega) (by omega)
def vRows (l : List S71) : Bool := l.all vRow && decide (l.length ≤ 24)
theorem vRows_spec_go (l : List S71) (hl : l.length ≤ 9223372036854775807) (d : Nat) : ∀ (k : Nat) (i : Int), 0 ≤ i → i ≤ l.length → (l.length : Int) - i = d → d < k → y_z.l0 k l i = some ((l.drop i.toNat).all vRow && decide (l.length ≤ 24)) := by
 induction d with
 | zero =>
  intro k i h0 h1 hd hk
  obtain ⟨k, rfl⟩ : ∃ m, k = m + 1 := ⟨k - 1, by omega⟩
  simp only [y_z.l0]
  rw [if_neg (by omega), drop_end l i (by omega)]
  simp only [List.all_nil, Bool.true_and]
  congr 1
  exact decide_eq_decide.2 (by omega)
 | succ d ih =>
  intro k i h0 h1 hd hk
  obtain ⟨k, rfl⟩ : ∃ m, k = m + 1 := ⟨k - 1, by omega⟩
  simp only [y_z.l0]
  rw [if_pos (by omega), if_pos h0, vRow_spec, wrap_succ h0 (n := l.length) (by omega) (by omega)]
  simp only [Option.bind_some]
  rw [ih k (i + 1) (by omega) (by omega) (by omega) (by omega), drop_getD l z71 i h0 (by omega)]
  simp only [List.all_cons]
  show (if vRow (rd_T71 l i) = true then _ else _) = some ((vRow (rd_T71 l i) && _) && _)
  cases vRow (rd_T71 l i) <;> simp
theorem vRows_spec (l : List S71) (hl : l.length ≤ 9223372036854775807) (k : Nat) (hk : l.length < k) : y_z.f k l = some (vRows l) := by
 unfold y_z.f
 exact vRows_spec_go l hl l.length k 0 (by omega) (by omega) (by omega) hk
theorem allV_impl_go (l : List S71) (hl : l.length ≤ 9223372036854775807) (d : Nat) : ∀ (k : Nat) (i : Int), 0 ≤ i → i ≤ l.length → (l.length : Int) - i = d → d < k → y_u.l0 k l (l.length : Int) i = some ((l.drop i.toNat).all vRow) := by
 induction d with
 | zero =>
  intro k i h0 h1 hd hk
  obtain ⟨k, rfl⟩ : ∃ m, k = m + 1 := ⟨k - 1, by omega⟩
  simp only [y_u.l0]
  rw [if_neg (by omega), drop_end l i (by omega)]
  rfl
 | succ d ih =>
  intro k i h0 h1 hd hk
  obtain ⟨k, rfl⟩ : ∃ m, k = m + 1 := ⟨k - 1, by omega⟩
  simp only [y_u.l0]
  rw [if_pos (by omega), if_pos h0, if_pos (by omega), vRow_impl, wrap_succ h0 (n := l.length) (by omega) (by omega)]
  simp only [Option.bind_some]
  rw [ih k (i + 1) (by omega) (by omega) (by omega) (by omega), drop_getD l z71 i h0 (by omega)]
  simp only [List.all_cons]
  show (if vRow (rd_T71 l i) = true then _ else _) = some (vRow (rd_T71 l i) && _)
  cases vRow (rd_T71 l i) <;> simp
theorem vRows_impl (l : List S71) (hl : l.length ≤ 9223372036854775807) (k : Nat) (hk : l.length < k) : y_t.f k l = some (vRows l) := by
 unfold y_t.f y_u.f vRows
 rw [allV_impl_go l hl l.length k 0 (by omega) (by omega) (by omega) hk]
 simp only [Option.bind_some]
 by_cases h : l.length ≤ 24
 ·rw [if_pos (by omega), decide_eq_true h]
  simp
 ·rw [if_neg (by omega), decide_eq_false h]
  simp
def SP (l : List S71) : Prop := l.Pairwise (fun a b => cmpR a b ≤ 0)
def leS (x y : S71) : Bool := decide (cmpR x y ≤ 0)
def srt (l : List S71) : List S71 := l.mergeSort leS
theorem srt_perm (l : List S71) : (srt l).Perm l := List.mergeSort_perm l leS
theorem srt_len (l : List S71) : (srt l).length = l.length := (srt_perm l).length_eq
theorem srt_sp (l : List S71) : SP (srt l) := by
 have h := List.pairwise_mergeSort (le := leS) (fun a b c h1 h2 => decide_eq_true (cmpR_trans a b c (of_decide_eq_true h1) (of_decide_eq_true h2)))
  (fun a b => by
   rcases cmpR_total a b with h | h
   ·simp [leS, h]
   ·simp [leS, h]) l
 exact h.imp (fun h => of_decide_eq_true h)
theorem sp_unique (a b : List S71) (ha : SP a) (hb : SP b) (h : a.Perm b) : a = b :=
 List.Perm.eq_of_pairwise (le := fun a b => cmpR a b ≤ 0) (fun x y _ _ h1 h2 => cmpR_zero x y (by have := cmpR_anti x y; omega)) ha hb h
theorem srt_unique (a l : List S71) (ha : SP a) (h : a.Perm l) : a = srt l := sp_unique a (srt l) ha (srt_sp l) (h.trans (srt_perm l).symm)
theorem srt_congr (a b : List S71) (h : a.Perm b) : srt a = srt b := srt_unique (srt a) b (srt_sp a) ((srt_perm a).trans h)
theorem getD_le (l : List S71) (hs : SP l) (j : Nat) (hj : j < l.length) (x : S71) (h : cmpR (l.getD j z71) x ≤ 0) : ∀ y ∈ l.take (j + 1), cmpR y x ≤ 0 := by
 intro y hy
 unfold SP at hs
 rw [List.take_add_one, List.getElem?_eq_getElem hj] at hy
 have e : l.getD j z71 = l[j] := by
  rw [List.getD_eq_getElem?_getD, List.getElem?_eq_getElem hj]
  rfl
 rw [e] at h
 rcases List.mem_append.1 hy with h1 | h1
 ·rw [← List.take_append_drop j l, List.pairwise_append] at hs
  have hm : l[j] ∈ l.drop j := by
   rw [List.drop_eq_getElem_cons hj]
   exact List.mem_cons_self
  exact cmpR_trans y l[j] x (hs.2.2 y h1 _ hm) h
 ·have : y = l[j] := by simpa using h1
  rw [this]
  exact h
theorem take_succ_rd (l : List S71) (i : Int) (h0 : 0 ≤ i) (h : i < (l.length : Int)) : l.take (i + 1).toNat = l.take i.toNat ++ [rd_T71 l i] := by
 have hi : i.toNat < l.length := by omega
 rw [show (i + 1).toNat = i.toNat + 1 by omega, List.take_add_one, List.getElem?_eq_getElem hi]
 unfold rd_T71
 rw [List.getD_eq_getElem?_getD, List.getElem?_eq_getElem hi]
 rfl
theorem min_go (l : List S71) (hl : l.length ≤ 9223372036854775807) (d : Nat) : ∀ (k : Nat) (b i : Int), 0 ≤ i → i ≤ l.length → -1 ≤ b → b < i → (b < 0 → i = 0) → (∀ y ∈ l.take i.toNat, cmpR (rd_T71 l b) y ≤ 0) → (l.length : Int) - i = d → d + 5 < k →
  ∃ r, y_m.l0 k l b i = some r ∧ y_f.l0 k l b l (l.length : Int) i = some r ∧ -1 ≤ r ∧ r < l.length ∧ (r < 0 → l.length = 0) ∧ (∀ y ∈ l, cmpR (rd_T71 l r) y ≤ 0) := by
 induction d with
 | zero =>
  intro k b i h0 h1 hb0 hb1 hb2 hm hd hk
  obtain ⟨k, rfl⟩ : ∃ m, k = m + 1 := ⟨k - 1, by omega⟩
  rw [y_m.l0, y_f.l0, if_neg (by omega), if_neg (by omega)]
  rw [List.take_of_length_le (by omega)] at hm
  exact ⟨b, rfl, rfl, hb0, by omega, fun h => by have := hb2 h; omega, hm⟩
 | succ d ih =>
  intro k b i h0 h1 hb0 hb1 hb2 hm hd hk
  obtain ⟨k, rfl⟩ : ∃ m, k = m + 1 := ⟨k - 1, by omega⟩
  have hT := take_succ_rd l i h0 (by omega)
  rw [y_m.l0, y_f.l0, if_pos (show i < (l.length : Int) by omega), if_pos (show i < (l.length : Int) by omega), if_pos h0, if_pos h0, if_pos (show i < (l.length : Int) by omega), wrap_succ h0 (n := l.length) (by omega) (by omega)]
  by_cases hb : b < 0
  ·rw [if_pos hb, if_pos hb]
   refine ih k i (i + 1) (by omega) (by omega) (by omega) (by omega) (fun h => by omega) (fun y hy => ?_) (by omega) (by omega)
   have hi := hb2 hb
   subst hi
   rw [hT] at hy
   have : y = rd_T71 l 0 := by simpa using hy
   rw [this, cmpR_self]
   exact Int.le_refl 0
  ·rw [if_neg hb, if_neg hb, if_pos (show 0 ≤ b by omega), if_pos (show 0 ≤ b by omega), if_pos (show b < (l.length : Int) by omega), if_pos (show b < (l.length : Int) by omega), cmp_spec _ _ k (by omega), cmp_impl]
   simp only [Option.bind_some]
   by_cases hc : cmpR (rd_T71 l i) (rd_T71 l b) < 0
   ·rw [if_pos hc, if_pos hc]
    refine ih k i (i + 1) (by omega) (by omega) (by omega) (by omega) (fun h => by omega) (fun y hy => ?_) (by omega) (by omega)
    rw [hT] at hy
    rcases List.mem_append.1 hy with h | h
    ·exact cmpR_trans _ _ _ (by omega) (hm y h)
    ·have : y = rd_T71 l i := by simpa using h
     rw [this, cmpR_self]
     exact Int.le_refl 0
   ·rw [if_neg hc, if_neg hc]
    refine ih k b (i + 1) (by omega) (by omega) hb0 (by omega) (fun h => by omega) (fun y hy => ?_) (by omega) (by omega)
    rw [hT] at hy
    rcases List.mem_append.1 hy with h | h
    ·exact hm y h
    ·have : y = rd_T71 l i := by simpa using h
     rw [this]
     have := cmpR_anti (rd_T71 l i) (rd_T71 l b)
     omega
theorem min_both (l : List S71) (hl : l.length ≤ 9223372036854775807) (k1 k2 : Nat) (hk1 : l.length + 5 < k1) (hk2 : l.length + 5 < k2) :
  ∃ r, y_m.f k1 l = some r ∧ y_f.f k2 l = some r ∧ -1 ≤ r ∧ r < l.length ∧ (r < 0 → l.length = 0) ∧ (∀ y ∈ l, cmpR (rd_T71 l r) y ≤ 0) := by
 obtain ⟨r, h1, h2, h⟩ := min_go l hl l.length k1 (-1) 0 (by omega) (by omega) (by omega) (by omega) (fun _ => rfl) (fun y hy => by simp at hy) (by omega) hk1
 obtain ⟨s, g1, g2, g⟩ := min_go l hl l.length k2 (-1) 0 (by omega) (by omega) (by omega) (by omega) (fun _ => rfl) (fun y hy => by simp at hy) (by omega) hk2
 obtain ⟨q, e1, e2, e⟩ := min_go l hl l.length (k1 + k2) (-1) 0 (by omega) (by omega) (by omega) (by omega) (fun _ => rfl) (fun y hy => by simp at hy) (by omega) (by omega)
 have m1 : ∀ n, y_m.f (k1 + n) l = some r := by
  intro n
  induction n with
  | zero => exact h1
  | succ n ih => exact (y_m.mono l (k1 + n)) r ih
 have m2 : ∀ n, y_f.f (k2 + n) l = some s := by
  intro n
  induction n with
  | zero => exact g2
  | succ n ih => exact (y_f.mono l (k2 + n)) s ih
 have a1 : r = q := Option.some.inj ((m1 k2).symm.trans e1)
 have a2 : s = q := Option.some.inj ((m2 k1).symm.trans (by rw [Nat.add_comm]; exact e2))
 exact ⟨r, h1, by rw [a1, ← a2]; exact g2, h⟩
def out1 (l : List S71) (i : Int) : List S71 := l.take i.toNat ++ l.drop (i + 1).toNat
theorem out1_perm (l : List S71) (i : Int) (h0 : 0 ≤ i) (h : i < (l.length : Int)) : l.Perm (rd_T71 l i :: out1 l i) := by
 have e : l = l.take i.toNat ++ rd_T71 l i :: l.drop (i + 1).toNat := by
  have := drop_getD l z71 i h0 h
  have e2 : l.getD i.toNat z71 = rd_T71 l i := rfl
  rw [← e2, ← this, List.take_append_drop]
 exact (List.Perm.of_eq e).trans List.perm_middle
theorem drop1_spec (l : List S71) (i : Int) (h0 : 0 ≤ i) (h : i < (l.length : Int)) (hl : l.length ≤ 1000000000) : y_hb.f l i = some (out1 l i) := by
 unfold y_hb.f out1
 simp only [Option.bind_some, List.nil_append, List.length_nil, List.length_take, List.length_drop, List.length_append]
 rw [wrap_succ h0 (n := l.length) h (by omega), if_pos h0, if_pos (by omega), if_pos (by omega), if_pos (by omega), if_pos (by omega), if_pos (by omega)]
theorem clone_eq (l : List S71) (hl : l.length ≤ 1000000000) : y_ib.f l = some l := by
 unfold y_ib.f
 rw [if_pos (by simp only [List.length_nil]; omega)]
 rfl
theorem taken_impl (l : List S71) (i : Int) (h0 : 0 ≤ i) (h : i < (l.length : Int)) (hl : l.length ≤ 1000000000) : y_ob.f l i = some (out1 l i) := by
 unfold y_ob.f out1
 rw [wrap_succ h0 (n := l.length) h (by omega), if_pos h0, if_pos (by omega), clone_eq _ (by rw [List.length_take]; omega)]
 simp only [Option.bind_some, List.length_take, List.length_drop]
 rw [if_pos (by omega), if_pos (by omega), if_pos (by omega)]
theorem cloneRuns_go (l : List S39) (hl : l.length ≤ 1000000000) (ho : ∀ x ∈ l, x.f0.length ≤ 1000000000) (d : Nat) : ∀ (k : Nat) (acc : List S39) (i : Int), 0 ≤ i → i ≤ l.length → acc = l.take i.toNat → (l.length : Int) - i = d → d < k →
  y_h.l0 k acc l (l.length : Int) i = some l := by
 induction d with
 | zero =>
  intro k acc i h0 h1 ha hd hk
  obtain ⟨k, rfl⟩ : ∃ m, k = m + 1 := ⟨k - 1, by omega⟩
  rw [List.take_of_length_le (by omega)] at ha
  rw [y_h.l0, if_neg (by omega), ha]
 | succ d ih =>
  intro k acc i h0 h1 ha hd hk
  obtain ⟨k, rfl⟩ : ∃ m, k = m + 1 := ⟨k - 1, by omega⟩
  have hm : (rd_T39 l i).f0.length ≤ 1000000000 := ho _ (getD_mem l z39 i h0 (by omega))
  have hal : acc.length = i.toNat := by
   rw [ha, List.length_take]
   omega
  rw [y_h.l0, if_pos (by omega), if_pos h0, if_pos (by omega), clone_eq _ hm]
  simp only [Option.bind_some]
  rw [if_pos (by omega), wrap_succ h0 (n := l.length) (by omega) (by omega)]
  refine ih k _ (i + 1) (by omega) (by omega) ?_ (by omega) (by omega)
  have hi : i.toNat < l.length := by omega
  rw [ha, show (i + 1).toNat = i.toNat + 1 by omega, List.take_add_one, List.getElem?_eq_getElem hi]
  have e : rd_T39 l i = l[i.toNat] := by
   unfold rd_T39
   rw [List.getD_eq_getElem?_getD, List.getElem?_eq_getElem hi]
   rfl
  rw [e]
  rfl
theorem cloneRuns_eq (l : List S39) (hl : l.length ≤ 1000000000) (ho : ∀ x ∈ l, x.f0.length ≤ 1000000000) (k : Nat) (hk : l.length < k) : y_h.f k l = some l := by
 unfold y_h.f
 exact cloneRuns_go l hl ho l.length k [] 0 (by omega) (by omega) rfl (by omega) hk
def fl (R : List S39) : List S71 := R.flatMap (fun r => r.f0)
theorem fl_snoc (R : List S39) (l : List S71) : fl (R ++ [⟨l⟩]) = fl R ++ l := by
 unfold fl
 rw [List.flatMap_append, List.flatMap_cons, List.flatMap_nil, List.append_nil]
theorem fl_len (R : List S39) (h : ∀ r ∈ R, r.f0 ≠ []) : R.length ≤ (fl R).length := by
 induction R with
 | nil => exact Nat.le_refl 0
 | cons r R ih =>
  have h1 := ih (fun x hx => h x (List.mem_cons_of_mem _ hx))
  have h2 := List.length_pos_iff.2 (h r List.mem_cons_self)
  unfold fl at *
  rw [List.flatMap_cons, List.length_append, List.length_cons]
  omega
theorem fl_mem (R : List S39) (r : S39) (h : r ∈ R) : r.f0.length ≤ (fl R).length := by
 induction R with
 | nil => cases h
 | cons x R ih =>
  unfold fl at *
  rw [List.flatMap_cons, List.length_append]
  rcases List.mem_cons.1 h with rfl | h
  ·omega
  ·have := ih h
   omega
theorem tot_perm (a b : List S71) (h : a.Perm b) : tot a = tot b := by
 induction h with
 | nil => rfl
 | cons x _ ih => simp only [tot, ih]
 | swap x y l =>
  simp only [tot]
  omega
 | trans _ _ h1 h2 => rw [h1, h2]
structure RInv (l : List S71) (mem : Int) (out : List S39) (cur heap next : List S71) (i : Int) : Prop where
 hi0 : 0 ≤ i
 hi1 : i ≤ l.length
 hperm : (fl out ++ cur ++ heap ++ next).Perm (l.take i.toNat)
 hout : ∀ r ∈ out, r.f0 ≠ [] ∧ SP r.f0 ∧ mem - 3 ≤ tot r.f0
 hcur : SP cur
 hlow : ∀ x ∈ cur, ∀ y ∈ heap, cmpR x y ≤ 0
 hc0 : cur = [] → next = []
 hbig : cur ≠ [] → (i = l.length ∧ next = []) ∨ mem - 3 ≤ tot cur + tot heap
 hone : tot l ≤ mem → out = [] ∧ next = [] ∧ (cur ≠ [] → i = l.length)
structure Post (l : List S71) (mem : Int) (R : List S39) : Prop where
 perm : (fl R).Perm l
 runs : ∀ r ∈ R, r.f0 ≠ [] ∧ SP r.f0
 most : ∀ r ∈ R.dropLast, mem - 3 ≤ tot r.f0
 one : tot l ≤ mem → R.length ≤ 1
theorem inv_len {l : List S71} {mem : Int} {out : List S39} {cur heap next : List S71} {i : Int} (h : RInv l mem out cur heap next i) :
  (fl out).length + cur.length + heap.length + next.length = i.toNat := by
 have := h.hperm.length_eq
 simp only [List.length_append, List.length_take] at this
 have := h.hi1
 have := h.hi0
 omega
theorem inv_tot {l : List S71} {mem : Int} {out : List S39} {cur heap next : List S71} {i : Int} (h : RInv l mem out cur heap next i) :
  tot heap + tot next + tot (l.drop i.toNat) ≤ tot l := by
 have e := tot_perm _ _ h.hperm
 simp only [tot_append] at e
 have e2 := tot_append (l.take i.toNat) (l.drop i.toNat)
 rw [List.take_append_drop] at e2
 have := tot_bd (fl out)
 have := tot_bd cur
 omega
theorem cost_drop (l : List S71) (i : Int) (h0 : 0 ≤ i) (h : i < (l.length : Int)) : cost (rd_T71 l i) ≤ tot (l.drop i.toNat) := by
 have e : l.drop i.toNat = rd_T71 l i :: l.drop (i + 1).toNat := drop_getD l z71 i h0 h
 have := tot_bd (l.drop (i + 1).toNat)
 rw [e]
 simp only [tot]
 omega
theorem inv_end {l : List S71} {mem : Int} {out : List S39} {cur : List S71} {i : Int} (h : RInv l mem out cur [] [] i) (hi : ¬ i < l.length) :
  Post l mem (if 0 < cur.length then out ++ [⟨cur⟩] else out) := by
 have hp := h.hperm
 rw [List.take_of_length_le (by omega), List.append_nil, List.append_nil] at hp
 split
 ·refine ⟨by rw [fl_snoc]; exact hp, fun r hr => ?_, fun r hr => ?_, fun ht => ?_⟩
  ·rcases List.mem_append.1 hr with h1 | h1
   ·exact ⟨(h.hout r h1).1, (h.hout r h1).2.1⟩
   ·obtain rfl : r = ⟨cur⟩ := by simpa using h1
    exact ⟨List.ne_nil_of_length_pos ‹_›, h.hcur⟩
  ·rw [List.dropLast_concat] at hr
   exact (h.hout r hr).2.2
  ·rw [(h.hone ht).1]
   exact Nat.le_refl 1
 ·have hc : cur = [] := List.eq_nil_of_length_eq_zero (by omega)
  rw [hc, List.append_nil] at hp
  refine ⟨hp, fun r hr => ⟨(h.hout r hr).1, (h.hout r hr).2.1⟩, fun r hr => (h.hout r (List.dropLast_subset out hr)).2.2, fun ht => ?_⟩
  rw [(h.hone ht).1]
  exact Nat.zero_le 1
theorem inv_next {l : List S71} {mem : Int} {out : List S39} {cur heap next : List S71} {i : Int} (h : RInv l mem out cur heap next i) (hi : i < l.length) (hc : cur ≠ []) :
  RInv l mem out cur heap (next ++ [rd_T71 l i]) (i + 1) := by
 have h0 := h.hi0
 refine ⟨by omega, by omega, ?_, h.hout, h.hcur, h.hlow, fun e => absurd e hc, fun _ => ?_, fun ht => ?_⟩
 ·rw [take_succ_rd l i h0 hi, ← List.append_assoc]
  exact h.hperm.append_right _
 ·rcases h.hbig hc with h1 | h1
  ·omega
  ·exact Or.inr h1
 ·have := (h.hone ht).2.2 hc
  omega
theorem inv_heap {l : List S71} {mem : Int} {out : List S39} {cur heap next : List S71} {i : Int} (h : RInv l mem out cur heap next i) (hi : i < l.length) (hc : ∀ x ∈ cur, cmpR x (rd_T71 l i) ≤ 0) :
  RInv l mem out cur (heap ++ [rd_T71 l i]) next (i + 1) := by
 have h0 := h.hi0
 refine ⟨by omega, by omega, ?_, h.hout, h.hcur, fun x hx y hy => ?_, h.hc0, fun hn => ?_, fun ht => ⟨(h.hone ht).1, (h.hone ht).2.1, fun hn => ?_⟩⟩
 ·rw [take_succ_rd l i h0 hi]
  have e : (fl out ++ cur ++ (heap ++ [rd_T71 l i]) ++ next).Perm (fl out ++ cur ++ heap ++ next ++ [rd_T71 l i]) := by
   simp only [List.append_assoc]
   exact List.Perm.append_left _ (List.Perm.append_left _ (List.Perm.append_left _ List.perm_append_comm))
  exact e.trans (h.hperm.append_right _)
 ·rcases List.mem_append.1 hy with h1 | h1
  ·exact h.hlow x hx y h1
  ·obtain rfl : y = rd_T71 l i := by simpa using h1
   exact hc x hx
 ·rcases h.hbig hn with h1 | h1
  ·omega
  ·right
   have := cost_bd (rd_T71 l i)
   rw [tot_append]
   simp only [tot]
   omega
 ·have := (h.hone ht).2.2 hn
  omega
theorem inv_flush {l : List S71} {mem : Int} {out : List S39} {cur next : List S71} {i : Int} (h : RInv l mem out cur [] next i) (hn : next ≠ []) :
  RInv l mem (out ++ [⟨cur⟩]) [] next [] i := by
 have hc : cur ≠ [] := fun e => hn (h.hc0 e)
 refine ⟨h.hi0, h.hi1, ?_, fun r hr => ?_, List.Pairwise.nil, fun x hx => absurd hx (by simp), fun _ => rfl, fun e => absurd rfl e, fun ht => absurd (h.hone ht).2.1 hn⟩
 ·rw [fl_snoc]
  simpa using h.hperm
 ·rcases List.mem_append.1 hr with h1 | h1
  ·exact h.hout r h1
  ·obtain rfl : r = ⟨cur⟩ := by simpa using h1
   refine ⟨hc, h.hcur, ?_⟩
   rcases h.hbig hc with h2 | h2
   ·exact absurd h2.2 hn
   ·simpa [tot] using h2
theorem inv_pop {l : List S71} {mem : Int} {out : List S39} {cur heap next : List S71} {i : Int} (h : RInv l mem out cur heap next i) (m : Int) (hm0 : 0 ≤ m) (hm1 : m < heap.length) (hmin : ∀ y ∈ heap, cmpR (rd_T71 heap m) y ≤ 0)
  (hf : i < l.length → mem < tot heap + tot next + cost (rd_T71 l i)) : RInv l mem out (cur ++ [rd_T71 heap m]) (out1 heap m) next i := by
 have hp := out1_perm heap m hm0 hm1
 have hx : rd_T71 heap m ∈ heap := hp.symm.subset List.mem_cons_self
 have hs : ∀ y ∈ out1 heap m, y ∈ heap := fun y hy => hp.symm.subset (List.mem_cons_of_mem _ hy)
 have ht := tot_perm _ _ hp
 simp only [tot] at ht
 generalize rd_T71 heap m = x at *
 generalize out1 heap m = heap' at *
 have ne : cur ++ [x] ≠ [] := by simp
 refine ⟨h.hi0, h.hi1, ?_, h.hout, ?_, fun a ha y hy => ?_, fun e => absurd e ne, fun _ => ?_, fun hT => ⟨(h.hone hT).1, (h.hone hT).2.1, fun _ => ?_⟩⟩
 ·refine List.Perm.trans ?_ h.hperm
  have e : (cur ++ [x] ++ heap').Perm (cur ++ heap) := by
   rw [List.append_assoc]
   exact List.Perm.append_left _ hp.symm
  have e2 := (e.append_left (fl out)).append_right next
  simpa [List.append_assoc] using e2
 ·unfold SP
  rw [List.pairwise_append]
  refine ⟨h.hcur, List.pairwise_singleton _ _, fun a ha b hb => ?_⟩
  obtain rfl : b = x := by simpa using hb
  exact h.hlow a ha b hx
 ·rcases List.mem_append.1 ha with h1 | h1
  ·exact h.hlow a h1 y (hs y hy)
  ·obtain rfl : a = x := by simpa using h1
   exact hmin y (hs y hy)
 ·rw [tot_append]
  simp only [tot]
  by_cases hc : cur = []
  ·by_cases hi : i < l.length
   ·right
    have h1 := hf hi
    have h2 := cost_bd (rd_T71 l i)
    have h3 : tot next = 0 := by rw [h.hc0 hc]; rfl
    have h4 : tot cur = 0 := by rw [hc]; rfl
    omega
   ·exact Or.inl ⟨by have := h.hi1; omega, h.hc0 hc⟩
  ·rcases h.hbig hc with h1 | h1
   ·exact Or.inl h1
   ·right
    omega
 ·by_cases hi : i < l.length
  ·have h1 := hf hi
   have h2 := inv_tot h
   have h3 := cost_drop l i h.hi0 hi
   omega
  ·have := h.hi1
   omega
theorem fl_cons (x : S39) (l : List S39) : fl (x :: l) = x.f0 ++ fl l := by
 unfold fl
 rw [List.flatMap_cons]
theorem flat_impl_go (l : List S39) (hl : l.length ≤ 100000000) (d : Nat) : ∀ (k : Nat) (out : List S71) (i : Int), 0 ≤ i → i ≤ l.length → out.length + (fl (l.drop i.toNat)).length ≤ 1000000000000 → (l.length : Int) - i = d → d < k →
  y_q.l0 k out l (l.length : Int) i = some (out ++ fl (l.drop i.toNat)) := by
 induction d with
 | zero =>
  intro k out i h0 h1 ho hd hk
  obtain ⟨k, rfl⟩ : ∃ m, k = m + 1 := ⟨k - 1, by omega⟩
  rw [y_q.l0, if_neg (by omega), drop_end l i (by omega)]
  exact congrArg some (List.append_nil out).symm
 | succ d ih =>
  intro k out i h0 h1 ho hd hk
  obtain ⟨k, rfl⟩ : ∃ m, k = m + 1 := ⟨k - 1, by omega⟩
  have hD : l.drop i.toNat = rd_T39 l i :: l.drop (i + 1).toNat := drop_getD l z39 i h0 (by omega)
  rw [hD, fl_cons, List.length_append] at ho
  rw [y_q.l0, if_pos (by omega), if_pos h0, if_pos (by omega), if_pos (by omega), wrap_succ h0 (n := l.length) (by omega) (by omega), ih k _ (i + 1) (by omega) (by omega) (by rw [List.length_append]; omega) (by omega) (by omega), hD, fl_cons, List.append_assoc]
theorem flat_impl (l : List S39) (hl : l.length ≤ 100000000) (ho : (fl l).length ≤ 1000000000000) (k : Nat) (hk : l.length < k) : y_q.f k l = some (fl l) := by
 unfold y_q.f
 exact flat_impl_go l hl l.length k [] 0 (by omega) (by omega) (by simp only [List.length_nil, Int.toNat_zero, List.drop_zero]; omega) (by omega) hk
theorem srtd_sp (l : List S71) : srtd l = true ↔ SP l := by
 unfold SP
 induction l with
 | nil => exact ⟨fun _ => List.Pairwise.nil, fun _ => rfl⟩
 | cons x l ih =>
  cases l with
  | nil => exact ⟨fun _ => List.pairwise_singleton _ _, fun _ => rfl⟩
  | cons y l =>
   rw [srtd, Bool.and_eq_true, decide_eq_true_eq, ih]
   constructor
   ·rintro ⟨h1, h2⟩
    refine List.pairwise_cons.2 ⟨fun z hz => ?_, h2⟩
    rcases List.mem_cons.1 hz with rfl | hz
    ·exact h1
    ·exact cmpR_trans x y z h1 ((List.pairwise_cons.1 h2).1 z hz)
   ·intro h
    obtain ⟨h1, h2⟩ := List.pairwise_cons.1 h
    exact ⟨h1 y List.mem_cons_self, h2⟩
end Go.Proofs.Ytkcicbigpbdjpaa.Pure
end
