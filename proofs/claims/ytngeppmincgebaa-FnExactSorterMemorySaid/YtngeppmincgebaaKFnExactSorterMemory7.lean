-- merged by pack.py out of Px52 Open StmtFnExactSorterMemory Base Row Cost SMem (words: printed by the kit's print.sh; what this claim does not use is left out)
import Derived.ChangeArms
import Derived.ChangeShapes
import Derived.Deep.Slices
import Derived.WideShapes
import Derived.Test.YtngeppmincgebaaKFnExactSorterMemory0
import Derived.Test.YtngeppmincgebaaKFnExactSorterMemory1
import Derived.Test.YtngeppmincgebaaKFnExactSorterMemory2
import Derived.Test.YtngeppmincgebaaKFnExactSorterMemory3
import Derived.Test.YtngeppmincgebaaKFnExactSorterMemory4
import Derived.Test.YtngeppmincgebaaKFnExactSorterMemory5
import Derived.Test.YtngeppmincgebaaKFnExactSorterMemory6
section
namespace Go.Proofs.Ytngeppmincgebaa.P
open Go.RowKit Go.Proofs.YtngeppmincgebaaW.PrintWords Go.Proofs.YtngeppmincgebaaW.PrintLast Go.Proofs.YtngeppmincgebaaW.PrintMore
attribute [local go_sem] max2_int min2_int max_two min_two max_three min_three max_four min_four
set_option linter.unusedVariables false
set_option linter.unusedSimpArgs false
def laws_FnExactSorterMemory.f (k : Nat) (l0_0 : List (S77)) (a0_1 : Int) (l0_2 : List (S77)) (l0_3 : List (S77)) (l0_4 : List (S77)) (l0_5 : List (S91)) (a0_6 : Int) (a0_7 : Int) (a0_8 : Int) (a0_9 : Int) : Option (Bool) := (laws_szSorter.f k l0_0 a0_1 l0_2 l0_3 l0_4 l0_5 a0_6 a0_7 a0_8 a0_9 1048576).bind fun t1076 => (if t1076 < 0 then (some true) else ((laws_toSorter.f k l0_0 a0_1 l0_2 l0_3 l0_4 l0_5 a0_6 a0_7 a0_8 a0_9).bind fun bt1077 => ((spec_SorterMemory.f k bt1077.1 bt1077.2.1 bt1077.2.2.1 bt1077.2.2.2.1 bt1077.2.2.2.2.1 bt1077.2.2.2.2.2.1 bt1077.2.2.2.2.2.2.1 bt1077.2.2.2.2.2.2.2.1 bt1077.2.2.2.2.2.2.2.2.1 bt1077.2.2.2.2.2.2.2.2.2).bind fun t1097 => ((laws_toSorter.f k l0_0 a0_1 l0_2 l0_3 l0_4 l0_5 a0_6 a0_7 a0_8 a0_9).bind fun bt1098 => ((impl_SorterMemory.f k bt1098.1 bt1098.2.1 bt1098.2.2.1 bt1098.2.2.2.1 bt1098.2.2.2.2.1 bt1098.2.2.2.2.2.1 bt1098.2.2.2.2.2.2.1 bt1098.2.2.2.2.2.2.2.1 bt1098.2.2.2.2.2.2.2.2.1 bt1098.2.2.2.2.2.2.2.2.2).bind fun t1119 => (if t1119 = t1097 then ((laws_toSorter.f k l0_0 a0_1 l0_2 l0_3 l0_4 l0_5 a0_6 a0_7 a0_8 a0_9).bind fun bt1120 => ((laws_eqSorter.f k bt1098.1 bt1098.2.1 bt1098.2.2.1 bt1098.2.2.2.1 bt1098.2.2.2.2.1 bt1098.2.2.2.2.2.1 bt1098.2.2.2.2.2.2.1 bt1098.2.2.2.2.2.2.2.1 bt1098.2.2.2.2.2.2.2.2.1 bt1098.2.2.2.2.2.2.2.2.2 bt1120.1 bt1120.2.1 bt1120.2.2.1 bt1120.2.2.2.1 bt1120.2.2.2.2.1 bt1120.2.2.2.2.2.1 bt1120.2.2.2.2.2.2.1 bt1120.2.2.2.2.2.2.2.1 bt1120.2.2.2.2.2.2.2.2.1 bt1120.2.2.2.2.2.2.2.2.2).bind fun t1140 => (if t1140 = true then (some true) else (some false)))) else (some false)))))))
set_option maxHeartbeats 8000000 in
set_option maxRecDepth 100000 in
theorem laws_FnExactSorterMemory.calls (k : Nat) (A0_0 : Option Addr) (c0_0 : Nat) (l0_0 : List (S77)) (a0_1 : Int) (A0_2 : Option Addr) (c0_2 : Nat) (l0_2 : List (S77)) (A0_3 : Option Addr) (c0_3 : Nat) (l0_3 : List (S77)) (A0_4 : Option Addr) (c0_4 : Nat) (l0_4 : List (S77)) (A0_5 : Option Addr) (c0_5 : Nat) (l0_5 : List (S91)) (a0_6 : Int) (a0_7 : Int) (a0_8 : Int) (a0_9 : Int) (r : Bool) (w : World) (hr0_0 : Kd.C k77 w A0_0 l0_0.length l0_0) (hc0_0 : l0_0.length ≤ c0_0) (hr0_2 : Kd.C k77 w A0_2 l0_2.length l0_2) (hc0_2 : l0_2.length ≤ c0_2) (hr0_3 : Kd.C k77 w A0_3 l0_3.length l0_3) (hc0_3 : l0_3.length ≤ c0_3) (hr0_4 : Kd.C k77 w A0_4 l0_4.length l0_4) (hc0_4 : l0_4.length ≤ c0_4) (hr0_5 : Kd.C k91 w A0_5 l0_5.length l0_5) (hc0_5 : l0_5.length ≤ c0_5) (h : laws_FnExactSorterMemory.f k l0_0 a0_1 l0_2 l0_3 l0_4 l0_5 a0_6 a0_7 a0_8 a0_9 = some r) (hr_ : r = true) :
  Calls Try.prog 14 #[.agg #[.slice A0_0 l0_0.length c0_0, .int .i64 a0_1, .slice A0_2 l0_2.length c0_2, .slice A0_3 l0_3.length c0_3, .slice A0_4 l0_4.length c0_4, .slice A0_5 l0_5.length c0_5, .int .i64 a0_6, .int .i64 a0_7, .int .i64 a0_8, .int .i64 a0_9]] w fun e w' => e = .returned (.bool r) ∧ Below w.heap.size w w' := by
 have hu65 := Try.underlying65
 have hu59 := Try.underlying59
 have HR0_0 := Aside0.mk hr0_0
 have HC0_0 := Aside0.mk hc0_0
 clear hr0_0 hc0_0
 have HR0_2 := Aside0.mk hr0_2
 have HC0_2 := Aside0.mk hc0_2
 clear hr0_2 hc0_2
 have HR0_3 := Aside0.mk hr0_3
 have HC0_3 := Aside0.mk hc0_3
 clear hr0_3 hc0_3
 have HR0_4 := Aside0.mk hr0_4
 have HC0_4 := Aside0.mk hc0_4
 clear hr0_4 hc0_4
 have HR0_5 := Aside0.mk hr0_5
 have HC0_5 := Aside0.mk hc0_5
 clear hr0_5 hc0_5
 have HB := Aside0.mk (Below.refl w.heap.size w)
 have HR_ := Aside0.mk hr_
 clear hr_
 have H : ((laws_szSorter.f k l0_0 a0_1 l0_2 l0_3 l0_4 l0_5 a0_6 a0_7 a0_8 a0_9 1048576).bind fun t1076 => (if t1076 < 0 then (some true) else ((laws_toSorter.f k l0_0 a0_1 l0_2 l0_3 l0_4 l0_5 a0_6 a0_7 a0_8 a0_9).bind fun bt1077 => ((spec_SorterMemory.f k bt1077.1 bt1077.2.1 bt1077.2.2.1 bt1077.2.2.2.1 bt1077.2.2.2.2.1 bt1077.2.2.2.2.2.1 bt1077.2.2.2.2.2.2.1 bt1077.2.2.2.2.2.2.2.1 bt1077.2.2.2.2.2.2.2.2.1 bt1077.2.2.2.2.2.2.2.2.2).bind fun t1097 => ((laws_toSorter.f k l0_0 a0_1 l0_2 l0_3 l0_4 l0_5 a0_6 a0_7 a0_8 a0_9).bind fun bt1098 => ((impl_SorterMemory.f k bt1098.1 bt1098.2.1 bt1098.2.2.1 bt1098.2.2.2.1 bt1098.2.2.2.2.1 bt1098.2.2.2.2.2.1 bt1098.2.2.2.2.2.2.1 bt1098.2.2.2.2.2.2.2.1 bt1098.2.2.2.2.2.2.2.2.1 bt1098.2.2.2.2.2.2.2.2.2).bind fun t1119 => (if t1119 = t1097 then ((laws_toSorter.f k l0_0 a0_1 l0_2 l0_3 l0_4 l0_5 a0_6 a0_7 a0_8 a0_9).bind fun bt1120 => ((laws_eqSorter.f k bt1098.1 bt1098.2.1 bt1098.2.2.1 bt1098.2.2.2.1 bt1098.2.2.2.2.1 bt1098.2.2.2.2.2.1 bt1098.2.2.2.2.2.2.1 bt1098.2.2.2.2.2.2.2.1 bt1098.2.2.2.2.2.2.2.2.1 bt1098.2.2.2.2.2.2.2.2.2 bt1120.1 bt1120.2.1 bt1120.2.2.1 bt1120.2.2.2.1 bt1120.2.2.2.2.1 bt1120.2.2.2.2.2.1 bt1120.2.2.2.2.2.2.1 bt1120.2.2.2.2.2.2.2.1 bt1120.2.2.2.2.2.2.2.2.1 bt1120.2.2.2.2.2.2.2.2.2).bind fun t1140 => (if t1140 = true then (some true) else (some false)))) else (some false)))))))) = some r := h
 clear h
 replace H := Option.bind_eq_some_iff.mp H
 obtain ⟨t1076, A20, H⟩ := H
 replace H : (if t1076 < 0 then (some true) else ((laws_toSorter.f k l0_0 a0_1 l0_2 l0_3 l0_4 l0_5 a0_6 a0_7 a0_8 a0_9).bind fun bt1077 => ((spec_SorterMemory.f k bt1077.1 bt1077.2.1 bt1077.2.2.1 bt1077.2.2.2.1 bt1077.2.2.2.2.1 bt1077.2.2.2.2.2.1 bt1077.2.2.2.2.2.2.1 bt1077.2.2.2.2.2.2.2.1 bt1077.2.2.2.2.2.2.2.2.1 bt1077.2.2.2.2.2.2.2.2.2).bind fun t1097 => ((laws_toSorter.f k l0_0 a0_1 l0_2 l0_3 l0_4 l0_5 a0_6 a0_7 a0_8 a0_9).bind fun bt1098 => ((impl_SorterMemory.f k bt1098.1 bt1098.2.1 bt1098.2.2.1 bt1098.2.2.2.1 bt1098.2.2.2.2.1 bt1098.2.2.2.2.2.1 bt1098.2.2.2.2.2.2.1 bt1098.2.2.2.2.2.2.2.1 bt1098.2.2.2.2.2.2.2.2.1 bt1098.2.2.2.2.2.2.2.2.2).bind fun t1119 => (if t1119 = t1097 then ((laws_toSorter.f k l0_0 a0_1 l0_2 l0_3 l0_4 l0_5 a0_6 a0_7 a0_8 a0_9).bind fun bt1120 => ((laws_eqSorter.f k bt1098.1 bt1098.2.1 bt1098.2.2.1 bt1098.2.2.2.1 bt1098.2.2.2.2.1 bt1098.2.2.2.2.2.1 bt1098.2.2.2.2.2.2.1 bt1098.2.2.2.2.2.2.2.1 bt1098.2.2.2.2.2.2.2.2.1 bt1098.2.2.2.2.2.2.2.2.2 bt1120.1 bt1120.2.1 bt1120.2.2.1 bt1120.2.2.2.1 bt1120.2.2.2.2.1 bt1120.2.2.2.2.2.1 bt1120.2.2.2.2.2.2.1 bt1120.2.2.2.2.2.2.2.1 bt1120.2.2.2.2.2.2.2.2.1 bt1120.2.2.2.2.2.2.2.2.2).bind fun t1140 => (if t1140 = true then (some true) else (some false)))) else (some false))))))) = some r := H
 have A2 := Aside0.mk A20
 clear A20
 by_cases c3 : t1076 < 0
 ·rw [if_pos c3] at H
  have c3b0 : decide (t1076 < 0) = true := decide_eq_true c3
  clear c3
  obtain rfl := Option.some.inj H
  go_enter Try.func14, Try.ntmps14
  go_wp2_with (first | ((with_reducible refine gate_dst (N := 1) rfl ?_); refine box_event ?hg (N := 1) ?hd (cs := #[.slice A0_0 l0_0.length c0_0, .int .i64 a0_1, .slice A0_2 l0_2.length c0_2, .slice A0_3 l0_3.length c0_3, .slice A0_4 l0_4.length c0_4, .slice A0_5 l0_5.length c0_5, .int .i64 a0_6, .int .i64 a0_7, .int .i64 a0_8, .int .i64 a0_9]) (t := 65) ?hr ?_; (case hd => rfl); (case hg => rfl); (case hr => first | (go_simp; done) | (go_simp; rfl)); intro gb1075 hg w4 hbox hb; have n0_ := Aside0.mk (below_step (by repeat (first | (with_reducible first | exact HB.out | apply below_alloc | apply pw_below_drewN | apply below_drew1) | exact HB.out)) hb); have n1_ := Aside0.mk (hbox); have n2_ := Aside0.mk ((by rw [hg]; exact (below_size (by repeat (first | (with_reducible first | exact HB.out | apply below_alloc | apply pw_below_drewN | apply below_drew1) | exact HB.out))) : w.heap.size ≤ gb1075)); have n3_ := Aside0.mk ((by rw [hg]; exact (below_size (by repeat (first | (with_reducible first | exact HB.out | apply below_alloc | apply pw_below_drewN | apply below_drew1) | exact HB.out))) : w.heap.size ≤ gb1075)); clear HB; have HB := n0_; have BK1075 := n1_; have GW1075 := n2_; have GE1075 := n3_; clear n0_ n1_ n2_ n3_; clear hb hbox hg; obtain ⟨hcz5_0, hcz5_1, hcz5_2, hcz5_3, hcz5_4, hcz5_5, hcz5_6, hcz5_7, hcz5_8, hcz5_9⟩ := cells_10 BK1075.out; obtain ⟨hfz5_0, hfz5_1, hfz5_2, hfz5_3, hfz5_4, hfz5_5, hfz5_6, hfz5_7, hfz5_8, hfz5_9⟩ := frz_10 BK1075.out) | ((with_reducible refine gate_callee (f := 51) rfl ?_); refine goesL_ (some 9) rfl rfl Try.func51 (by kernel_rfl) rfl #[.agg #[.slice A0_0 l0_0.length c0_0, .int .i64 a0_1, .slice A0_2 l0_2.length c0_2, .slice A0_3 l0_3.length c0_3, .slice A0_4 l0_4.length c0_4, .slice A0_5 l0_5.length c0_5, .int .i64 a0_6, .int .i64 a0_7, .int .i64 a0_8, .int .i64 a0_9], .int .i64 1048576] rfl (by (try simp only [List.map_toArray, List.map_cons, List.map_nil]); first | done | rfl | (simp only [List.length_drop, List.length_take]; rfl)) ?_; (with_reducible refine (laws_szSorter.calls k _ _ l0_0 a0_1 _ _ l0_2 _ _ l0_3 _ _ l0_4 _ _ l0_5 a0_6 a0_7 a0_8 a0_9 1048576 t1076 _ ?side1 ?side2 ?side3 ?side4 ?side5 ?side6 ?side7 ?side8 ?side9 ?side10 A2.out).mono ?_); (case side1 => repeat (first | exact (Kd.C_below HR0_0.out HB.out) | (with_reducible refine Kd.C_alloc ?_ _) | (with_reducible refine Kd.C_drewN ?_ _) | (with_reducible refine Kd.C_drew ?_))); (case side2 => exact HC0_0.out); (case side3 => repeat (first | exact (Kd.C_below HR0_2.out HB.out) | (with_reducible refine Kd.C_alloc ?_ _) | (with_reducible refine Kd.C_drewN ?_ _) | (with_reducible refine Kd.C_drew ?_))); (case side4 => exact HC0_2.out); (case side5 => repeat (first | exact (Kd.C_below HR0_3.out HB.out) | (with_reducible refine Kd.C_alloc ?_ _) | (with_reducible refine Kd.C_drewN ?_ _) | (with_reducible refine Kd.C_drew ?_))); (case side6 => exact HC0_3.out); (case side7 => repeat (first | exact (Kd.C_below HR0_4.out HB.out) | (with_reducible refine Kd.C_alloc ?_ _) | (with_reducible refine Kd.C_drewN ?_ _) | (with_reducible refine Kd.C_drew ?_))); (case side8 => exact HC0_4.out); (case side9 => repeat (first | exact (Kd.C_below HR0_5.out HB.out) | (with_reducible refine Kd.C_alloc ?_ _) | (with_reducible refine Kd.C_drewN ?_ _) | (with_reducible refine Kd.C_drew ?_))); (case side10 => exact HC0_5.out); rintro e w6 ⟨rfl, hb⟩; refine ⟨_, rfl, ?_⟩; have n0_ := Aside0.mk (blk_below (g := gb1075) (o := .cells #[.slice A0_0 l0_0.length c0_0, .int .i64 a0_1, .slice A0_2 l0_2.length c0_2, .slice A0_3 l0_3.length c0_3, .slice A0_4 l0_4.length c0_4, .slice A0_5 l0_5.length c0_5, .int .i64 a0_6, .int .i64 a0_7, .int .i64 a0_8, .int .i64 a0_9] 65 (0, 0)) (by (with_reducible repeat (first | refine blk_drewN ?_ _ | refine blk_drew ?_ | refine blk_alloc ?_ _)); exact BK1075.out) hb); have n1_ := Aside0.mk (below_step (by repeat (first | (with_reducible first | exact HB.out | apply below_alloc | apply pw_below_drewN | apply below_drew1 | refine below_set ?_ GE1075.out) | exact HB.out)) hb); clear BK1075; clear HB; have BK1075 := n0_; have HB := n1_; clear n0_ n1_; (try clear hb); (try clear hb2); (try clear hk); (try clear hi)))
  go_ret
  exact ⟨by first | rfl | (simp [errW_none, errW_some] <;> rfl) | (simp [*, errW_none, errW_some] <;> rfl), by repeat (first | (with_reducible first | exact HB.out | apply below_alloc | apply pw_below_drewN | apply below_drew1 | refine below_set ?_ GE1075.out) | exact HB.out)⟩
 ·rw [if_neg c3] at H
  have c3b0 : decide (t1076 < 0) = false := decide_eq_false c3
  clear c3
  replace H := Option.bind_eq_some_iff.mp H
  obtain ⟨⟨t1077, t1080, t1081, t1084, t1087, t1090, t1093, t1094, t1095, t1096⟩, A70, H⟩ := H
  replace H : ((spec_SorterMemory.f k t1077 t1080 t1081 t1084 t1087 t1090 t1093 t1094 t1095 t1096).bind fun t1097 => ((laws_toSorter.f k l0_0 a0_1 l0_2 l0_3 l0_4 l0_5 a0_6 a0_7 a0_8 a0_9).bind fun bt1098 => ((impl_SorterMemory.f k bt1098.1 bt1098.2.1 bt1098.2.2.1 bt1098.2.2.2.1 bt1098.2.2.2.2.1 bt1098.2.2.2.2.2.1 bt1098.2.2.2.2.2.2.1 bt1098.2.2.2.2.2.2.2.1 bt1098.2.2.2.2.2.2.2.2.1 bt1098.2.2.2.2.2.2.2.2.2).bind fun t1119 => (if t1119 = t1097 then ((laws_toSorter.f k l0_0 a0_1 l0_2 l0_3 l0_4 l0_5 a0_6 a0_7 a0_8 a0_9).bind fun bt1120 => ((laws_eqSorter.f k bt1098.1 bt1098.2.1 bt1098.2.2.1 bt1098.2.2.2.1 bt1098.2.2.2.2.1 bt1098.2.2.2.2.2.1 bt1098.2.2.2.2.2.2.1 bt1098.2.2.2.2.2.2.2.1 bt1098.2.2.2.2.2.2.2.2.1 bt1098.2.2.2.2.2.2.2.2.2 bt1120.1 bt1120.2.1 bt1120.2.2.1 bt1120.2.2.2.1 bt1120.2.2.2.2.1 bt1120.2.2.2.2.2.1 bt1120.2.2.2.2.2.2.1 bt1120.2.2.2.2.2.2.2.1 bt1120.2.2.2.2.2.2.2.2.1 bt1120.2.2.2.2.2.2.2.2.2).bind fun t1140 => (if t1140 = true then (some true) else (some false)))) else (some false))))) = some r := H
  have A7 := Aside0.mk A70
  clear A70
  replace H := Option.bind_eq_some_iff.mp H
  obtain ⟨t1097, A80, H⟩ := H
  replace H : ((laws_toSorter.f k l0_0 a0_1 l0_2 l0_3 l0_4 l0_5 a0_6 a0_7 a0_8 a0_9).bind fun bt1098 => ((impl_SorterMemory.f k bt1098.1 bt1098.2.1 bt1098.2.2.1 bt1098.2.2.2.1 bt1098.2.2.2.2.1 bt1098.2.2.2.2.2.1 bt1098.2.2.2.2.2.2.1 bt1098.2.2.2.2.2.2.2.1 bt1098.2.2.2.2.2.2.2.2.1 bt1098.2.2.2.2.2.2.2.2.2).bind fun t1119 => (if t1119 = t1097 then ((laws_toSorter.f k l0_0 a0_1 l0_2 l0_3 l0_4 l0_5 a0_6 a0_7 a0_8 a0_9).bind fun bt1120 => ((laws_eqSorter.f k bt1098.1 bt1098.2.1 bt1098.2.2.1 bt1098.2.2.2.1 bt1098.2.2.2.2.1 bt1098.2.2.2.2.2.1 bt1098.2.2.2.2.2.2.1 bt1098.2.2.2.2.2.2.2.1 bt1098.2.2.2.2.2.2.2.2.1 bt1098.2.2.2.2.2.2.2.2.2 bt1120.1 bt1120.2.1 bt1120.2.2.1 bt1120.2.2.2.1 bt1120.2.2.2.2.1 bt1120.2.2.2.2.2.1 bt1120.2.2.2.2.2.2.1 bt1120.2.2.2.2.2.2.2.1 bt1120.2.2.2.2.2.2.2.2.1 bt1120.2.2.2.2.2.2.2.2.2).bind fun t1140 => (if t1140 = true then (some true) else (some false)))) else (some false)))) = some r := H
  have A8 := Aside0.mk A80
  clear A80
  replace H := Option.bind_eq_some_iff.mp H
  obtain ⟨⟨t1098, t1101, t1102, t1105, t1108, t1111, t1114, t1115, t1116, t1117⟩, A90, H⟩ := H
  replace H : ((impl_SorterMemory.f k t1098 t1101 t1102 t1105 t1108 t1111 t1114 t1115 t1116 t1117).bind fun t1119 => (if t1119 = t1097 then ((laws_toSorter.f k l0_0 a0_1 l0_2 l0_3 l0_4 l0_5 a0_6 a0_7 a0_8 a0_9).bind fun bt1120 => ((laws_eqSorter.f k t1098 t1101 t1102 t1105 t1108 t1111 t1114 t1115 t1116 t1117 bt1120.1 bt1120.2.1 bt1120.2.2.1 bt1120.2.2.2.1 bt1120.2.2.2.2.1 bt1120.2.2.2.2.2.1 bt1120.2.2.2.2.2.2.1 bt1120.2.2.2.2.2.2.2.1 bt1120.2.2.2.2.2.2.2.2.1 bt1120.2.2.2.2.2.2.2.2.2).bind fun t1140 => (if t1140 = true then (some true) else (some false)))) else (some false))) = some r := H
  have A9 := Aside0.mk A90
  clear A90
  replace H := Option.bind_eq_some_iff.mp H
  obtain ⟨t1119, A100, H⟩ := H
  replace H : (if t1119 = t1097 then ((laws_toSorter.f k l0_0 a0_1 l0_2 l0_3 l0_4 l0_5 a0_6 a0_7 a0_8 a0_9).bind fun bt1120 => ((laws_eqSorter.f k t1098 t1101 t1102 t1105 t1108 t1111 t1114 t1115 t1116 t1117 bt1120.1 bt1120.2.1 bt1120.2.2.1 bt1120.2.2.2.1 bt1120.2.2.2.2.1 bt1120.2.2.2.2.2.1 bt1120.2.2.2.2.2.2.1 bt1120.2.2.2.2.2.2.2.1 bt1120.2.2.2.2.2.2.2.2.1 bt1120.2.2.2.2.2.2.2.2.2).bind fun t1140 => (if t1140 = true then (some true) else (some false)))) else (some false)) = some r := H
  have A10 := Aside0.mk A100
  clear A100
  by_cases c11 : t1119 = t1097
  ·rw [if_pos c11] at H
   have c11b0 : (t1119 == t1097) = true := beq_iff_eq.mpr c11
   have c11b1 : (t1119 != t1097) = false := bne_eq_false_iff_eq.mpr c11
   clear c11
   replace H := Option.bind_eq_some_iff.mp H
   obtain ⟨⟨t1120, t1123, t1124, t1127, t1130, t1133, t1136, t1137, t1138, t1139⟩, A120, H⟩ := H
   replace H : ((laws_eqSorter.f k t1098 t1101 t1102 t1105 t1108 t1111 t1114 t1115 t1116 t1117 t1120 t1123 t1124 t1127 t1130 t1133 t1136 t1137 t1138 t1139).bind fun t1140 => (if t1140 = true then (some true) else (some false))) = some r := H
   have A12 := Aside0.mk A120
   clear A120
   replace H := Option.bind_eq_some_iff.mp H
   obtain ⟨t1140, A130, H⟩ := H
   replace H : (if t1140 = true then (some true) else (some false)) = some r := H
   have A13 := Aside0.mk A130
   clear A130
   by_cases c14 : t1140 = true
   ·subst c14
    have H1 : (some true) = some r := by rw [if_pos rfl] at H; exact H
    clear H
    have H := H1
    clear H1
    obtain rfl := Option.some.inj H
    go_enter Try.func14, Try.ntmps14
    try go_wp2_with (first | ((with_reducible refine gate_dst (N := 1) rfl ?_); refine box_event ?hg (N := 1) ?hd (cs := #[.slice A0_0 l0_0.length c0_0, .int .i64 a0_1, .slice A0_2 l0_2.length c0_2, .slice A0_3 l0_3.length c0_3, .slice A0_4 l0_4.length c0_4, .slice A0_5 l0_5.length c0_5, .int .i64 a0_6, .int .i64 a0_7, .int .i64 a0_8, .int .i64 a0_9]) (t := 65) ?hr ?_; (case hd => rfl); (case hg => rfl); (case hr => first | (go_simp; done) | (go_simp; rfl)); intro gb1075 hg w15 hbox hb; have n0_ := Aside0.mk (below_step (by repeat (first | (with_reducible first | exact HB.out | apply below_alloc | apply pw_below_drewN | apply below_drew1) | exact HB.out)) hb); have n1_ := Aside0.mk (hbox); have n2_ := Aside0.mk ((by rw [hg]; exact (below_size (by repeat (first | (with_reducible first | exact HB.out | apply below_alloc | apply pw_below_drewN | apply below_drew1) | exact HB.out))) : w.heap.size ≤ gb1075)); have n3_ := Aside0.mk ((by rw [hg]; exact (below_size (by repeat (first | (with_reducible first | exact HB.out | apply below_alloc | apply pw_below_drewN | apply below_drew1) | exact HB.out))) : w.heap.size ≤ gb1075)); clear HB; have HB := n0_; have BK1075 := n1_; have GW1075 := n2_; have GE1075 := n3_; clear n0_ n1_ n2_ n3_; clear hb hbox hg; obtain ⟨hcz16_0, hcz16_1, hcz16_2, hcz16_3, hcz16_4, hcz16_5, hcz16_6, hcz16_7, hcz16_8, hcz16_9⟩ := cells_10 BK1075.out; obtain ⟨hfz16_0, hfz16_1, hfz16_2, hfz16_3, hfz16_4, hfz16_5, hfz16_6, hfz16_7, hfz16_8, hfz16_9⟩ := frz_10 BK1075.out) | ((with_reducible refine gate_callee (f := 51) rfl ?_); refine goesL_ (some 9) rfl rfl Try.func51 (by kernel_rfl) rfl #[.agg #[.slice A0_0 l0_0.length c0_0, .int .i64 a0_1, .slice A0_2 l0_2.length c0_2, .slice A0_3 l0_3.length c0_3, .slice A0_4 l0_4.length c0_4, .slice A0_5 l0_5.length c0_5, .int .i64 a0_6, .int .i64 a0_7, .int .i64 a0_8, .int .i64 a0_9], .int .i64 1048576] rfl (by (try simp only [List.map_toArray, List.map_cons, List.map_nil]); first | done | rfl | (simp only [List.length_drop, List.length_take]; rfl)) ?_; (with_reducible refine (laws_szSorter.calls k _ _ l0_0 a0_1 _ _ l0_2 _ _ l0_3 _ _ l0_4 _ _ l0_5 a0_6 a0_7 a0_8 a0_9 1048576 t1076 _ ?side1 ?side2 ?side3 ?side4 ?side5 ?side6 ?side7 ?side8 ?side9 ?side10 A2.out).mono ?_); (case side1 => repeat (first | exact (Kd.C_below HR0_0.out HB.out) | (with_reducible refine Kd.C_alloc ?_ _) | (with_reducible refine Kd.C_drewN ?_ _) | (with_reducible refine Kd.C_drew ?_))); (case side2 => exact HC0_0.out); (case side3 => repeat (first | exact (Kd.C_below HR0_2.out HB.out) | (with_reducible refine Kd.C_alloc ?_ _) | (with_reducible refine Kd.C_drewN ?_ _) | (with_reducible refine Kd.C_drew ?_))); (case side4 => exact HC0_2.out); (case side5 => repeat (first | exact (Kd.C_below HR0_3.out HB.out) | (with_reducible refine Kd.C_alloc ?_ _) | (with_reducible refine Kd.C_drewN ?_ _) | (with_reducible refine Kd.C_drew ?_))); (case side6 => exact HC0_3.out); (case side7 => repeat (first | exact (Kd.C_below HR0_4.out HB.out) | (with_reducible refine Kd.C_alloc ?_ _) | (with_reducible refine Kd.C_drewN ?_ _) | (with_reducible refine Kd.C_drew ?_))); (case side8 => exact HC0_4.out); (case side9 => repeat (first | exact (Kd.C_below HR0_5.out HB.out) | (with_reducible refine Kd.C_alloc ?_ _) | (with_reducible refine Kd.C_drewN ?_ _) | (with_reducible refine Kd.C_drew ?_))); (case side10 => exact HC0_5.out); rintro e w17 ⟨rfl, hb⟩; refine ⟨_, rfl, ?_⟩; have n0_ := Aside0.mk (blk_below (g := gb1075) (o := .cells #[.slice A0_0 l0_0.length c0_0, .int .i64 a0_1, .slice A0_2 l0_2.length c0_2, .slice A0_3 l0_3.length c0_3, .slice A0_4 l0_4.length c0_4, .slice A0_5 l0_5.length c0_5, .int .i64 a0_6, .int .i64 a0_7, .int .i64 a0_8, .int .i64 a0_9] 65 (0, 0)) (by (with_reducible repeat (first | refine blk_drewN ?_ _ | refine blk_drew ?_ | refine blk_alloc ?_ _)); exact BK1075.out) hb); have n1_ := Aside0.mk (below_step (by repeat (first | (with_reducible first | exact HB.out | apply below_alloc | apply pw_below_drewN | apply below_drew1 | refine below_set ?_ GE1075.out) | exact HB.out)) hb); clear BK1075; clear HB; have BK1075 := n0_; have HB := n1_; clear n0_ n1_; (try clear hb); (try clear hb2); (try clear hk); (try clear hi); obtain ⟨hcz18_0, hcz18_1, hcz18_2, hcz18_3, hcz18_4, hcz18_5, hcz18_6, hcz18_7, hcz18_8, hcz18_9⟩ := cells_10 BK1075.out; obtain ⟨hfz18_0, hfz18_1, hfz18_2, hfz18_3, hfz18_4, hfz18_5, hfz18_6, hfz18_7, hfz18_8, hfz18_9⟩ := frz_10 BK1075.out) | ((with_reducible refine gate_callee (f := 53) rfl ?_); refine goesL_ (some 13) rfl rfl Try.func53 (by kernel_rfl) rfl #[.agg #[.slice A0_0 l0_0.length c0_0, .int .i64 a0_1, .slice A0_2 l0_2.length c0_2, .slice A0_3 l0_3.length c0_3, .slice A0_4 l0_4.length c0_4, .slice A0_5 l0_5.length c0_5, .int .i64 a0_6, .int .i64 a0_7, .int .i64 a0_8, .int .i64 a0_9]] rfl (by (try simp only [List.map_toArray, List.map_cons, List.map_nil]); first | done | rfl | (simp only [List.length_drop, List.length_take]; rfl)) ?_; (with_reducible refine (laws_toSorter.calls k _ _ l0_0 a0_1 _ _ l0_2 _ _ l0_3 _ _ l0_4 _ _ l0_5 a0_6 a0_7 a0_8 a0_9 t1077 t1080 t1081 t1084 t1087 t1090 t1093 t1094 t1095 t1096 _ ?side1 ?side2 ?side3 ?side4 ?side5 ?side6 ?side7 ?side8 ?side9 ?side10 A7.out).mono ?_); (case side1 => repeat (first | exact (Kd.C_below HR0_0.out HB.out) | (with_reducible refine Kd.C_alloc ?_ _) | (with_reducible refine Kd.C_drewN ?_ _) | (with_reducible refine Kd.C_drew ?_))); (case side2 => exact HC0_0.out); (case side3 => repeat (first | exact (Kd.C_below HR0_2.out HB.out) | (with_reducible refine Kd.C_alloc ?_ _) | (with_reducible refine Kd.C_drewN ?_ _) | (with_reducible refine Kd.C_drew ?_))); (case side4 => exact HC0_2.out); (case side5 => repeat (first | exact (Kd.C_below HR0_3.out HB.out) | (with_reducible refine Kd.C_alloc ?_ _) | (with_reducible refine Kd.C_drewN ?_ _) | (with_reducible refine Kd.C_drew ?_))); (case side6 => exact HC0_3.out); (case side7 => repeat (first | exact (Kd.C_below HR0_4.out HB.out) | (with_reducible refine Kd.C_alloc ?_ _) | (with_reducible refine Kd.C_drewN ?_ _) | (with_reducible refine Kd.C_drew ?_))); (case side8 => exact HC0_4.out); (case side9 => repeat (first | exact (Kd.C_below HR0_5.out HB.out) | (with_reducible refine Kd.C_alloc ?_ _) | (with_reducible refine Kd.C_drewN ?_ _) | (with_reducible refine Kd.C_drew ?_))); (case side10 => exact HC0_5.out); rintro e w19 ⟨v1078, v1082, v1085, v1088, v1091, rfl, ho0, ho1, ho2, ho3, ho4, hb⟩; refine ⟨_, rfl, ?_⟩; have n0_ := Aside0.mk (Kd.R_lower ho0 (below_size (by repeat (first | (with_reducible first | exact HB.out | apply below_alloc | apply pw_below_drewN | apply below_drew1 | refine below_set ?_ GE1075.out) | exact HB.out)))); have n1_ := Aside0.mk (Kd.R_lower ho1 (below_size (by repeat (first | (with_reducible first | exact HB.out | apply below_alloc | apply pw_below_drewN | apply below_drew1 | refine below_set ?_ GE1075.out) | exact HB.out)))); have n2_ := Aside0.mk (Kd.R_lower ho2 (below_size (by repeat (first | (with_reducible first | exact HB.out | apply below_alloc | apply pw_below_drewN | apply below_drew1 | refine below_set ?_ GE1075.out) | exact HB.out)))); have n3_ := Aside0.mk (Kd.R_lower ho3 (below_size (by repeat (first | (with_reducible first | exact HB.out | apply below_alloc | apply pw_below_drewN | apply below_drew1 | refine below_set ?_ GE1075.out) | exact HB.out)))); have n4_ := Aside0.mk (Kd.S_lower ho4 (below_size (by repeat (first | (with_reducible first | exact HB.out | apply below_alloc | apply pw_below_drewN | apply below_drew1 | refine below_set ?_ GE1075.out) | exact HB.out)))); have n5_ := Aside0.mk (blk_below (g := gb1075) (o := .cells #[.slice A0_0 l0_0.length c0_0, .int .i64 a0_1, .slice A0_2 l0_2.length c0_2, .slice A0_3 l0_3.length c0_3, .slice A0_4 l0_4.length c0_4, .slice A0_5 l0_5.length c0_5, .int .i64 a0_6, .int .i64 a0_7, .int .i64 a0_8, .int .i64 a0_9] 65 (0, 0)) (by (with_reducible repeat (first | refine blk_drewN ?_ _ | refine blk_drew ?_ | refine blk_alloc ?_ _)); exact BK1075.out) hb); have n6_ := Aside0.mk (below_step (by repeat (first | (with_reducible first | exact HB.out | apply below_alloc | apply pw_below_drewN | apply below_drew1 | refine below_set ?_ GE1075.out) | exact HB.out)) hb); clear BK1075; clear HB; have HO1079 := n0_; have HO1083 := n1_; have HO1086 := n2_; have HO1089 := n3_; have HO1092 := n4_; have BK1075 := n5_; have HB := n6_; clear n0_ n1_ n2_ n3_ n4_ n5_ n6_; (try clear hb); (try clear hb2); (try clear hk); (try clear hi); (try clear ho0); (try clear ho1); (try clear ho2); (try clear ho3); (try clear ho4); obtain ⟨Ao20, co20, eo20⟩ := Kd.R_slice HO1079.out; subst eo20; obtain ⟨Ao21, co21, eo21⟩ := Kd.R_slice HO1083.out; subst eo21; obtain ⟨Ao22, co22, eo22⟩ := Kd.R_slice HO1086.out; subst eo22; obtain ⟨Ao23, co23, eo23⟩ := Kd.R_slice HO1089.out; subst eo23; obtain ⟨Ao24, co24, eo24⟩ := Kd.S_slice HO1092.out; subst eo24) | ((with_reducible refine gate_callee (f := 60) rfl ?_); refine goesL_ (some 14) rfl rfl Try.func60 (by kernel_rfl) rfl #[.agg #[.slice Ao20 t1077.length co20, .int .i64 t1080, .slice Ao21 t1081.length co21, .slice Ao22 t1084.length co22, .slice Ao23 t1087.length co23, .slice Ao24 t1090.length co24, .int .i64 t1093, .int .i64 t1094, .int .i64 t1095, .int .i64 t1096]] rfl (by (try simp only [List.map_toArray, List.map_cons, List.map_nil]); first | done | rfl | (simp only [List.length_drop, List.length_take]; rfl)) ?_; (with_reducible refine (spec_SorterMemory.calls k _ _ t1077 t1080 _ _ t1081 _ _ t1084 _ _ t1087 _ _ t1090 t1093 t1094 t1095 t1096 t1097 _ ?side1 ?side2 ?side3 ?side4 ?side5 ?side6 ?side7 ?side8 ?side9 ?side10 A8.out).mono ?_); (case side1 => repeat (first | exact (Kd.R_reads' HO1079.out).2.2 | (with_reducible refine Kd.C_alloc ?_ _) | (with_reducible refine Kd.C_drewN ?_ _) | (with_reducible refine Kd.C_drew ?_))); (case side2 => exact (Kd.R_reads' HO1079.out).2.1); (case side3 => repeat (first | exact (Kd.R_reads' HO1083.out).2.2 | (with_reducible refine Kd.C_alloc ?_ _) | (with_reducible refine Kd.C_drewN ?_ _) | (with_reducible refine Kd.C_drew ?_))); (case side4 => exact (Kd.R_reads' HO1083.out).2.1); (case side5 => repeat (first | exact (Kd.R_reads' HO1086.out).2.2 | (with_reducible refine Kd.C_alloc ?_ _) | (with_reducible refine Kd.C_drewN ?_ _) | (with_reducible refine Kd.C_drew ?_))); (case side6 => exact (Kd.R_reads' HO1086.out).2.1); (case side7 => repeat (first | exact (Kd.R_reads' HO1089.out).2.2 | (with_reducible refine Kd.C_alloc ?_ _) | (with_reducible refine Kd.C_drewN ?_ _) | (with_reducible refine Kd.C_drew ?_))); (case side8 => exact (Kd.R_reads' HO1089.out).2.1); (case side9 => repeat (first | exact (Kd.S_reads' HO1092.out).2.2 | (with_reducible refine Kd.C_alloc ?_ _) | (with_reducible refine Kd.C_drewN ?_ _) | (with_reducible refine Kd.C_drew ?_))); (case side10 => exact (Kd.S_reads' HO1092.out).2.1); rintro e w25 ⟨rfl, hb⟩; refine ⟨_, rfl, ?_⟩; have n0_ := Aside0.mk (Kd.R_below (by (with_reducible repeat (first | apply Kd.R_alloc | apply Kd.R_drewN | apply Kd.R_drew)); exact HO1079.out) hb); have n1_ := Aside0.mk (Kd.R_below (by (with_reducible repeat (first | apply Kd.R_alloc | apply Kd.R_drewN | apply Kd.R_drew)); exact HO1083.out) hb); have n2_ := Aside0.mk (Kd.R_below (by (with_reducible repeat (first | apply Kd.R_alloc | apply Kd.R_drewN | apply Kd.R_drew)); exact HO1086.out) hb); have n3_ := Aside0.mk (Kd.R_below (by (with_reducible repeat (first | apply Kd.R_alloc | apply Kd.R_drewN | apply Kd.R_drew)); exact HO1089.out) hb); have n4_ := Aside0.mk (Kd.S_below (by (with_reducible repeat (first | apply Kd.S_alloc | apply Kd.S_drewN | apply Kd.S_drew)); exact HO1092.out) hb); have n5_ := Aside0.mk (blk_below (g := gb1075) (o := .cells #[.slice A0_0 l0_0.length c0_0, .int .i64 a0_1, .slice A0_2 l0_2.length c0_2, .slice A0_3 l0_3.length c0_3, .slice A0_4 l0_4.length c0_4, .slice A0_5 l0_5.length c0_5, .int .i64 a0_6, .int .i64 a0_7, .int .i64 a0_8, .int .i64 a0_9] 65 (0, 0)) (by (with_reducible repeat (first | refine blk_drewN ?_ _ | refine blk_drew ?_ | refine blk_alloc ?_ _)); exact BK1075.out) hb); have n6_ := Aside0.mk (below_step (by repeat (first | (with_reducible first | exact HB.out | apply below_alloc | apply pw_below_drewN | apply below_drew1 | refine below_set ?_ GE1075.out) | exact HB.out)) hb); clear HO1079; clear HO1083; clear HO1086; clear HO1089; clear HO1092; clear BK1075; clear HB; have HO1079 := n0_; have HO1083 := n1_; have HO1086 := n2_; have HO1089 := n3_; have HO1092 := n4_; have BK1075 := n5_; have HB := n6_; clear n0_ n1_ n2_ n3_ n4_ n5_ n6_; (try clear hb); (try clear hb2); (try clear hk); (try clear hi); obtain ⟨hcz26_0, hcz26_1, hcz26_2, hcz26_3, hcz26_4, hcz26_5, hcz26_6, hcz26_7, hcz26_8, hcz26_9⟩ := cells_10 BK1075.out; obtain ⟨hfz26_0, hfz26_1, hfz26_2, hfz26_3, hfz26_4, hfz26_5, hfz26_6, hfz26_7, hfz26_8, hfz26_9⟩ := frz_10 BK1075.out) | ((with_reducible refine gate_callee (f := 53) rfl ?_); refine goesL_ (some 16) rfl rfl Try.func53 (by kernel_rfl) rfl #[.agg #[.slice A0_0 l0_0.length c0_0, .int .i64 a0_1, .slice A0_2 l0_2.length c0_2, .slice A0_3 l0_3.length c0_3, .slice A0_4 l0_4.length c0_4, .slice A0_5 l0_5.length c0_5, .int .i64 a0_6, .int .i64 a0_7, .int .i64 a0_8, .int .i64 a0_9]] rfl (by (try simp only [List.map_toArray, List.map_cons, List.map_nil]); first | done | rfl | (simp only [List.length_drop, List.length_take]; rfl)) ?_; (with_reducible refine (laws_toSorter.calls k _ _ l0_0 a0_1 _ _ l0_2 _ _ l0_3 _ _ l0_4 _ _ l0_5 a0_6 a0_7 a0_8 a0_9 t1098 t1101 t1102 t1105 t1108 t1111 t1114 t1115 t1116 t1117 _ ?side1 ?side2 ?side3 ?side4 ?side5 ?side6 ?side7 ?side8 ?side9 ?side10 A9.out).mono ?_); (case side1 => repeat (first | exact (Kd.C_below HR0_0.out HB.out) | (with_reducible refine Kd.C_alloc ?_ _) | (with_reducible refine Kd.C_drewN ?_ _) | (with_reducible refine Kd.C_drew ?_))); (case side2 => exact HC0_0.out); (case side3 => repeat (first | exact (Kd.C_below HR0_2.out HB.out) | (with_reducible refine Kd.C_alloc ?_ _) | (with_reducible refine Kd.C_drewN ?_ _) | (with_reducible refine Kd.C_drew ?_))); (case side4 => exact HC0_2.out); (case side5 => repeat (first | exact (Kd.C_below HR0_3.out HB.out) | (with_reducible refine Kd.C_alloc ?_ _) | (with_reducible refine Kd.C_drewN ?_ _) | (with_reducible refine Kd.C_drew ?_))); (case side6 => exact HC0_3.out); (case side7 => repeat (first | exact (Kd.C_below HR0_4.out HB.out) | (with_reducible refine Kd.C_alloc ?_ _) | (with_reducible refine Kd.C_drewN ?_ _) | (with_reducible refine Kd.C_drew ?_))); (case side8 => exact HC0_4.out); (case side9 => repeat (first | exact (Kd.C_below HR0_5.out HB.out) | (with_reducible refine Kd.C_alloc ?_ _) | (with_reducible refine Kd.C_drewN ?_ _) | (with_reducible refine Kd.C_drew ?_))); (case side10 => exact HC0_5.out); rintro e w27 ⟨v1099, v1103, v1106, v1109, v1112, rfl, ho0, ho1, ho2, ho3, ho4, hb⟩; refine ⟨_, rfl, ?_⟩; have n0_ := Aside0.mk (Kd.R_mono (Kd.R_told (Kd.R_told (Kd.R_told (Kd.R_told (Kd.R_old (by (with_reducible repeat (first | apply Kd.R_alloc | apply Kd.R_drewN | apply Kd.R_drew)); exact HO1079.out) hb) (Kd.R_base ho0)) (Kd.R_base ho1)) (Kd.R_base ho2)) (Kd.R_base ho3)) (fun _ h_ => h_.1)); have n1_ := Aside0.mk (Kd.R_mono (Kd.R_told (Kd.R_told (Kd.R_told (Kd.R_told (Kd.R_old (by (with_reducible repeat (first | apply Kd.R_alloc | apply Kd.R_drewN | apply Kd.R_drew)); exact HO1083.out) hb) (Kd.R_base ho0)) (Kd.R_base ho1)) (Kd.R_base ho2)) (Kd.R_base ho3)) (fun _ h_ => h_.1)); have n2_ := Aside0.mk (Kd.R_mono (Kd.R_told (Kd.R_told (Kd.R_told (Kd.R_told (Kd.R_old (by (with_reducible repeat (first | apply Kd.R_alloc | apply Kd.R_drewN | apply Kd.R_drew)); exact HO1086.out) hb) (Kd.R_base ho0)) (Kd.R_base ho1)) (Kd.R_base ho2)) (Kd.R_base ho3)) (fun _ h_ => h_.1)); have n3_ := Aside0.mk (Kd.R_mono (Kd.R_told (Kd.R_told (Kd.R_told (Kd.R_told (Kd.R_old (by (with_reducible repeat (first | apply Kd.R_alloc | apply Kd.R_drewN | apply Kd.R_drew)); exact HO1089.out) hb) (Kd.R_base ho0)) (Kd.R_base ho1)) (Kd.R_base ho2)) (Kd.R_base ho3)) (fun _ h_ => h_.1)); have n4_ := Aside0.mk (Kd.S_mono (Kd.S_told (Kd.S_told (Kd.S_told (Kd.S_told (Kd.S_told (Kd.S_old (by (with_reducible repeat (first | apply Kd.S_alloc | apply Kd.S_drewN | apply Kd.S_drew)); exact HO1092.out) hb) (Kd.R_base ho0)) (Kd.R_base ho1)) (Kd.R_base ho2)) (Kd.R_base ho3)) (Kd.S_base ho4)) (fun _ h_ => h_.1)); have n5_ := Aside0.mk (Kd.R_lower (Kd.R_new' (Kd.R_new' (Kd.R_new' (Kd.R_new' ho0 (Kd.R_lt (by (with_reducible repeat (first | apply Kd.R_alloc | apply Kd.R_drewN | apply Kd.R_drew)); exact HO1079.out))) (Kd.R_lt (by (with_reducible repeat (first | apply Kd.R_alloc | apply Kd.R_drewN | apply Kd.R_drew)); exact HO1083.out))) (Kd.R_lt (by (with_reducible repeat (first | apply Kd.R_alloc | apply Kd.R_drewN | apply Kd.R_drew)); exact HO1086.out))) (Kd.R_lt (by (with_reducible repeat (first | apply Kd.R_alloc | apply Kd.R_drewN | apply Kd.R_drew)); exact HO1089.out))) (below_size (by repeat (first | (with_reducible first | exact HB.out | apply below_alloc | apply pw_below_drewN | apply below_drew1 | refine below_set ?_ GE1075.out) | exact HB.out)))); have n6_ := Aside0.mk (Kd.R_lower (Kd.R_new' (Kd.R_new' (Kd.R_new' (Kd.R_new' ho1 (Kd.R_lt (by (with_reducible repeat (first | apply Kd.R_alloc | apply Kd.R_drewN | apply Kd.R_drew)); exact HO1079.out))) (Kd.R_lt (by (with_reducible repeat (first | apply Kd.R_alloc | apply Kd.R_drewN | apply Kd.R_drew)); exact HO1083.out))) (Kd.R_lt (by (with_reducible repeat (first | apply Kd.R_alloc | apply Kd.R_drewN | apply Kd.R_drew)); exact HO1086.out))) (Kd.R_lt (by (with_reducible repeat (first | apply Kd.R_alloc | apply Kd.R_drewN | apply Kd.R_drew)); exact HO1089.out))) (below_size (by repeat (first | (with_reducible first | exact HB.out | apply below_alloc | apply pw_below_drewN | apply below_drew1 | refine below_set ?_ GE1075.out) | exact HB.out)))); have n7_ := Aside0.mk (Kd.R_lower (Kd.R_new' (Kd.R_new' (Kd.R_new' (Kd.R_new' ho2 (Kd.R_lt (by (with_reducible repeat (first | apply Kd.R_alloc | apply Kd.R_drewN | apply Kd.R_drew)); exact HO1079.out))) (Kd.R_lt (by (with_reducible repeat (first | apply Kd.R_alloc | apply Kd.R_drewN | apply Kd.R_drew)); exact HO1083.out))) (Kd.R_lt (by (with_reducible repeat (first | apply Kd.R_alloc | apply Kd.R_drewN | apply Kd.R_drew)); exact HO1086.out))) (Kd.R_lt (by (with_reducible repeat (first | apply Kd.R_alloc | apply Kd.R_drewN | apply Kd.R_drew)); exact HO1089.out))) (below_size (by repeat (first | (with_reducible first | exact HB.out | apply below_alloc | apply pw_below_drewN | apply below_drew1 | refine below_set ?_ GE1075.out) | exact HB.out)))); have n8_ := Aside0.mk (Kd.R_lower (Kd.R_new' (Kd.R_new' (Kd.R_new' (Kd.R_new' ho3 (Kd.R_lt (by (with_reducible repeat (first | apply Kd.R_alloc | apply Kd.R_drewN | apply Kd.R_drew)); exact HO1079.out))) (Kd.R_lt (by (with_reducible repeat (first | apply Kd.R_alloc | apply Kd.R_drewN | apply Kd.R_drew)); exact HO1083.out))) (Kd.R_lt (by (with_reducible repeat (first | apply Kd.R_alloc | apply Kd.R_drewN | apply Kd.R_drew)); exact HO1086.out))) (Kd.R_lt (by (with_reducible repeat (first | apply Kd.R_alloc | apply Kd.R_drewN | apply Kd.R_drew)); exact HO1089.out))) (below_size (by repeat (first | (with_reducible first | exact HB.out | apply below_alloc | apply pw_below_drewN | apply below_drew1 | refine below_set ?_ GE1075.out) | exact HB.out)))); have n9_ := Aside0.mk (Kd.S_lower (Kd.S_new' (Kd.S_new' (Kd.S_new' (Kd.S_new' (Kd.S_new' ho4 (Kd.R_lt (by (with_reducible repeat (first | apply Kd.R_alloc | apply Kd.R_drewN | apply Kd.R_drew)); exact HO1079.out))) (Kd.R_lt (by (with_reducible repeat (first | apply Kd.R_alloc | apply Kd.R_drewN | apply Kd.R_drew)); exact HO1083.out))) (Kd.R_lt (by (with_reducible repeat (first | apply Kd.R_alloc | apply Kd.R_drewN | apply Kd.R_drew)); exact HO1086.out))) (Kd.R_lt (by (with_reducible repeat (first | apply Kd.R_alloc | apply Kd.R_drewN | apply Kd.R_drew)); exact HO1089.out))) (Kd.S_lt (by (with_reducible repeat (first | apply Kd.S_alloc | apply Kd.S_drewN | apply Kd.S_drew)); exact HO1092.out))) (below_size (by repeat (first | (with_reducible first | exact HB.out | apply below_alloc | apply pw_below_drewN | apply below_drew1 | refine below_set ?_ GE1075.out) | exact HB.out)))); have n10_ := Aside0.mk (blk_below (g := gb1075) (o := .cells #[.slice A0_0 l0_0.length c0_0, .int .i64 a0_1, .slice A0_2 l0_2.length c0_2, .slice A0_3 l0_3.length c0_3, .slice A0_4 l0_4.length c0_4, .slice A0_5 l0_5.length c0_5, .int .i64 a0_6, .int .i64 a0_7, .int .i64 a0_8, .int .i64 a0_9] 65 (0, 0)) (by (with_reducible repeat (first | refine blk_drewN ?_ _ | refine blk_drew ?_ | refine blk_alloc ?_ _)); exact BK1075.out) hb); have n11_ := Aside0.mk (below_step (by repeat (first | (with_reducible first | exact HB.out | apply below_alloc | apply pw_below_drewN | apply below_drew1 | refine below_set ?_ GE1075.out) | exact HB.out)) hb); clear HO1079; clear HO1083; clear HO1086; clear HO1089; clear HO1092; clear BK1075; clear HB; have HO1079 := n0_; have HO1083 := n1_; have HO1086 := n2_; have HO1089 := n3_; have HO1092 := n4_; have HO1100 := n5_; have HO1104 := n6_; have HO1107 := n7_; have HO1110 := n8_; have HO1113 := n9_; have BK1075 := n10_; have HB := n11_; clear n0_ n1_ n2_ n3_ n4_ n5_ n6_ n7_ n8_ n9_ n10_ n11_; (try clear hb); (try clear hb2); (try clear hk); (try clear hi); (try clear ho0); (try clear ho1); (try clear ho2); (try clear ho3); (try clear ho4)) | ((with_reducible refine gate_dst (N := 5) rfl ?_); refine box_event ?hg (N := 5) ?hd (cs := #[.slice none 0 0, .int .i64 0, .slice none 0 0, .slice none 0 0, .slice none 0 0, .slice none 0 0, .int .i64 0, .int .i64 0, .int .i64 0, .int .i64 0]) (t := 59) ?hr ?_; (case hd => rfl); (case hg => rfl); (case hr => first | (go_simp; done) | (go_simp; rfl)); intro gb1118 hg w28 hbox hb; have n0_ := Aside0.mk (Kd.R_below (by (with_reducible repeat (first | apply Kd.R_alloc | apply Kd.R_drewN | apply Kd.R_drew)); exact HO1079.out) hb); have n1_ := Aside0.mk (Kd.R_below (by (with_reducible repeat (first | apply Kd.R_alloc | apply Kd.R_drewN | apply Kd.R_drew)); exact HO1083.out) hb); have n2_ := Aside0.mk (Kd.R_below (by (with_reducible repeat (first | apply Kd.R_alloc | apply Kd.R_drewN | apply Kd.R_drew)); exact HO1086.out) hb); have n3_ := Aside0.mk (Kd.R_below (by (with_reducible repeat (first | apply Kd.R_alloc | apply Kd.R_drewN | apply Kd.R_drew)); exact HO1089.out) hb); have n4_ := Aside0.mk (Kd.S_below (by (with_reducible repeat (first | apply Kd.S_alloc | apply Kd.S_drewN | apply Kd.S_drew)); exact HO1092.out) hb); have n5_ := Aside0.mk (Kd.R_below (by (with_reducible repeat (first | apply Kd.R_alloc | apply Kd.R_drewN | apply Kd.R_drew)); exact HO1100.out) hb); have n6_ := Aside0.mk (Kd.R_below (by (with_reducible repeat (first | apply Kd.R_alloc | apply Kd.R_drewN | apply Kd.R_drew)); exact HO1104.out) hb); have n7_ := Aside0.mk (Kd.R_below (by (with_reducible repeat (first | apply Kd.R_alloc | apply Kd.R_drewN | apply Kd.R_drew)); exact HO1107.out) hb); have n8_ := Aside0.mk (Kd.R_below (by (with_reducible repeat (first | apply Kd.R_alloc | apply Kd.R_drewN | apply Kd.R_drew)); exact HO1110.out) hb); have n9_ := Aside0.mk (Kd.S_below (by (with_reducible repeat (first | apply Kd.S_alloc | apply Kd.S_drewN | apply Kd.S_drew)); exact HO1113.out) hb); have n10_ := Aside0.mk (blk_below (g := gb1075) (o := .cells #[.slice A0_0 l0_0.length c0_0, .int .i64 a0_1, .slice A0_2 l0_2.length c0_2, .slice A0_3 l0_3.length c0_3, .slice A0_4 l0_4.length c0_4, .slice A0_5 l0_5.length c0_5, .int .i64 a0_6, .int .i64 a0_7, .int .i64 a0_8, .int .i64 a0_9] 65 (0, 0)) (by (with_reducible repeat (first | refine blk_drewN ?_ _ | refine blk_drew ?_ | refine blk_alloc ?_ _)); exact BK1075.out) hb); have n11_ := Aside0.mk (below_step (by repeat (first | (with_reducible first | exact HB.out | apply below_alloc | apply pw_below_drewN | apply below_drew1 | refine below_set ?_ GE1075.out) | exact HB.out)) hb); have n12_ := Aside0.mk (hbox); have n13_ := Aside0.mk ((by rw [hg]; exact (below_size (by repeat (first | (with_reducible first | exact HB.out | apply below_alloc | apply pw_below_drewN | apply below_drew1 | refine below_set ?_ GE1075.out) | exact HB.out))) : w.heap.size ≤ gb1118)); have n14_ := Aside0.mk ((by rw [hg]; exact (below_size (by repeat (first | (with_reducible first | exact HB.out | apply below_alloc | apply pw_below_drewN | apply below_drew1 | refine below_set ?_ GE1075.out) | exact HB.out))) : w.heap.size ≤ gb1118)); have n15_ := Aside0.mk ((by rw [hg]; exact Nat.ne_of_lt (blk_lt (g := gb1075) (o := .cells #[.slice A0_0 l0_0.length c0_0, .int .i64 a0_1, .slice A0_2 l0_2.length c0_2, .slice A0_3 l0_3.length c0_3, .slice A0_4 l0_4.length c0_4, .slice A0_5 l0_5.length c0_5, .int .i64 a0_6, .int .i64 a0_7, .int .i64 a0_8, .int .i64 a0_9] 65 (0, 0)) (by (with_reducible repeat (first | refine blk_drewN ?_ _ | refine blk_drew ?_ | refine blk_alloc ?_ _)); exact BK1075.out)) : gb1075 ≠ gb1118)); have n16_ := Aside0.mk ((by rw [hg]; exact Nat.ne_of_gt (blk_lt (g := gb1075) (o := .cells #[.slice A0_0 l0_0.length c0_0, .int .i64 a0_1, .slice A0_2 l0_2.length c0_2, .slice A0_3 l0_3.length c0_3, .slice A0_4 l0_4.length c0_4, .slice A0_5 l0_5.length c0_5, .int .i64 a0_6, .int .i64 a0_7, .int .i64 a0_8, .int .i64 a0_9] 65 (0, 0)) (by (with_reducible repeat (first | refine blk_drewN ?_ _ | refine blk_drew ?_ | refine blk_alloc ?_ _)); exact BK1075.out)) : gb1118 ≠ gb1075)); clear HO1079; clear HO1083; clear HO1086; clear HO1089; clear HO1092; clear HO1100; clear HO1104; clear HO1107; clear HO1110; clear HO1113; clear BK1075; clear HB; have HO1079 := n0_; have HO1083 := n1_; have HO1086 := n2_; have HO1089 := n3_; have HO1092 := n4_; have HO1100 := n5_; have HO1104 := n6_; have HO1107 := n7_; have HO1110 := n8_; have HO1113 := n9_; have BK1075 := n10_; have HB := n11_; have BK1118 := n12_; have GW1118 := n13_; have GE1118 := n14_; have NB1075_1118 := n15_; have NB1118_1075 := n16_; clear n0_ n1_ n2_ n3_ n4_ n5_ n6_ n7_ n8_ n9_ n10_ n11_ n12_ n13_ n14_ n15_ n16_; clear hb hbox hg; obtain ⟨Ao29, co29, eo29⟩ := Kd.R_slice HO1100.out; subst eo29; have hnb30 := NB1118_1075.out; have hnc30 := NB1075_1118.out; obtain ⟨hcz31_0, hcz31_1, hcz31_2, hcz31_3, hcz31_4, hcz31_5, hcz31_6, hcz31_7, hcz31_8, hcz31_9⟩ := cells_10 BK1118.out; obtain ⟨hfz31_0, hfz31_1, hfz31_2, hfz31_3, hfz31_4, hfz31_5, hfz31_6, hfz31_7, hfz31_8, hfz31_9⟩ := frz_10 BK1118.out; obtain ⟨Ao32, co32, eo32⟩ := Kd.R_slice HO1104.out; subst eo32; obtain ⟨Ao33, co33, eo33⟩ := Kd.R_slice HO1107.out; subst eo33; obtain ⟨Ao34, co34, eo34⟩ := Kd.R_slice HO1110.out; subst eo34; obtain ⟨Ao35, co35, eo35⟩ := Kd.S_slice HO1113.out; subst eo35) | ((with_reducible refine gate_callee (f := 61) rfl ?_); refine goesL_ (some 18) rfl rfl Try.func61 (by kernel_rfl) rfl #[.agg #[.slice Ao29 t1098.length co29, .int .i64 t1101, .slice Ao32 t1102.length co32, .slice Ao33 t1105.length co33, .slice Ao34 t1108.length co34, .slice Ao35 t1111.length co35, .int .i64 t1114, .int .i64 t1115, .int .i64 t1116, .int .i64 t1117]] rfl (by (try simp only [List.map_toArray, List.map_cons, List.map_nil]); first | done | rfl | (simp only [List.length_drop, List.length_take]; rfl)) ?_; (with_reducible refine (impl_SorterMemory.calls k _ _ t1098 t1101 _ _ t1102 _ _ t1105 _ _ t1108 _ _ t1111 t1114 t1115 t1116 t1117 t1119 _ ?side1 ?side2 ?side3 ?side4 ?side5 ?side6 ?side7 ?side8 ?side9 ?side10 A10.out).mono ?_); (case side1 => refine (Kd.R_reads' (e := 75) (base := w.heap.size) (ok := fun k_ => (((((some k_ ≠ (.slice Ao32 t1102.length co32 : Value).ownBlock ∧ (some k_ ≠ (.slice Ao33 t1105.length co33 : Value).ownBlock ∧ some k_ ≠ (.slice Ao34 t1108.length co34 : Value).ownBlock)) ∧ some k_ ≠ (.slice Ao20 t1077.length co20 : Value).ownBlock) ∧ some k_ ≠ (.slice Ao21 t1081.length co21 : Value).ownBlock) ∧ some k_ ≠ (.slice Ao22 t1084.length co22 : Value).ownBlock) ∧ some k_ ≠ (.slice Ao23 t1087.length co23 : Value).ownBlock)) (n := t1098.length) (c := co29) ?_).2.2; exact (by (with_reducible repeat (first | apply Kd.R_alloc | apply Kd.R_drewN | apply Kd.R_drew)); exact (Kd.R_mono (Kd.R_far (p := ⟨gb1118, 9, none⟩) (Kd.R_far (p := ⟨gb1118, 8, none⟩) (Kd.R_far (p := ⟨gb1118, 7, none⟩) (Kd.R_far (p := ⟨gb1118, 6, none⟩) (Kd.R_far (p := ⟨gb1118, 5, none⟩) (Kd.R_far (p := ⟨gb1118, 4, none⟩) (Kd.R_far (p := ⟨gb1118, 3, none⟩) (Kd.R_far (p := ⟨gb1118, 2, none⟩) (Kd.R_far (p := ⟨gb1118, 1, none⟩) (Kd.R_far (p := ⟨gb1118, 0, none⟩) (Kd.R_types HO1100.out BK1118.out (by decide)) (fun _ hk => hk.2) (.slice Ao29 t1098.length co29)) (fun _ hk => hk.2) (.int .i64 t1101)) (fun _ hk => hk.2) (.slice Ao32 t1102.length co32)) (fun _ hk => hk.2) (.slice Ao33 t1105.length co33)) (fun _ hk => hk.2) (.slice Ao34 t1108.length co34)) (fun _ hk => hk.2) (.slice Ao35 t1111.length co35)) (fun _ hk => hk.2) (.int .i64 t1114)) (fun _ hk => hk.2) (.int .i64 t1115)) (fun _ hk => hk.2) (.int .i64 t1116)) (fun _ hk => hk.2) (.int .i64 t1117)) (fun _ h_ => h_.1)))); (case side2 => exact (Kd.R_reads' HO1100.out).2.1); (case side3 => refine (Kd.R_reads' (e := 75) (base := w.heap.size) (ok := fun k_ => (((((some k_ ≠ (.slice Ao29 t1098.length co29 : Value).ownBlock ∧ (some k_ ≠ (.slice Ao33 t1105.length co33 : Value).ownBlock ∧ some k_ ≠ (.slice Ao34 t1108.length co34 : Value).ownBlock)) ∧ some k_ ≠ (.slice Ao20 t1077.length co20 : Value).ownBlock) ∧ some k_ ≠ (.slice Ao21 t1081.length co21 : Value).ownBlock) ∧ some k_ ≠ (.slice Ao22 t1084.length co22 : Value).ownBlock) ∧ some k_ ≠ (.slice Ao23 t1087.length co23 : Value).ownBlock)) (n := t1102.length) (c := co32) ?_).2.2; exact (by (with_reducible repeat (first | apply Kd.R_alloc | apply Kd.R_drewN | apply Kd.R_drew)); exact (Kd.R_mono (Kd.R_far (p := ⟨gb1118, 9, none⟩) (Kd.R_far (p := ⟨gb1118, 8, none⟩) (Kd.R_far (p := ⟨gb1118, 7, none⟩) (Kd.R_far (p := ⟨gb1118, 6, none⟩) (Kd.R_far (p := ⟨gb1118, 5, none⟩) (Kd.R_far (p := ⟨gb1118, 4, none⟩) (Kd.R_far (p := ⟨gb1118, 3, none⟩) (Kd.R_far (p := ⟨gb1118, 2, none⟩) (Kd.R_far (p := ⟨gb1118, 1, none⟩) (Kd.R_far (p := ⟨gb1118, 0, none⟩) (Kd.R_types HO1104.out BK1118.out (by decide)) (fun _ hk => hk.2) (.slice Ao29 t1098.length co29)) (fun _ hk => hk.2) (.int .i64 t1101)) (fun _ hk => hk.2) (.slice Ao32 t1102.length co32)) (fun _ hk => hk.2) (.slice Ao33 t1105.length co33)) (fun _ hk => hk.2) (.slice Ao34 t1108.length co34)) (fun _ hk => hk.2) (.slice Ao35 t1111.length co35)) (fun _ hk => hk.2) (.int .i64 t1114)) (fun _ hk => hk.2) (.int .i64 t1115)) (fun _ hk => hk.2) (.int .i64 t1116)) (fun _ hk => hk.2) (.int .i64 t1117)) (fun _ h_ => h_.1)))); (case side4 => exact (Kd.R_reads' HO1104.out).2.1); (case side5 => refine (Kd.R_reads' (e := 75) (base := w.heap.size) (ok := fun k_ => (((((some k_ ≠ (.slice Ao29 t1098.length co29 : Value).ownBlock ∧ (some k_ ≠ (.slice Ao32 t1102.length co32 : Value).ownBlock ∧ some k_ ≠ (.slice Ao34 t1108.length co34 : Value).ownBlock)) ∧ some k_ ≠ (.slice Ao20 t1077.length co20 : Value).ownBlock) ∧ some k_ ≠ (.slice Ao21 t1081.length co21 : Value).ownBlock) ∧ some k_ ≠ (.slice Ao22 t1084.length co22 : Value).ownBlock) ∧ some k_ ≠ (.slice Ao23 t1087.length co23 : Value).ownBlock)) (n := t1105.length) (c := co33) ?_).2.2; exact (by (with_reducible repeat (first | apply Kd.R_alloc | apply Kd.R_drewN | apply Kd.R_drew)); exact (Kd.R_mono (Kd.R_far (p := ⟨gb1118, 9, none⟩) (Kd.R_far (p := ⟨gb1118, 8, none⟩) (Kd.R_far (p := ⟨gb1118, 7, none⟩) (Kd.R_far (p := ⟨gb1118, 6, none⟩) (Kd.R_far (p := ⟨gb1118, 5, none⟩) (Kd.R_far (p := ⟨gb1118, 4, none⟩) (Kd.R_far (p := ⟨gb1118, 3, none⟩) (Kd.R_far (p := ⟨gb1118, 2, none⟩) (Kd.R_far (p := ⟨gb1118, 1, none⟩) (Kd.R_far (p := ⟨gb1118, 0, none⟩) (Kd.R_types HO1107.out BK1118.out (by decide)) (fun _ hk => hk.2) (.slice Ao29 t1098.length co29)) (fun _ hk => hk.2) (.int .i64 t1101)) (fun _ hk => hk.2) (.slice Ao32 t1102.length co32)) (fun _ hk => hk.2) (.slice Ao33 t1105.length co33)) (fun _ hk => hk.2) (.slice Ao34 t1108.length co34)) (fun _ hk => hk.2) (.slice Ao35 t1111.length co35)) (fun _ hk => hk.2) (.int .i64 t1114)) (fun _ hk => hk.2) (.int .i64 t1115)) (fun _ hk => hk.2) (.int .i64 t1116)) (fun _ hk => hk.2) (.int .i64 t1117)) (fun _ h_ => h_.1)))); (case side6 => exact (Kd.R_reads' HO1107.out).2.1); (case side7 => refine (Kd.R_reads' (e := 75) (base := w.heap.size) (ok := fun k_ => (((((some k_ ≠ (.slice Ao29 t1098.length co29 : Value).ownBlock ∧ (some k_ ≠ (.slice Ao32 t1102.length co32 : Value).ownBlock ∧ some k_ ≠ (.slice Ao33 t1105.length co33 : Value).ownBlock)) ∧ some k_ ≠ (.slice Ao20 t1077.length co20 : Value).ownBlock) ∧ some k_ ≠ (.slice Ao21 t1081.length co21 : Value).ownBlock) ∧ some k_ ≠ (.slice Ao22 t1084.length co22 : Value).ownBlock) ∧ some k_ ≠ (.slice Ao23 t1087.length co23 : Value).ownBlock)) (n := t1108.length) (c := co34) ?_).2.2; exact (by (with_reducible repeat (first | apply Kd.R_alloc | apply Kd.R_drewN | apply Kd.R_drew)); exact (Kd.R_mono (Kd.R_far (p := ⟨gb1118, 9, none⟩) (Kd.R_far (p := ⟨gb1118, 8, none⟩) (Kd.R_far (p := ⟨gb1118, 7, none⟩) (Kd.R_far (p := ⟨gb1118, 6, none⟩) (Kd.R_far (p := ⟨gb1118, 5, none⟩) (Kd.R_far (p := ⟨gb1118, 4, none⟩) (Kd.R_far (p := ⟨gb1118, 3, none⟩) (Kd.R_far (p := ⟨gb1118, 2, none⟩) (Kd.R_far (p := ⟨gb1118, 1, none⟩) (Kd.R_far (p := ⟨gb1118, 0, none⟩) (Kd.R_types HO1110.out BK1118.out (by decide)) (fun _ hk => hk.2) (.slice Ao29 t1098.length co29)) (fun _ hk => hk.2) (.int .i64 t1101)) (fun _ hk => hk.2) (.slice Ao32 t1102.length co32)) (fun _ hk => hk.2) (.slice Ao33 t1105.length co33)) (fun _ hk => hk.2) (.slice Ao34 t1108.length co34)) (fun _ hk => hk.2) (.slice Ao35 t1111.length co35)) (fun _ hk => hk.2) (.int .i64 t1114)) (fun _ hk => hk.2) (.int .i64 t1115)) (fun _ hk => hk.2) (.int .i64 t1116)) (fun _ hk => hk.2) (.int .i64 t1117)) (fun _ h_ => h_.1)))); (case side8 => exact (Kd.R_reads' HO1110.out).2.1); (case side9 => refine (Kd.S_reads' (e := 93) (base := w.heap.size) (ok := fun k_ => ((((((some k_ ≠ (.slice Ao29 t1098.length co29 : Value).ownBlock ∧ (some k_ ≠ (.slice Ao32 t1102.length co32 : Value).ownBlock ∧ (some k_ ≠ (.slice Ao33 t1105.length co33 : Value).ownBlock ∧ some k_ ≠ (.slice Ao34 t1108.length co34 : Value).ownBlock))) ∧ some k_ ≠ (.slice Ao20 t1077.length co20 : Value).ownBlock) ∧ some k_ ≠ (.slice Ao21 t1081.length co21 : Value).ownBlock) ∧ some k_ ≠ (.slice Ao22 t1084.length co22 : Value).ownBlock) ∧ some k_ ≠ (.slice Ao23 t1087.length co23 : Value).ownBlock) ∧ some k_ ≠ (.slice Ao24 t1090.length co24 : Value).ownBlock)) (n := t1111.length) (c := co35) ?_).2.2; exact (by (with_reducible repeat (first | apply Kd.S_alloc | apply Kd.S_drewN | apply Kd.S_drew)); exact (Kd.S_mono (Kd.S_far (p := ⟨gb1118, 9, none⟩) (Kd.S_far (p := ⟨gb1118, 8, none⟩) (Kd.S_far (p := ⟨gb1118, 7, none⟩) (Kd.S_far (p := ⟨gb1118, 6, none⟩) (Kd.S_far (p := ⟨gb1118, 5, none⟩) (Kd.S_far (p := ⟨gb1118, 4, none⟩) (Kd.S_far (p := ⟨gb1118, 3, none⟩) (Kd.S_far (p := ⟨gb1118, 2, none⟩) (Kd.S_far (p := ⟨gb1118, 1, none⟩) (Kd.S_far (p := ⟨gb1118, 0, none⟩) (Kd.S_types HO1113.out BK1118.out (by decide)) (fun _ hk => hk.2) (.slice Ao29 t1098.length co29)) (fun _ hk => hk.2) (.int .i64 t1101)) (fun _ hk => hk.2) (.slice Ao32 t1102.length co32)) (fun _ hk => hk.2) (.slice Ao33 t1105.length co33)) (fun _ hk => hk.2) (.slice Ao34 t1108.length co34)) (fun _ hk => hk.2) (.slice Ao35 t1111.length co35)) (fun _ hk => hk.2) (.int .i64 t1114)) (fun _ hk => hk.2) (.int .i64 t1115)) (fun _ hk => hk.2) (.int .i64 t1116)) (fun _ hk => hk.2) (.int .i64 t1117)) (fun _ h_ => h_.1)))); (case side10 => exact (Kd.S_reads' HO1113.out).2.1); rintro e w36 ⟨rfl, hb⟩; refine ⟨_, rfl, ?_⟩; have n0_ := Aside0.mk (Kd.R_below (by (with_reducible repeat (first | apply Kd.R_alloc | apply Kd.R_drewN | apply Kd.R_drew)); exact (Kd.R_mono (Kd.R_far (p := ⟨gb1118, 9, none⟩) (Kd.R_far (p := ⟨gb1118, 8, none⟩) (Kd.R_far (p := ⟨gb1118, 7, none⟩) (Kd.R_far (p := ⟨gb1118, 6, none⟩) (Kd.R_far (p := ⟨gb1118, 5, none⟩) (Kd.R_far (p := ⟨gb1118, 4, none⟩) (Kd.R_far (p := ⟨gb1118, 3, none⟩) (Kd.R_far (p := ⟨gb1118, 2, none⟩) (Kd.R_far (p := ⟨gb1118, 1, none⟩) (Kd.R_far (p := ⟨gb1118, 0, none⟩) (Kd.R_types HO1079.out BK1118.out (by decide)) (fun _ hk => hk.2) (.slice Ao29 t1098.length co29)) (fun _ hk => hk.2) (.int .i64 t1101)) (fun _ hk => hk.2) (.slice Ao32 t1102.length co32)) (fun _ hk => hk.2) (.slice Ao33 t1105.length co33)) (fun _ hk => hk.2) (.slice Ao34 t1108.length co34)) (fun _ hk => hk.2) (.slice Ao35 t1111.length co35)) (fun _ hk => hk.2) (.int .i64 t1114)) (fun _ hk => hk.2) (.int .i64 t1115)) (fun _ hk => hk.2) (.int .i64 t1116)) (fun _ hk => hk.2) (.int .i64 t1117)) (fun _ h_ => h_.1))) hb); have n1_ := Aside0.mk (Kd.R_below (by (with_reducible repeat (first | apply Kd.R_alloc | apply Kd.R_drewN | apply Kd.R_drew)); exact (Kd.R_mono (Kd.R_far (p := ⟨gb1118, 9, none⟩) (Kd.R_far (p := ⟨gb1118, 8, none⟩) (Kd.R_far (p := ⟨gb1118, 7, none⟩) (Kd.R_far (p := ⟨gb1118, 6, none⟩) (Kd.R_far (p := ⟨gb1118, 5, none⟩) (Kd.R_far (p := ⟨gb1118, 4, none⟩) (Kd.R_far (p := ⟨gb1118, 3, none⟩) (Kd.R_far (p := ⟨gb1118, 2, none⟩) (Kd.R_far (p := ⟨gb1118, 1, none⟩) (Kd.R_far (p := ⟨gb1118, 0, none⟩) (Kd.R_types HO1083.out BK1118.out (by decide)) (fun _ hk => hk.2) (.slice Ao29 t1098.length co29)) (fun _ hk => hk.2) (.int .i64 t1101)) (fun _ hk => hk.2) (.slice Ao32 t1102.length co32)) (fun _ hk => hk.2) (.slice Ao33 t1105.length co33)) (fun _ hk => hk.2) (.slice Ao34 t1108.length co34)) (fun _ hk => hk.2) (.slice Ao35 t1111.length co35)) (fun _ hk => hk.2) (.int .i64 t1114)) (fun _ hk => hk.2) (.int .i64 t1115)) (fun _ hk => hk.2) (.int .i64 t1116)) (fun _ hk => hk.2) (.int .i64 t1117)) (fun _ h_ => h_.1))) hb); have n2_ := Aside0.mk (Kd.R_below (by (with_reducible repeat (first | apply Kd.R_alloc | apply Kd.R_drewN | apply Kd.R_drew)); exact (Kd.R_mono (Kd.R_far (p := ⟨gb1118, 9, none⟩) (Kd.R_far (p := ⟨gb1118, 8, none⟩) (Kd.R_far (p := ⟨gb1118, 7, none⟩) (Kd.R_far (p := ⟨gb1118, 6, none⟩) (Kd.R_far (p := ⟨gb1118, 5, none⟩) (Kd.R_far (p := ⟨gb1118, 4, none⟩) (Kd.R_far (p := ⟨gb1118, 3, none⟩) (Kd.R_far (p := ⟨gb1118, 2, none⟩) (Kd.R_far (p := ⟨gb1118, 1, none⟩) (Kd.R_far (p := ⟨gb1118, 0, none⟩) (Kd.R_types HO1086.out BK1118.out (by decide)) (fun _ hk => hk.2) (.slice Ao29 t1098.length co29)) (fun _ hk => hk.2) (.int .i64 t1101)) (fun _ hk => hk.2) (.slice Ao32 t1102.length co32)) (fun _ hk => hk.2) (.slice Ao33 t1105.length co33)) (fun _ hk => hk.2) (.slice Ao34 t1108.length co34)) (fun _ hk => hk.2) (.slice Ao35 t1111.length co35)) (fun _ hk => hk.2) (.int .i64 t1114)) (fun _ hk => hk.2) (.int .i64 t1115)) (fun _ hk => hk.2) (.int .i64 t1116)) (fun _ hk => hk.2) (.int .i64 t1117)) (fun _ h_ => h_.1))) hb); have n3_ := Aside0.mk (Kd.R_below (by (with_reducible repeat (first | apply Kd.R_alloc | apply Kd.R_drewN | apply Kd.R_drew)); exact (Kd.R_mono (Kd.R_far (p := ⟨gb1118, 9, none⟩) (Kd.R_far (p := ⟨gb1118, 8, none⟩) (Kd.R_far (p := ⟨gb1118, 7, none⟩) (Kd.R_far (p := ⟨gb1118, 6, none⟩) (Kd.R_far (p := ⟨gb1118, 5, none⟩) (Kd.R_far (p := ⟨gb1118, 4, none⟩) (Kd.R_far (p := ⟨gb1118, 3, none⟩) (Kd.R_far (p := ⟨gb1118, 2, none⟩) (Kd.R_far (p := ⟨gb1118, 1, none⟩) (Kd.R_far (p := ⟨gb1118, 0, none⟩) (Kd.R_types HO1089.out BK1118.out (by decide)) (fun _ hk => hk.2) (.slice Ao29 t1098.length co29)) (fun _ hk => hk.2) (.int .i64 t1101)) (fun _ hk => hk.2) (.slice Ao32 t1102.length co32)) (fun _ hk => hk.2) (.slice Ao33 t1105.length co33)) (fun _ hk => hk.2) (.slice Ao34 t1108.length co34)) (fun _ hk => hk.2) (.slice Ao35 t1111.length co35)) (fun _ hk => hk.2) (.int .i64 t1114)) (fun _ hk => hk.2) (.int .i64 t1115)) (fun _ hk => hk.2) (.int .i64 t1116)) (fun _ hk => hk.2) (.int .i64 t1117)) (fun _ h_ => h_.1))) hb); have n4_ := Aside0.mk (Kd.S_below (by (with_reducible repeat (first | apply Kd.S_alloc | apply Kd.S_drewN | apply Kd.S_drew)); exact (Kd.S_mono (Kd.S_far (p := ⟨gb1118, 9, none⟩) (Kd.S_far (p := ⟨gb1118, 8, none⟩) (Kd.S_far (p := ⟨gb1118, 7, none⟩) (Kd.S_far (p := ⟨gb1118, 6, none⟩) (Kd.S_far (p := ⟨gb1118, 5, none⟩) (Kd.S_far (p := ⟨gb1118, 4, none⟩) (Kd.S_far (p := ⟨gb1118, 3, none⟩) (Kd.S_far (p := ⟨gb1118, 2, none⟩) (Kd.S_far (p := ⟨gb1118, 1, none⟩) (Kd.S_far (p := ⟨gb1118, 0, none⟩) (Kd.S_types HO1092.out BK1118.out (by decide)) (fun _ hk => hk.2) (.slice Ao29 t1098.length co29)) (fun _ hk => hk.2) (.int .i64 t1101)) (fun _ hk => hk.2) (.slice Ao32 t1102.length co32)) (fun _ hk => hk.2) (.slice Ao33 t1105.length co33)) (fun _ hk => hk.2) (.slice Ao34 t1108.length co34)) (fun _ hk => hk.2) (.slice Ao35 t1111.length co35)) (fun _ hk => hk.2) (.int .i64 t1114)) (fun _ hk => hk.2) (.int .i64 t1115)) (fun _ hk => hk.2) (.int .i64 t1116)) (fun _ hk => hk.2) (.int .i64 t1117)) (fun _ h_ => h_.1))) hb); have n5_ := Aside0.mk (Kd.R_below (by (with_reducible repeat (first | apply Kd.R_alloc | apply Kd.R_drewN | apply Kd.R_drew)); exact (Kd.R_mono (Kd.R_far (p := ⟨gb1118, 9, none⟩) (Kd.R_far (p := ⟨gb1118, 8, none⟩) (Kd.R_far (p := ⟨gb1118, 7, none⟩) (Kd.R_far (p := ⟨gb1118, 6, none⟩) (Kd.R_far (p := ⟨gb1118, 5, none⟩) (Kd.R_far (p := ⟨gb1118, 4, none⟩) (Kd.R_far (p := ⟨gb1118, 3, none⟩) (Kd.R_far (p := ⟨gb1118, 2, none⟩) (Kd.R_far (p := ⟨gb1118, 1, none⟩) (Kd.R_far (p := ⟨gb1118, 0, none⟩) (Kd.R_types HO1100.out BK1118.out (by decide)) (fun _ hk => hk.2) (.slice Ao29 t1098.length co29)) (fun _ hk => hk.2) (.int .i64 t1101)) (fun _ hk => hk.2) (.slice Ao32 t1102.length co32)) (fun _ hk => hk.2) (.slice Ao33 t1105.length co33)) (fun _ hk => hk.2) (.slice Ao34 t1108.length co34)) (fun _ hk => hk.2) (.slice Ao35 t1111.length co35)) (fun _ hk => hk.2) (.int .i64 t1114)) (fun _ hk => hk.2) (.int .i64 t1115)) (fun _ hk => hk.2) (.int .i64 t1116)) (fun _ hk => hk.2) (.int .i64 t1117)) (fun _ h_ => h_.1))) hb); have n6_ := Aside0.mk (Kd.R_below (by (with_reducible repeat (first | apply Kd.R_alloc | apply Kd.R_drewN | apply Kd.R_drew)); exact (Kd.R_mono (Kd.R_far (p := ⟨gb1118, 9, none⟩) (Kd.R_far (p := ⟨gb1118, 8, none⟩) (Kd.R_far (p := ⟨gb1118, 7, none⟩) (Kd.R_far (p := ⟨gb1118, 6, none⟩) (Kd.R_far (p := ⟨gb1118, 5, none⟩) (Kd.R_far (p := ⟨gb1118, 4, none⟩) (Kd.R_far (p := ⟨gb1118, 3, none⟩) (Kd.R_far (p := ⟨gb1118, 2, none⟩) (Kd.R_far (p := ⟨gb1118, 1, none⟩) (Kd.R_far (p := ⟨gb1118, 0, none⟩) (Kd.R_types HO1104.out BK1118.out (by decide)) (fun _ hk => hk.2) (.slice Ao29 t1098.length co29)) (fun _ hk => hk.2) (.int .i64 t1101)) (fun _ hk => hk.2) (.slice Ao32 t1102.length co32)) (fun _ hk => hk.2) (.slice Ao33 t1105.length co33)) (fun _ hk => hk.2) (.slice Ao34 t1108.length co34)) (fun _ hk => hk.2) (.slice Ao35 t1111.length co35)) (fun _ hk => hk.2) (.int .i64 t1114)) (fun _ hk => hk.2) (.int .i64 t1115)) (fun _ hk => hk.2) (.int .i64 t1116)) (fun _ hk => hk.2) (.int .i64 t1117)) (fun _ h_ => h_.1))) hb); have n7_ := Aside0.mk (Kd.R_below (by (with_reducible repeat (first | apply Kd.R_alloc | apply Kd.R_drewN | apply Kd.R_drew)); exact (Kd.R_mono (Kd.R_far (p := ⟨gb1118, 9, none⟩) (Kd.R_far (p := ⟨gb1118, 8, none⟩) (Kd.R_far (p := ⟨gb1118, 7, none⟩) (Kd.R_far (p := ⟨gb1118, 6, none⟩) (Kd.R_far (p := ⟨gb1118, 5, none⟩) (Kd.R_far (p := ⟨gb1118, 4, none⟩) (Kd.R_far (p := ⟨gb1118, 3, none⟩) (Kd.R_far (p := ⟨gb1118, 2, none⟩) (Kd.R_far (p := ⟨gb1118, 1, none⟩) (Kd.R_far (p := ⟨gb1118, 0, none⟩) (Kd.R_types HO1107.out BK1118.out (by decide)) (fun _ hk => hk.2) (.slice Ao29 t1098.length co29)) (fun _ hk => hk.2) (.int .i64 t1101)) (fun _ hk => hk.2) (.slice Ao32 t1102.length co32)) (fun _ hk => hk.2) (.slice Ao33 t1105.length co33)) (fun _ hk => hk.2) (.slice Ao34 t1108.length co34)) (fun _ hk => hk.2) (.slice Ao35 t1111.length co35)) (fun _ hk => hk.2) (.int .i64 t1114)) (fun _ hk => hk.2) (.int .i64 t1115)) (fun _ hk => hk.2) (.int .i64 t1116)) (fun _ hk => hk.2) (.int .i64 t1117)) (fun _ h_ => h_.1))) hb); have n8_ := Aside0.mk (Kd.R_below (by (with_reducible repeat (first | apply Kd.R_alloc | apply Kd.R_drewN | apply Kd.R_drew)); exact (Kd.R_mono (Kd.R_far (p := ⟨gb1118, 9, none⟩) (Kd.R_far (p := ⟨gb1118, 8, none⟩) (Kd.R_far (p := ⟨gb1118, 7, none⟩) (Kd.R_far (p := ⟨gb1118, 6, none⟩) (Kd.R_far (p := ⟨gb1118, 5, none⟩) (Kd.R_far (p := ⟨gb1118, 4, none⟩) (Kd.R_far (p := ⟨gb1118, 3, none⟩) (Kd.R_far (p := ⟨gb1118, 2, none⟩) (Kd.R_far (p := ⟨gb1118, 1, none⟩) (Kd.R_far (p := ⟨gb1118, 0, none⟩) (Kd.R_types HO1110.out BK1118.out (by decide)) (fun _ hk => hk.2) (.slice Ao29 t1098.length co29)) (fun _ hk => hk.2) (.int .i64 t1101)) (fun _ hk => hk.2) (.slice Ao32 t1102.length co32)) (fun _ hk => hk.2) (.slice Ao33 t1105.length co33)) (fun _ hk => hk.2) (.slice Ao34 t1108.length co34)) (fun _ hk => hk.2) (.slice Ao35 t1111.length co35)) (fun _ hk => hk.2) (.int .i64 t1114)) (fun _ hk => hk.2) (.int .i64 t1115)) (fun _ hk => hk.2) (.int .i64 t1116)) (fun _ hk => hk.2) (.int .i64 t1117)) (fun _ h_ => h_.1))) hb); have n9_ := Aside0.mk (Kd.S_below (by (with_reducible repeat (first | apply Kd.S_alloc | apply Kd.S_drewN | apply Kd.S_drew)); exact (Kd.S_mono (Kd.S_far (p := ⟨gb1118, 9, none⟩) (Kd.S_far (p := ⟨gb1118, 8, none⟩) (Kd.S_far (p := ⟨gb1118, 7, none⟩) (Kd.S_far (p := ⟨gb1118, 6, none⟩) (Kd.S_far (p := ⟨gb1118, 5, none⟩) (Kd.S_far (p := ⟨gb1118, 4, none⟩) (Kd.S_far (p := ⟨gb1118, 3, none⟩) (Kd.S_far (p := ⟨gb1118, 2, none⟩) (Kd.S_far (p := ⟨gb1118, 1, none⟩) (Kd.S_far (p := ⟨gb1118, 0, none⟩) (Kd.S_types HO1113.out BK1118.out (by decide)) (fun _ hk => hk.2) (.slice Ao29 t1098.length co29)) (fun _ hk => hk.2) (.int .i64 t1101)) (fun _ hk => hk.2) (.slice Ao32 t1102.length co32)) (fun _ hk => hk.2) (.slice Ao33 t1105.length co33)) (fun _ hk => hk.2) (.slice Ao34 t1108.length co34)) (fun _ hk => hk.2) (.slice Ao35 t1111.length co35)) (fun _ hk => hk.2) (.int .i64 t1114)) (fun _ hk => hk.2) (.int .i64 t1115)) (fun _ hk => hk.2) (.int .i64 t1116)) (fun _ hk => hk.2) (.int .i64 t1117)) (fun _ h_ => h_.1))) hb); have n10_ := Aside0.mk (blk_below (g := gb1075) (o := .cells #[.slice A0_0 l0_0.length c0_0, .int .i64 a0_1, .slice A0_2 l0_2.length c0_2, .slice A0_3 l0_3.length c0_3, .slice A0_4 l0_4.length c0_4, .slice A0_5 l0_5.length c0_5, .int .i64 a0_6, .int .i64 a0_7, .int .i64 a0_8, .int .i64 a0_9] 65 (0, 0)) (by (with_reducible repeat (first | refine blk_drewN ?_ _ | refine blk_drew ?_ | refine blk_alloc ?_ _)); refine blk_far ?_ NB1075_1118.out _; (with_reducible repeat (first | refine blk_drewN ?_ _ | refine blk_drew ?_ | refine blk_alloc ?_ _)); refine blk_far ?_ NB1075_1118.out _; (with_reducible repeat (first | refine blk_drewN ?_ _ | refine blk_drew ?_ | refine blk_alloc ?_ _)); refine blk_far ?_ NB1075_1118.out _; (with_reducible repeat (first | refine blk_drewN ?_ _ | refine blk_drew ?_ | refine blk_alloc ?_ _)); refine blk_far ?_ NB1075_1118.out _; (with_reducible repeat (first | refine blk_drewN ?_ _ | refine blk_drew ?_ | refine blk_alloc ?_ _)); refine blk_far ?_ NB1075_1118.out _; (with_reducible repeat (first | refine blk_drewN ?_ _ | refine blk_drew ?_ | refine blk_alloc ?_ _)); refine blk_far ?_ NB1075_1118.out _; (with_reducible repeat (first | refine blk_drewN ?_ _ | refine blk_drew ?_ | refine blk_alloc ?_ _)); refine blk_far ?_ NB1075_1118.out _; (with_reducible repeat (first | refine blk_drewN ?_ _ | refine blk_drew ?_ | refine blk_alloc ?_ _)); refine blk_far ?_ NB1075_1118.out _; (with_reducible repeat (first | refine blk_drewN ?_ _ | refine blk_drew ?_ | refine blk_alloc ?_ _)); refine blk_far ?_ NB1075_1118.out _; (with_reducible repeat (first | refine blk_drewN ?_ _ | refine blk_drew ?_ | refine blk_alloc ?_ _)); refine blk_far ?_ NB1075_1118.out _; (with_reducible repeat (first | refine blk_drewN ?_ _ | refine blk_drew ?_ | refine blk_alloc ?_ _)); exact BK1075.out) hb); have n11_ := Aside0.mk (blk_below (g := gb1118) (o := .cells #[.slice Ao29 t1098.length co29, .int .i64 t1101, .slice Ao32 t1102.length co32, .slice Ao33 t1105.length co33, .slice Ao34 t1108.length co34, .slice Ao35 t1111.length co35, .int .i64 t1114, .int .i64 t1115, .int .i64 t1116, .int .i64 t1117] 59 (0, 0)) (by (with_reducible repeat (first | refine blk_drewN ?_ _ | refine blk_drew ?_ | refine blk_alloc ?_ _)); refine blk_put (cs := #[.slice Ao29 t1098.length co29, .int .i64 t1101, .slice Ao32 t1102.length co32, .slice Ao33 t1105.length co33, .slice Ao34 t1108.length co34, .slice Ao35 t1111.length co35, .int .i64 t1114, .int .i64 t1115, .int .i64 t1116, .int .i64 0]) ?_ 9 _ rfl; (with_reducible repeat (first | refine blk_drewN ?_ _ | refine blk_drew ?_ | refine blk_alloc ?_ _)); refine blk_put (cs := #[.slice Ao29 t1098.length co29, .int .i64 t1101, .slice Ao32 t1102.length co32, .slice Ao33 t1105.length co33, .slice Ao34 t1108.length co34, .slice Ao35 t1111.length co35, .int .i64 t1114, .int .i64 t1115, .int .i64 0, .int .i64 0]) ?_ 8 _ rfl; (with_reducible repeat (first | refine blk_drewN ?_ _ | refine blk_drew ?_ | refine blk_alloc ?_ _)); refine blk_put (cs := #[.slice Ao29 t1098.length co29, .int .i64 t1101, .slice Ao32 t1102.length co32, .slice Ao33 t1105.length co33, .slice Ao34 t1108.length co34, .slice Ao35 t1111.length co35, .int .i64 t1114, .int .i64 0, .int .i64 0, .int .i64 0]) ?_ 7 _ rfl; (with_reducible repeat (first | refine blk_drewN ?_ _ | refine blk_drew ?_ | refine blk_alloc ?_ _)); refine blk_put (cs := #[.slice Ao29 t1098.length co29, .int .i64 t1101, .slice Ao32 t1102.length co32, .slice Ao33 t1105.length co33, .slice Ao34 t1108.length co34, .slice Ao35 t1111.length co35, .int .i64 0, .int .i64 0, .int .i64 0, .int .i64 0]) ?_ 6 _ rfl; (with_reducible repeat (first | refine blk_drewN ?_ _ | refine blk_drew ?_ | refine blk_alloc ?_ _)); refine blk_put (cs := #[.slice Ao29 t1098.length co29, .int .i64 t1101, .slice Ao32 t1102.length co32, .slice Ao33 t1105.length co33, .slice Ao34 t1108.length co34, .slice none 0 0, .int .i64 0, .int .i64 0, .int .i64 0, .int .i64 0]) ?_ 5 _ rfl; (with_reducible repeat (first | refine blk_drewN ?_ _ | refine blk_drew ?_ | refine blk_alloc ?_ _)); refine blk_put (cs := #[.slice Ao29 t1098.length co29, .int .i64 t1101, .slice Ao32 t1102.length co32, .slice Ao33 t1105.length co33, .slice none 0 0, .slice none 0 0, .int .i64 0, .int .i64 0, .int .i64 0, .int .i64 0]) ?_ 4 _ rfl; (with_reducible repeat (first | refine blk_drewN ?_ _ | refine blk_drew ?_ | refine blk_alloc ?_ _)); refine blk_put (cs := #[.slice Ao29 t1098.length co29, .int .i64 t1101, .slice Ao32 t1102.length co32, .slice none 0 0, .slice none 0 0, .slice none 0 0, .int .i64 0, .int .i64 0, .int .i64 0, .int .i64 0]) ?_ 3 _ rfl; (with_reducible repeat (first | refine blk_drewN ?_ _ | refine blk_drew ?_ | refine blk_alloc ?_ _)); refine blk_put (cs := #[.slice Ao29 t1098.length co29, .int .i64 t1101, .slice none 0 0, .slice none 0 0, .slice none 0 0, .slice none 0 0, .int .i64 0, .int .i64 0, .int .i64 0, .int .i64 0]) ?_ 2 _ rfl; (with_reducible repeat (first | refine blk_drewN ?_ _ | refine blk_drew ?_ | refine blk_alloc ?_ _)); refine blk_put (cs := #[.slice Ao29 t1098.length co29, .int .i64 0, .slice none 0 0, .slice none 0 0, .slice none 0 0, .slice none 0 0, .int .i64 0, .int .i64 0, .int .i64 0, .int .i64 0]) ?_ 1 _ rfl; (with_reducible repeat (first | refine blk_drewN ?_ _ | refine blk_drew ?_ | refine blk_alloc ?_ _)); refine blk_put (cs := #[.slice none 0 0, .int .i64 0, .slice none 0 0, .slice none 0 0, .slice none 0 0, .slice none 0 0, .int .i64 0, .int .i64 0, .int .i64 0, .int .i64 0]) ?_ 0 _ rfl; (with_reducible repeat (first | refine blk_drewN ?_ _ | refine blk_drew ?_ | refine blk_alloc ?_ _)); exact BK1118.out) hb); have n12_ := Aside0.mk (below_step (by repeat (first | (with_reducible first | exact HB.out | apply below_alloc | apply pw_below_drewN | apply below_drew1 | refine below_set ?_ GE1075.out | refine below_set ?_ GE1118.out) | exact HB.out)) hb); clear HO1079; clear HO1083; clear HO1086; clear HO1089; clear HO1092; clear HO1100; clear HO1104; clear HO1107; clear HO1110; clear HO1113; clear BK1075; clear BK1118; clear HB; have HO1079 := n0_; have HO1083 := n1_; have HO1086 := n2_; have HO1089 := n3_; have HO1092 := n4_; have HO1100 := n5_; have HO1104 := n6_; have HO1107 := n7_; have HO1110 := n8_; have HO1113 := n9_; have BK1075 := n10_; have BK1118 := n11_; have HB := n12_; clear n0_ n1_ n2_ n3_ n4_ n5_ n6_ n7_ n8_ n9_ n10_ n11_ n12_; (try clear hb); (try clear hb2); (try clear hk); (try clear hi)))
    have n0_ := Aside0.mk (Kd.R_drew HO1079.out)
    have n1_ := Aside0.mk (Kd.R_drew HO1083.out)
    have n2_ := Aside0.mk (Kd.R_drew HO1086.out)
    have n3_ := Aside0.mk (Kd.R_drew HO1089.out)
    have n4_ := Aside0.mk (Kd.S_drew HO1092.out)
    have n5_ := Aside0.mk (Kd.R_drew HO1100.out)
    have n6_ := Aside0.mk (Kd.R_drew HO1104.out)
    have n7_ := Aside0.mk (Kd.R_drew HO1107.out)
    have n8_ := Aside0.mk (Kd.R_drew HO1110.out)
    have n9_ := Aside0.mk (Kd.S_drew HO1113.out)
    have n10_ := Aside0.mk (blk_drew BK1075.out)
    have n11_ := Aside0.mk (blk_drew BK1118.out)
    have n12_ := Aside0.mk (below_drew1 HB.out)
    clear HO1079
    clear HO1083
    clear HO1086
    clear HO1089
    clear HO1092
    clear HO1100
    clear HO1104
    clear HO1107
    clear HO1110
    clear HO1113
    clear BK1075
    clear BK1118
    clear HB
    have HO1079 := n0_
    have HO1083 := n1_
    have HO1086 := n2_
    have HO1089 := n3_
    have HO1092 := n4_
    have HO1100 := n5_
    have HO1104 := n6_
    have HO1107 := n7_
    have HO1110 := n8_
    have HO1113 := n9_
    have BK1075 := n10_
    have BK1118 := n11_
    have HB := n12_
    clear n0_ n1_ n2_ n3_ n4_ n5_ n6_ n7_ n8_ n9_ n10_ n11_ n12_
    refine start_ (n := 5) (S := fun w' => w'.cell? ⟨gb1118, 0, none⟩ = some (.slice Ao29 t1098.length co29) ∧ w'.cell? ⟨gb1118, 1, none⟩ = some (.int .i64 t1101) ∧ w'.cell? ⟨gb1118, 2, none⟩ = some (.slice Ao32 t1102.length co32) ∧ w'.cell? ⟨gb1118, 3, none⟩ = some (.slice Ao33 t1105.length co33) ∧ w'.cell? ⟨gb1118, 4, none⟩ = some (.slice Ao34 t1108.length co34) ∧ w'.cell? ⟨gb1118, 5, none⟩ = some (.slice Ao35 t1111.length co35) ∧ w'.cell? ⟨gb1118, 6, none⟩ = some (.int .i64 t1114) ∧ w'.cell? ⟨gb1118, 7, none⟩ = some (.int .i64 t1115) ∧ w'.cell? ⟨gb1118, 8, none⟩ = some (.int .i64 t1116) ∧ w'.cell? ⟨gb1118, 9, none⟩ = some (.int .i64 t1117) ∧ w'.cell? ⟨gb1075, 0, none⟩ = some (.slice A0_0 l0_0.length c0_0) ∧ w'.cell? ⟨gb1075, 1, none⟩ = some (.int .i64 a0_1) ∧ w'.cell? ⟨gb1075, 2, none⟩ = some (.slice A0_2 l0_2.length c0_2) ∧ w'.cell? ⟨gb1075, 3, none⟩ = some (.slice A0_3 l0_3.length c0_3) ∧ w'.cell? ⟨gb1075, 4, none⟩ = some (.slice A0_4 l0_4.length c0_4) ∧ w'.cell? ⟨gb1075, 5, none⟩ = some (.slice A0_5 l0_5.length c0_5) ∧ w'.cell? ⟨gb1075, 6, none⟩ = some (.int .i64 a0_6) ∧ w'.cell? ⟨gb1075, 7, none⟩ = some (.int .i64 a0_7) ∧ w'.cell? ⟨gb1075, 8, none⟩ = some (.int .i64 a0_8) ∧ w'.cell? ⟨gb1075, 9, none⟩ = some (.int .i64 a0_9)) (ds := []) #[false, false, false, false, false] (by kernel_rfl) rfl rfl ⟨(blk_cell BK1118.out 0).trans rfl, (blk_cell BK1118.out 1).trans rfl, (blk_cell BK1118.out 2).trans rfl, (blk_cell BK1118.out 3).trans rfl, (blk_cell BK1118.out 4).trans rfl, (blk_cell BK1118.out 5).trans rfl, (blk_cell BK1118.out 6).trans rfl, (blk_cell BK1118.out 7).trans rfl, (blk_cell BK1118.out 8).trans rfl, (blk_cell BK1118.out 9).trans rfl, (blk_cell BK1075.out 0).trans rfl, (blk_cell BK1075.out 1).trans rfl, (blk_cell BK1075.out 2).trans rfl, (blk_cell BK1075.out 3).trans rfl, (blk_cell BK1075.out 4).trans rfl, (blk_cell BK1075.out 5).trans rfl, (blk_cell BK1075.out 6).trans rfl, (blk_cell BK1075.out 7).trans rfl, (blk_cell BK1075.out 8).trans rfl, (blk_cell BK1075.out 9).trans rfl⟩ (fun hHeld => ?_)
    generalize w36.drew = w37 at HO1079 HO1083 HO1086 HO1089 HO1092 HO1100 HO1104 HO1107 HO1110 HO1113 BK1075 BK1118 HB hHeld ⊢
    refine take_ (i := 0) (N := some 22) (v := ?_) (a' := ?_) #[true, false, false, false, false] rfl rfl (by kernel_rfl) (fun _ _ _ h => h) (Or.inl ⟨by rfl, ?_⟩) hHeld ?_ ?_
    rotate_left
    ·rintro w' ⟨s0, s1, s2, s3, s4, s5, s6, s7, s8, s9, s10, s11, s12, s13, s14, s15, s16, s17, s18, s19⟩
     go_simp
     with_reducible rfl
    rotate_left
    ·simp only [Act.put, List.setIfInBounds_toArray, List.set_cons_zero, List.set_cons_succ, i64_w, i32_w]
     rfl
    refine take_ (i := 1) (N := some 23) (v := ?_) (a' := ?_) #[true, true, false, false, false] rfl rfl (by kernel_rfl) (fun _ _ _ h => h) (Or.inl ⟨by rfl, ?_⟩) hHeld ?_ ?_
    rotate_left
    ·rintro w' ⟨s0, s1, s2, s3, s4, s5, s6, s7, s8, s9, s10, s11, s12, s13, s14, s15, s16, s17, s18, s19⟩
     go_simp
     with_reducible rfl
    rotate_left
    ·simp only [Act.put, List.setIfInBounds_toArray, List.set_cons_zero, List.set_cons_succ, i64_w, i32_w]
     rfl
    refine one_ (i := 2) (N := some 24) #[true, true, true, false, false] rfl rfl (by kernel_rfl) (by decide) (fun K hK => ?_)
    refine goes_ Try.func53 (by kernel_rfl) rfl #[.agg #[.slice A0_0 l0_0.length c0_0, .int .i64 a0_1, .slice A0_2 l0_2.length c0_2, .slice A0_3 l0_3.length c0_3, .slice A0_4 l0_4.length c0_4, .slice A0_5 l0_5.length c0_5, .int .i64 a0_6, .int .i64 a0_7, .int .i64 a0_8, .int .i64 a0_9]] (by rfl) rfl rfl (by (try simp only [List.map_toArray, List.map_cons, List.map_nil]); first | done | rfl | (simp only [List.length_drop, List.length_take]; rfl)) ?_
    with_reducible refine (laws_toSorter.calls k _ _ l0_0 a0_1 _ _ l0_2 _ _ l0_3 _ _ l0_4 _ _ l0_5 a0_6 a0_7 a0_8 a0_9 t1120 t1123 t1124 t1127 t1130 t1133 t1136 t1137 t1138 t1139 _ ?side1 ?side2 ?side3 ?side4 ?side5 ?side6 ?side7 ?side8 ?side9 ?side10 A12.out).mono ?_
    (case side1 => repeat (first | exact (Kd.C_below HR0_0.out HB.out) | (with_reducible refine Kd.C_alloc ?_ _) | (with_reducible refine Kd.C_drewN ?_ _) | (with_reducible refine Kd.C_drew ?_)))
    (case side2 => exact HC0_0.out)
    (case side3 => repeat (first | exact (Kd.C_below HR0_2.out HB.out) | (with_reducible refine Kd.C_alloc ?_ _) | (with_reducible refine Kd.C_drewN ?_ _) | (with_reducible refine Kd.C_drew ?_)))
    (case side4 => exact HC0_2.out)
    (case side5 => repeat (first | exact (Kd.C_below HR0_3.out HB.out) | (with_reducible refine Kd.C_alloc ?_ _) | (with_reducible refine Kd.C_drewN ?_ _) | (with_reducible refine Kd.C_drew ?_)))
    (case side6 => exact HC0_3.out)
    (case side7 => repeat (first | exact (Kd.C_below HR0_4.out HB.out) | (with_reducible refine Kd.C_alloc ?_ _) | (with_reducible refine Kd.C_drewN ?_ _) | (with_reducible refine Kd.C_drew ?_)))
    (case side8 => exact HC0_4.out)
    (case side9 => repeat (first | exact (Kd.C_below HR0_5.out HB.out) | (with_reducible refine Kd.C_alloc ?_ _) | (with_reducible refine Kd.C_drewN ?_ _) | (with_reducible refine Kd.C_drew ?_)))
    (case side10 => exact HC0_5.out)
    rintro e w38 ⟨v1121, v1125, v1128, v1131, v1134, rfl, ho0, ho1, ho2, ho3, ho4, hb⟩
    refine ⟨_, rfl, ?_⟩
    have n0_ := Aside0.mk (Kd.R_mono (Kd.R_told (Kd.R_told (Kd.R_told (Kd.R_told (Kd.R_old (by (with_reducible repeat (first | apply Kd.R_alloc | apply Kd.R_drewN | apply Kd.R_drew)); exact HO1079.out) hb) (Kd.R_base ho0)) (Kd.R_base ho1)) (Kd.R_base ho2)) (Kd.R_base ho3)) (fun _ h_ => h_.1))
    have n1_ := Aside0.mk (Kd.R_mono (Kd.R_told (Kd.R_told (Kd.R_told (Kd.R_told (Kd.R_old (by (with_reducible repeat (first | apply Kd.R_alloc | apply Kd.R_drewN | apply Kd.R_drew)); exact HO1083.out) hb) (Kd.R_base ho0)) (Kd.R_base ho1)) (Kd.R_base ho2)) (Kd.R_base ho3)) (fun _ h_ => h_.1))
    have n2_ := Aside0.mk (Kd.R_mono (Kd.R_told (Kd.R_told (Kd.R_told (Kd.R_told (Kd.R_old (by (with_reducible repeat (first | apply Kd.R_alloc | apply Kd.R_drewN | apply Kd.R_drew)); exact HO1086.out) hb) (Kd.R_base ho0)) (Kd.R_base ho1)) (Kd.R_base ho2)) (Kd.R_base ho3)) (fun _ h_ => h_.1))
    have n3_ := Aside0.mk (Kd.R_mono (Kd.R_told (Kd.R_told (Kd.R_told (Kd.R_told (Kd.R_old (by (with_reducible repeat (first | apply Kd.R_alloc | apply Kd.R_drewN | apply Kd.R_drew)); exact HO1089.out) hb) (Kd.R_base ho0)) (Kd.R_base ho1)) (Kd.R_base ho2)) (Kd.R_base ho3)) (fun _ h_ => h_.1))
    have n4_ := Aside0.mk (Kd.S_mono (Kd.S_told (Kd.S_told (Kd.S_told (Kd.S_told (Kd.S_told (Kd.S_old (by (with_reducible repeat (first | apply Kd.S_alloc | apply Kd.S_drewN | apply Kd.S_drew)); exact HO1092.out) hb) (Kd.R_base ho0)) (Kd.R_base ho1)) (Kd.R_base ho2)) (Kd.R_base ho3)) (Kd.S_base ho4)) (fun _ h_ => h_.1))
    have n5_ := Aside0.mk (Kd.R_mono (Kd.R_told (Kd.R_told (Kd.R_told (Kd.R_told (Kd.R_old (by (with_reducible repeat (first | apply Kd.R_alloc | apply Kd.R_drewN | apply Kd.R_drew)); exact HO1100.out) hb) (Kd.R_base ho0)) (Kd.R_base ho1)) (Kd.R_base ho2)) (Kd.R_base ho3)) (fun _ h_ => h_.1))
    have n6_ := Aside0.mk (Kd.R_mono (Kd.R_told (Kd.R_told (Kd.R_told (Kd.R_told (Kd.R_old (by (with_reducible repeat (first | apply Kd.R_alloc | apply Kd.R_drewN | apply Kd.R_drew)); exact HO1104.out) hb) (Kd.R_base ho0)) (Kd.R_base ho1)) (Kd.R_base ho2)) (Kd.R_base ho3)) (fun _ h_ => h_.1))
    have n7_ := Aside0.mk (Kd.R_mono (Kd.R_told (Kd.R_told (Kd.R_told (Kd.R_told (Kd.R_old (by (with_reducible repeat (first | apply Kd.R_alloc | apply Kd.R_drewN | apply Kd.R_drew)); exact HO1107.out) hb) (Kd.R_base ho0)) (Kd.R_base ho1)) (Kd.R_base ho2)) (Kd.R_base ho3)) (fun _ h_ => h_.1))
    have n8_ := Aside0.mk (Kd.R_mono (Kd.R_told (Kd.R_told (Kd.R_told (Kd.R_told (Kd.R_old (by (with_reducible repeat (first | apply Kd.R_alloc | apply Kd.R_drewN | apply Kd.R_drew)); exact HO1110.out) hb) (Kd.R_base ho0)) (Kd.R_base ho1)) (Kd.R_base ho2)) (Kd.R_base ho3)) (fun _ h_ => h_.1))
    have n9_ := Aside0.mk (Kd.S_mono (Kd.S_told (Kd.S_told (Kd.S_told (Kd.S_told (Kd.S_told (Kd.S_old (by (with_reducible repeat (first | apply Kd.S_alloc | apply Kd.S_drewN | apply Kd.S_drew)); exact HO1113.out) hb) (Kd.R_base ho0)) (Kd.R_base ho1)) (Kd.R_base ho2)) (Kd.R_base ho3)) (Kd.S_base ho4)) (fun _ h_ => h_.1))
    have n10_ := Aside0.mk (Kd.R_lower (Kd.R_new' (Kd.R_new' (Kd.R_new' (Kd.R_new' (Kd.R_new' (Kd.R_new' (Kd.R_new' (Kd.R_new' ho0 (Kd.R_lt (by (with_reducible repeat (first | apply Kd.R_alloc | apply Kd.R_drewN | apply Kd.R_drew)); exact HO1079.out))) (Kd.R_lt (by (with_reducible repeat (first | apply Kd.R_alloc | apply Kd.R_drewN | apply Kd.R_drew)); exact HO1083.out))) (Kd.R_lt (by (with_reducible repeat (first | apply Kd.R_alloc | apply Kd.R_drewN | apply Kd.R_drew)); exact HO1086.out))) (Kd.R_lt (by (with_reducible repeat (first | apply Kd.R_alloc | apply Kd.R_drewN | apply Kd.R_drew)); exact HO1089.out))) (Kd.R_lt (by (with_reducible repeat (first | apply Kd.R_alloc | apply Kd.R_drewN | apply Kd.R_drew)); exact HO1100.out))) (Kd.R_lt (by (with_reducible repeat (first | apply Kd.R_alloc | apply Kd.R_drewN | apply Kd.R_drew)); exact HO1104.out))) (Kd.R_lt (by (with_reducible repeat (first | apply Kd.R_alloc | apply Kd.R_drewN | apply Kd.R_drew)); exact HO1107.out))) (Kd.R_lt (by (with_reducible repeat (first | apply Kd.R_alloc | apply Kd.R_drewN | apply Kd.R_drew)); exact HO1110.out))) (below_size (by repeat (first | (with_reducible first | exact HB.out | apply below_alloc | apply pw_below_drewN | apply below_drew1 | refine below_set ?_ GE1075.out | refine below_set ?_ GE1118.out) | exact HB.out))))
    have n11_ := Aside0.mk (Kd.R_lower (Kd.R_new' (Kd.R_new' (Kd.R_new' (Kd.R_new' (Kd.R_new' (Kd.R_new' (Kd.R_new' (Kd.R_new' ho1 (Kd.R_lt (by (with_reducible repeat (first | apply Kd.R_alloc | apply Kd.R_drewN | apply Kd.R_drew)); exact HO1079.out))) (Kd.R_lt (by (with_reducible repeat (first | apply Kd.R_alloc | apply Kd.R_drewN | apply Kd.R_drew)); exact HO1083.out))) (Kd.R_lt (by (with_reducible repeat (first | apply Kd.R_alloc | apply Kd.R_drewN | apply Kd.R_drew)); exact HO1086.out))) (Kd.R_lt (by (with_reducible repeat (first | apply Kd.R_alloc | apply Kd.R_drewN | apply Kd.R_drew)); exact HO1089.out))) (Kd.R_lt (by (with_reducible repeat (first | apply Kd.R_alloc | apply Kd.R_drewN | apply Kd.R_drew)); exact HO1100.out))) (Kd.R_lt (by (with_reducible repeat (first | apply Kd.R_alloc | apply Kd.R_drewN | apply Kd.R_drew)); exact HO1104.out))) (Kd.R_lt (by (with_reducible repeat (first | apply Kd.R_alloc | apply Kd.R_drewN | apply Kd.R_drew)); exact HO1107.out))) (Kd.R_lt (by (with_reducible repeat (first | apply Kd.R_alloc | apply Kd.R_drewN | apply Kd.R_drew)); exact HO1110.out))) (below_size (by repeat (first | (with_reducible first | exact HB.out | apply below_alloc | apply pw_below_drewN | apply below_drew1 | refine below_set ?_ GE1075.out | refine below_set ?_ GE1118.out) | exact HB.out))))
    have n12_ := Aside0.mk (Kd.R_lower (Kd.R_new' (Kd.R_new' (Kd.R_new' (Kd.R_new' (Kd.R_new' (Kd.R_new' (Kd.R_new' (Kd.R_new' ho2 (Kd.R_lt (by (with_reducible repeat (first | apply Kd.R_alloc | apply Kd.R_drewN | apply Kd.R_drew)); exact HO1079.out))) (Kd.R_lt (by (with_reducible repeat (first | apply Kd.R_alloc | apply Kd.R_drewN | apply Kd.R_drew)); exact HO1083.out))) (Kd.R_lt (by (with_reducible repeat (first | apply Kd.R_alloc | apply Kd.R_drewN | apply Kd.R_drew)); exact HO1086.out))) (Kd.R_lt (by (with_reducible repeat (first | apply Kd.R_alloc | apply Kd.R_drewN | apply Kd.R_drew)); exact HO1089.out))) (Kd.R_lt (by (with_reducible repeat (first | apply Kd.R_alloc | apply Kd.R_drewN | apply Kd.R_drew)); exact HO1100.out))) (Kd.R_lt (by (with_reducible repeat (first | apply Kd.R_alloc | apply Kd.R_drewN | apply Kd.R_drew)); exact HO1104.out))) (Kd.R_lt (by (with_reducible repeat (first | apply Kd.R_alloc | apply Kd.R_drewN | apply Kd.R_drew)); exact HO1107.out))) (Kd.R_lt (by (with_reducible repeat (first | apply Kd.R_alloc | apply Kd.R_drewN | apply Kd.R_drew)); exact HO1110.out))) (below_size (by repeat (first | (with_reducible first | exact HB.out | apply below_alloc | apply pw_below_drewN | apply below_drew1 | refine below_set ?_ GE1075.out | refine below_set ?_ GE1118.out) | exact HB.out))))
    have n13_ := Aside0.mk (Kd.R_lower (Kd.R_new' (Kd.R_new' (Kd.R_new' (Kd.R_new' (Kd.R_new' (Kd.R_new' (Kd.R_new' (Kd.R_new' ho3 (Kd.R_lt (by (with_reducible repeat (first | apply Kd.R_alloc | apply Kd.R_drewN | apply Kd.R_drew)); exact HO1079.out))) (Kd.R_lt (by (with_reducible repeat (first | apply Kd.R_alloc | apply Kd.R_drewN | apply Kd.R_drew)); exact HO1083.out))) (Kd.R_lt (by (with_reducible repeat (first | apply Kd.R_alloc | apply Kd.R_drewN | apply Kd.R_drew)); exact HO1086.out))) (Kd.R_lt (by (with_reducible repeat (first | apply Kd.R_alloc | apply Kd.R_drewN | apply Kd.R_drew)); exact HO1089.out))) (Kd.R_lt (by (with_reducible repeat (first | apply Kd.R_alloc | apply Kd.R_drewN | apply Kd.R_drew)); exact HO1100.out))) (Kd.R_lt (by (with_reducible repeat (first | apply Kd.R_alloc | apply Kd.R_drewN | apply Kd.R_drew)); exact HO1104.out))) (Kd.R_lt (by (with_reducible repeat (first | apply Kd.R_alloc | apply Kd.R_drewN | apply Kd.R_drew)); exact HO1107.out))) (Kd.R_lt (by (with_reducible repeat (first | apply Kd.R_alloc | apply Kd.R_drewN | apply Kd.R_drew)); exact HO1110.out))) (below_size (by repeat (first | (with_reducible first | exact HB.out | apply below_alloc | apply pw_below_drewN | apply below_drew1 | refine below_set ?_ GE1075.out | refine below_set ?_ GE1118.out) | exact HB.out))))
    have n14_ := Aside0.mk (Kd.S_lower (Kd.S_new' (Kd.S_new' (Kd.S_new' (Kd.S_new' (Kd.S_new' (Kd.S_new' (Kd.S_new' (Kd.S_new' (Kd.S_new' (Kd.S_new' ho4 (Kd.R_lt (by (with_reducible repeat (first | apply Kd.R_alloc | apply Kd.R_drewN | apply Kd.R_drew)); exact HO1079.out))) (Kd.R_lt (by (with_reducible repeat (first | apply Kd.R_alloc | apply Kd.R_drewN | apply Kd.R_drew)); exact HO1083.out))) (Kd.R_lt (by (with_reducible repeat (first | apply Kd.R_alloc | apply Kd.R_drewN | apply Kd.R_drew)); exact HO1086.out))) (Kd.R_lt (by (with_reducible repeat (first | apply Kd.R_alloc | apply Kd.R_drewN | apply Kd.R_drew)); exact HO1089.out))) (Kd.S_lt (by (with_reducible repeat (first | apply Kd.S_alloc | apply Kd.S_drewN | apply Kd.S_drew)); exact HO1092.out))) (Kd.R_lt (by (with_reducible repeat (first | apply Kd.R_alloc | apply Kd.R_drewN | apply Kd.R_drew)); exact HO1100.out))) (Kd.R_lt (by (with_reducible repeat (first | apply Kd.R_alloc | apply Kd.R_drewN | apply Kd.R_drew)); exact HO1104.out))) (Kd.R_lt (by (with_reducible repeat (first | apply Kd.R_alloc | apply Kd.R_drewN | apply Kd.R_drew)); exact HO1107.out))) (Kd.R_lt (by (with_reducible repeat (first | apply Kd.R_alloc | apply Kd.R_drewN | apply Kd.R_drew)); exact HO1110.out))) (Kd.S_lt (by (with_reducible repeat (first | apply Kd.S_alloc | apply Kd.S_drewN | apply Kd.S_drew)); exact HO1113.out))) (below_size (by repeat (first | (with_reducible first | exact HB.out | apply below_alloc | apply pw_below_drewN | apply below_drew1 | refine below_set ?_ GE1075.out | refine below_set ?_ GE1118.out) | exact HB.out))))
    have n15_ := Aside0.mk (blk_below (g := gb1075) (o := .cells #[.slice A0_0 l0_0.length c0_0, .int .i64 a0_1, .slice A0_2 l0_2.length c0_2, .slice A0_3 l0_3.length c0_3, .slice A0_4 l0_4.length c0_4, .slice A0_5 l0_5.length c0_5, .int .i64 a0_6, .int .i64 a0_7, .int .i64 a0_8, .int .i64 a0_9] 65 (0, 0)) (by (with_reducible repeat (first | refine blk_drewN ?_ _ | refine blk_drew ?_ | refine blk_alloc ?_ _)); exact BK1075.out) hb)
    have n16_ := Aside0.mk (blk_below (g := gb1118) (o := .cells #[.slice Ao29 t1098.length co29, .int .i64 t1101, .slice Ao32 t1102.length co32, .slice Ao33 t1105.length co33, .slice Ao34 t1108.length co34, .slice Ao35 t1111.length co35, .int .i64 t1114, .int .i64 t1115, .int .i64 t1116, .int .i64 t1117] 59 (0, 0)) (by (with_reducible repeat (first | refine blk_drewN ?_ _ | refine blk_drew ?_ | refine blk_alloc ?_ _)); exact BK1118.out) hb)
    have n17_ := Aside0.mk (below_step (by repeat (first | (with_reducible first | exact HB.out | apply below_alloc | apply pw_below_drewN | apply below_drew1 | refine below_set ?_ GE1075.out | refine below_set ?_ GE1118.out) | exact HB.out)) hb)
    clear HO1079
    clear HO1083
    clear HO1086
    clear HO1089
    clear HO1092
    clear HO1100
    clear HO1104
    clear HO1107
    clear HO1110
    clear HO1113
    clear BK1075
    clear BK1118
    clear HB
    have HO1079 := n0_
    have HO1083 := n1_
    have HO1086 := n2_
    have HO1089 := n3_
    have HO1092 := n4_
    have HO1100 := n5_
    have HO1104 := n6_
    have HO1107 := n7_
    have HO1110 := n8_
    have HO1113 := n9_
    have HO1122 := n10_
    have HO1126 := n11_
    have HO1129 := n12_
    have HO1132 := n13_
    have HO1135 := n14_
    have BK1075 := n15_
    have BK1118 := n16_
    have HB := n17_
    clear n0_ n1_ n2_ n3_ n4_ n5_ n6_ n7_ n8_ n9_ n10_ n11_ n12_ n13_ n14_ n15_ n16_ n17_
    (try clear hb)
    (try clear hb2)
    (try clear hk)
    (try clear hi)
    (try clear ho0)
    (try clear ho1)
    (try clear ho2)
    (try clear ho3)
    (try clear ho4)
    obtain ⟨Ao39, co39, eo39⟩ := Kd.R_slice HO1122.out
    (first | subst eo39 | (injection eo39 with f1_ f2_ f3_; have f4_ := f1_.symm; have f5_ := f3_.symm; clear f1_ f2_ f3_; subst f4_; subst f5_))
    obtain ⟨Ao40, co40, eo40⟩ := Kd.R_slice HO1126.out
    (first | subst eo40 | (injection eo40 with f1_ f2_ f3_; have f4_ := f1_.symm; have f5_ := f3_.symm; clear f1_ f2_ f3_; subst f4_; subst f5_))
    obtain ⟨Ao41, co41, eo41⟩ := Kd.R_slice HO1129.out
    (first | subst eo41 | (injection eo41 with f1_ f2_ f3_; have f4_ := f1_.symm; have f5_ := f3_.symm; clear f1_ f2_ f3_; subst f4_; subst f5_))
    obtain ⟨Ao42, co42, eo42⟩ := Kd.R_slice HO1132.out
    (first | subst eo42 | (injection eo42 with f1_ f2_ f3_; have f4_ := f1_.symm; have f5_ := f3_.symm; clear f1_ f2_ f3_; subst f4_; subst f5_))
    obtain ⟨Ao43, co43, eo43⟩ := Kd.S_slice HO1135.out
    (first | subst eo43 | (injection eo43 with f1_ f2_ f3_; have f4_ := f1_.symm; have f5_ := f3_.symm; clear f1_ f2_ f3_; subst f4_; subst f5_))
    refine hK.out _ _ ⟨(blk_cell BK1118.out 0).trans rfl, (blk_cell BK1118.out 1).trans rfl, (blk_cell BK1118.out 2).trans rfl, (blk_cell BK1118.out 3).trans rfl, (blk_cell BK1118.out 4).trans rfl, (blk_cell BK1118.out 5).trans rfl, (blk_cell BK1118.out 6).trans rfl, (blk_cell BK1118.out 7).trans rfl, (blk_cell BK1118.out 8).trans rfl, (blk_cell BK1118.out 9).trans rfl, (blk_cell BK1075.out 0).trans rfl, (blk_cell BK1075.out 1).trans rfl, (blk_cell BK1075.out 2).trans rfl, (blk_cell BK1075.out 3).trans rfl, (blk_cell BK1075.out 4).trans rfl, (blk_cell BK1075.out 5).trans rfl, (blk_cell BK1075.out 6).trans rfl, (blk_cell BK1075.out 7).trans rfl, (blk_cell BK1075.out 8).trans rfl, (blk_cell BK1075.out 9).trans rfl⟩ (fun hHeld => ?_)
    clear hK K
    refine norm_ (a' := ?_) ?_ ?_
    rotate_left
    ·show Act.put _ (some 24) _ = _
     simp only [Act.put, List.setIfInBounds_toArray, List.set_cons_zero, List.set_cons_succ, i64_w, i32_w]
     rfl
    refine one_ (i := 3) (N := some 25) #[true, true, true, true, false] rfl rfl (by kernel_rfl) (by decide) (fun K hK => ?_)
    refine goes_ Try.func48 (by kernel_rfl) rfl #[.agg #[.slice Ao29 t1098.length co29, .int .i64 t1101, .slice Ao32 t1102.length co32, .slice Ao33 t1105.length co33, .slice Ao34 t1108.length co34, .slice Ao35 t1111.length co35, .int .i64 t1114, .int .i64 t1115, .int .i64 t1116, .int .i64 t1117], .agg #[.slice Ao39 t1120.length co39, .int .i64 t1123, .slice Ao40 t1124.length co40, .slice Ao41 t1127.length co41, .slice Ao42 t1130.length co42, .slice Ao43 t1133.length co43, .int .i64 t1136, .int .i64 t1137, .int .i64 t1138, .int .i64 t1139]] (by rfl) rfl rfl (by (try simp only [List.map_toArray, List.map_cons, List.map_nil]); first | done | rfl | (simp only [List.length_drop, List.length_take]; rfl)) ?_
    with_reducible refine (laws_eqSorter.calls k _ _ t1098 t1101 _ _ t1102 _ _ t1105 _ _ t1108 _ _ t1111 t1114 t1115 t1116 t1117 _ _ t1120 t1123 _ _ t1124 _ _ t1127 _ _ t1130 _ _ t1133 t1136 t1137 t1138 t1139 true _ ?side1 ?side2 ?side3 ?side4 ?side5 ?side6 ?side7 ?side8 ?side9 ?side10 ?side11 ?side12 ?side13 ?side14 ?side15 ?side16 ?side17 ?side18 ?side19 ?side20 A13.out).mono ?_
    (case side1 => repeat (first | exact (Kd.R_reads' HO1100.out).2.2 | (with_reducible refine Kd.C_alloc ?_ _) | (with_reducible refine Kd.C_drewN ?_ _) | (with_reducible refine Kd.C_drew ?_)))
    (case side2 => exact (Kd.R_reads' HO1100.out).2.1)
    (case side3 => repeat (first | exact (Kd.R_reads' HO1104.out).2.2 | (with_reducible refine Kd.C_alloc ?_ _) | (with_reducible refine Kd.C_drewN ?_ _) | (with_reducible refine Kd.C_drew ?_)))
    (case side4 => exact (Kd.R_reads' HO1104.out).2.1)
    (case side5 => repeat (first | exact (Kd.R_reads' HO1107.out).2.2 | (with_reducible refine Kd.C_alloc ?_ _) | (with_reducible refine Kd.C_drewN ?_ _) | (with_reducible refine Kd.C_drew ?_)))
    (case side6 => exact (Kd.R_reads' HO1107.out).2.1)
    (case side7 => repeat (first | exact (Kd.R_reads' HO1110.out).2.2 | (with_reducible refine Kd.C_alloc ?_ _) | (with_reducible refine Kd.C_drewN ?_ _) | (with_reducible refine Kd.C_drew ?_)))
    (case side8 => exact (Kd.R_reads' HO1110.out).2.1)
    (case side9 => repeat (first | exact (Kd.S_reads' HO1113.out).2.2 | (with_reducible refine Kd.C_alloc ?_ _) | (with_reducible refine Kd.C_drewN ?_ _) | (with_reducible refine Kd.C_drew ?_)))
    (case side10 => exact (Kd.S_reads' HO1113.out).2.1)
    (case side11 => repeat (first | exact (Kd.R_reads' HO1122.out).2.2 | (with_reducible refine Kd.C_alloc ?_ _) | (with_reducible refine Kd.C_drewN ?_ _) | (with_reducible refine Kd.C_drew ?_)))
    (case side12 => exact (Kd.R_reads' HO1122.out).2.1)
    (case side13 => repeat (first | exact (Kd.R_reads' HO1126.out).2.2 | (with_reducible refine Kd.C_alloc ?_ _) | (with_reducible refine Kd.C_drewN ?_ _) | (with_reducible refine Kd.C_drew ?_)))
    (case side14 => exact (Kd.R_reads' HO1126.out).2.1)
    (case side15 => repeat (first | exact (Kd.R_reads' HO1129.out).2.2 | (with_reducible refine Kd.C_alloc ?_ _) | (with_reducible refine Kd.C_drewN ?_ _) | (with_reducible refine Kd.C_drew ?_)))
    (case side16 => exact (Kd.R_reads' HO1129.out).2.1)
    (case side17 => repeat (first | exact (Kd.R_reads' HO1132.out).2.2 | (with_reducible refine Kd.C_alloc ?_ _) | (with_reducible refine Kd.C_drewN ?_ _) | (with_reducible refine Kd.C_drew ?_)))
    (case side18 => exact (Kd.R_reads' HO1132.out).2.1)
    (case side19 => repeat (first | exact (Kd.S_reads' HO1135.out).2.2 | (with_reducible refine Kd.C_alloc ?_ _) | (with_reducible refine Kd.C_drewN ?_ _) | (with_reducible refine Kd.C_drew ?_)))
    (case side20 => exact (Kd.S_reads' HO1135.out).2.1)
    rintro e w44 ⟨rfl, hb⟩
    refine ⟨_, rfl, ?_⟩
    have n0_ := Aside0.mk (Kd.R_below (by (with_reducible repeat (first | apply Kd.R_alloc | apply Kd.R_drewN | apply Kd.R_drew)); exact HO1079.out) hb)
    have n1_ := Aside0.mk (Kd.R_below (by (with_reducible repeat (first | apply Kd.R_alloc | apply Kd.R_drewN | apply Kd.R_drew)); exact HO1083.out) hb)
    have n2_ := Aside0.mk (Kd.R_below (by (with_reducible repeat (first | apply Kd.R_alloc | apply Kd.R_drewN | apply Kd.R_drew)); exact HO1086.out) hb)
    have n3_ := Aside0.mk (Kd.R_below (by (with_reducible repeat (first | apply Kd.R_alloc | apply Kd.R_drewN | apply Kd.R_drew)); exact HO1089.out) hb)
    have n4_ := Aside0.mk (Kd.S_below (by (with_reducible repeat (first | apply Kd.S_alloc | apply Kd.S_drewN | apply Kd.S_drew)); exact HO1092.out) hb)
    have n5_ := Aside0.mk (Kd.R_below (by (with_reducible repeat (first | apply Kd.R_alloc | apply Kd.R_drewN | apply Kd.R_drew)); exact HO1100.out) hb)
    have n6_ := Aside0.mk (Kd.R_below (by (with_reducible repeat (first | apply Kd.R_alloc | apply Kd.R_drewN | apply Kd.R_drew)); exact HO1104.out) hb)
    have n7_ := Aside0.mk (Kd.R_below (by (with_reducible repeat (first | apply Kd.R_alloc | apply Kd.R_drewN | apply Kd.R_drew)); exact HO1107.out) hb)
    have n8_ := Aside0.mk (Kd.R_below (by (with_reducible repeat (first | apply Kd.R_alloc | apply Kd.R_drewN | apply Kd.R_drew)); exact HO1110.out) hb)
    have n9_ := Aside0.mk (Kd.S_below (by (with_reducible repeat (first | apply Kd.S_alloc | apply Kd.S_drewN | apply Kd.S_drew)); exact HO1113.out) hb)
    have n10_ := Aside0.mk (Kd.R_below (by (with_reducible repeat (first | apply Kd.R_alloc | apply Kd.R_drewN | apply Kd.R_drew)); exact HO1122.out) hb)
    have n11_ := Aside0.mk (Kd.R_below (by (with_reducible repeat (first | apply Kd.R_alloc | apply Kd.R_drewN | apply Kd.R_drew)); exact HO1126.out) hb)
    have n12_ := Aside0.mk (Kd.R_below (by (with_reducible repeat (first | apply Kd.R_alloc | apply Kd.R_drewN | apply Kd.R_drew)); exact HO1129.out) hb)
    have n13_ := Aside0.mk (Kd.R_below (by (with_reducible repeat (first | apply Kd.R_alloc | apply Kd.R_drewN | apply Kd.R_drew)); exact HO1132.out) hb)
    have n14_ := Aside0.mk (Kd.S_below (by (with_reducible repeat (first | apply Kd.S_alloc | apply Kd.S_drewN | apply Kd.S_drew)); exact HO1135.out) hb)
    have n15_ := Aside0.mk (blk_below (g := gb1075) (o := .cells #[.slice A0_0 l0_0.length c0_0, .int .i64 a0_1, .slice A0_2 l0_2.length c0_2, .slice A0_3 l0_3.length c0_3, .slice A0_4 l0_4.length c0_4, .slice A0_5 l0_5.length c0_5, .int .i64 a0_6, .int .i64 a0_7, .int .i64 a0_8, .int .i64 a0_9] 65 (0, 0)) (by (with_reducible repeat (first | refine blk_drewN ?_ _ | refine blk_drew ?_ | refine blk_alloc ?_ _)); exact BK1075.out) hb)
    have n16_ := Aside0.mk (blk_below (g := gb1118) (o := .cells #[.slice Ao29 t1098.length co29, .int .i64 t1101, .slice Ao32 t1102.length co32, .slice Ao33 t1105.length co33, .slice Ao34 t1108.length co34, .slice Ao35 t1111.length co35, .int .i64 t1114, .int .i64 t1115, .int .i64 t1116, .int .i64 t1117] 59 (0, 0)) (by (with_reducible repeat (first | refine blk_drewN ?_ _ | refine blk_drew ?_ | refine blk_alloc ?_ _)); exact BK1118.out) hb)
    have n17_ := Aside0.mk (below_step (by repeat (first | (with_reducible first | exact HB.out | apply below_alloc | apply pw_below_drewN | apply below_drew1 | refine below_set ?_ GE1075.out | refine below_set ?_ GE1118.out) | exact HB.out)) hb)
    clear HO1079
    clear HO1083
    clear HO1086
    clear HO1089
    clear HO1092
    clear HO1100
    clear HO1104
    clear HO1107
    clear HO1110
    clear HO1113
    clear HO1122
    clear HO1126
    clear HO1129
    clear HO1132
    clear HO1135
    clear BK1075
    clear BK1118
    clear HB
    have HO1079 := n0_
    have HO1083 := n1_
    have HO1086 := n2_
    have HO1089 := n3_
    have HO1092 := n4_
    have HO1100 := n5_
    have HO1104 := n6_
    have HO1107 := n7_
    have HO1110 := n8_
    have HO1113 := n9_
    have HO1122 := n10_
    have HO1126 := n11_
    have HO1129 := n12_
    have HO1132 := n13_
    have HO1135 := n14_
    have BK1075 := n15_
    have BK1118 := n16_
    have HB := n17_
    clear n0_ n1_ n2_ n3_ n4_ n5_ n6_ n7_ n8_ n9_ n10_ n11_ n12_ n13_ n14_ n15_ n16_ n17_
    (try clear hb)
    (try clear hb2)
    (try clear hk)
    (try clear hi)
    refine hK.out _ _ ⟨(blk_cell BK1118.out 0).trans rfl, (blk_cell BK1118.out 1).trans rfl, (blk_cell BK1118.out 2).trans rfl, (blk_cell BK1118.out 3).trans rfl, (blk_cell BK1118.out 4).trans rfl, (blk_cell BK1118.out 5).trans rfl, (blk_cell BK1118.out 6).trans rfl, (blk_cell BK1118.out 7).trans rfl, (blk_cell BK1118.out 8).trans rfl, (blk_cell BK1118.out 9).trans rfl, (blk_cell BK1075.out 0).trans rfl, (blk_cell BK1075.out 1).trans rfl, (blk_cell BK1075.out 2).trans rfl, (blk_cell BK1075.out 3).trans rfl, (blk_cell BK1075.out 4).trans rfl, (blk_cell BK1075.out 5).trans rfl, (blk_cell BK1075.out 6).trans rfl, (blk_cell BK1075.out 7).trans rfl, (blk_cell BK1075.out 8).trans rfl, (blk_cell BK1075.out 9).trans rfl⟩ (fun hHeld => ?_)
    clear hK K
    refine norm_ (a' := ?_) ?_ ?_
    rotate_left
    ·show Act.put _ (some 25) _ = _
     simp only [Act.put, List.setIfInBounds_toArray, List.set_cons_zero, List.set_cons_succ, i64_w, i32_w]
     rfl
    refine pure_ (i := 4) (N := some 26) (v := ?_) (a' := ?_) #[true, true, true, true, true] rfl rfl (by kernel_rfl) (fun _ _ _ h => h) (Or.inl ⟨by rfl, ?_⟩) ?_ ?_
    rotate_left
    ·intro w'
     go_simp
     with_reducible rfl
    rotate_left
    ·simp only [Act.put, List.setIfInBounds_toArray, List.set_cons_zero, List.set_cons_succ, i64_w, i32_w]
     rfl
    refine done_ (by kernel_rfl) ?_
    try go_wp2
    go_ret
    exact ⟨by first | rfl | (simp [errW_none, errW_some] <;> rfl) | (simp [*, errW_none, errW_some] <;> rfl), by repeat (first | (with_reducible first | exact HB.out | apply below_alloc | apply pw_below_drewN | apply below_drew1 | refine below_set ?_ GE1075.out | refine below_set ?_ GE1118.out) | exact HB.out)⟩
   ·replace c14 := Bool.eq_false_iff.mpr c14
    subst c14
    have H1 : (some false) = some r := by rw [if_neg (show ¬ (false = true) by decide)] at H; exact H
    clear H
    have H := H1
    clear H1
    obtain rfl := Option.some.inj H
    exact absurd HR_.out (by decide)
  ·rw [if_neg c11] at H
   have c11b0 : (t1119 == t1097) = false := beq_eq_false_iff_ne.mpr c11
   have c11b1 : (t1119 != t1097) = true := bne_iff_ne.mpr c11
   obtain rfl := Option.some.inj H
   exact absurd HR_.out (by decide)
end Go.Proofs.Ytngeppmincgebaa.P
end
section
namespace Go.Proofs.Ytngeppmincgebaa.Opn
open Go.ChangeShapes Go.WideShapes Go.RowKit Go.Proofs.YtngeppmincgebaaW.PrintWords
set_option linter.unusedVariables false
def Opens {α : Type} (P : Program) (t : TypeId) (d : Kd α) (ok : α → Prop) : Prop :=
 ∀ (H : Type) (enc : TypeId × Value → H) (W : World) (base : Nat) (spare : Nat → Bool) (held : Bool) (fuel : Nat) (cs : List Value) (x : DataW H × List MemPlace),
  DataW.trod enc P W base spare held fuel t cs = some x → ∃ a, d.K W a cs ∧ ok a
def okI (k : IntKind) (a : Int) : Prop := (Lit.int k a).wf = true
def okL {α : Type} (ok : α → Prop) (l : List α) : Prop := l.length ≤ 9223372036854775807 ∧ ∀ x ∈ l, ok x
theorem opens_int {P : Program} {t : TypeId} {k : IntKind} (ht : P.underlying t = some (.int k)) : Opens P t (Kd.int k) (okI k) := by
 intro H enc W base spare held fuel cs x h
 obtain ⟨n, rfl, _, hw⟩ := DataW.trod_int ht h
 exact ⟨n, rfl, hw⟩
theorem list_of {α : Type} : ∀ (n : Nat) (p : Nat → α → Prop), (∀ i, i < n → ∃ x, p i x) → ∃ l : List α, l.length = n ∧ ∀ j x, l[j]? = some x → p j x
 | 0, _, _ => ⟨[], rfl, fun j x h => by simp at h⟩
 | n + 1, p, h => by
  obtain ⟨l, hl, hp⟩ := list_of n p (fun i hi => h i (by omega))
  obtain ⟨x, hx⟩ := h n (by omega)
  refine ⟨l ++ [x], by simp [hl], fun j y hy => ?_⟩
  by_cases hj : j < l.length
  ·rw [List.getElem?_append_left hj] at hy
   exact hp j y hy
  ·rw [List.getElem?_append_right (by omega)] at hy
   have hlt : j - l.length < 1 := by simpa using (List.getElem?_eq_some_iff.1 hy).1
   have hj0 : j = n := by omega
   subst hj0
   rw [show j - l.length = 0 by omega] at hy
   have : x = y := by simpa using hy
   subst this
   exact hx
theorem opens_slice {α : Type} {P : Program} {t e : TypeId} {d : Kd α} {ok : α → Prop} (ht : P.underlying t = some (.slice e)) (hc : P.cellsOf e = d.sz) (h : Opens P e d ok) : Opens P t (Kd.slice e d) (okL ok) := by
 intro H enc W base spare held fuel cs x hx
 rcases Go.Deep.open_slice ht hx with ⟨rfl, _⟩ | ⟨a, len, cap, m, n, D, Pl, rfl, hb, hl, hm, hmm, _, hi⟩
 ·exact ⟨[], ⟨none, 0, rfl, Nat.le_refl _, ⟨rfl, by simp, fun h0 => absurd h0 (by simp)⟩⟩, by simp, fun x hx => by simp at hx⟩
 ·have hlm : len ≤ m := by
   rw [hmm]
   split <;> omega
  unfold maxLen at hm
  obtain ⟨l, hll, hp⟩ := list_of (α := α) len (fun i p => ok p ∧ ∃ c, c.length = d.sz ∧ d.K W p c ∧ ∀ j u, c[j]? = some u → W.cell? (a.add (i * d.sz + j)) = some u) (fun i hlt => by
   obtain ⟨c, h1, h2⟩ := hi i (by omega)
   obtain ⟨p, hk, hok⟩ := h H enc W base spare held n c _ h2
   obtain ⟨_, hlen, hcell⟩ := World.cells?_some h1
   refine ⟨p, hok, c, d.K_len hk, hk, fun j u hu => ?_⟩
   have hj : j < c.length := (List.getElem?_eq_some_iff.1 hu).1
   rw [← Go.Deep.add_add, ← hc, hcell j (by omega)]
   exact hu)
  subst hll
  refine ⟨l, ⟨some a, cap, rfl, hl, ⟨rfl, by omega, fun _ => ⟨a, rfl, fun j p hj => ?_⟩⟩⟩, by omega, fun x hx => ?_⟩
  ·obtain ⟨_, c, h1, h2, h3⟩ := hp j p hj
   exact ⟨c, h1, h2, h3⟩
  ·obtain ⟨j, hj⟩ := List.mem_iff_getElem?.1 hx
   exact (hp j x hj).1
end Go.Proofs.Ytngeppmincgebaa.Opn
end
section
namespace Go.Proofs.Ytngeppmincgebaa.StFnExactSorterMemory
open Go.RowKit Go.Proofs.Ytngeppmincgebaa.P Go.Proofs.YtngeppmincgebaaW.PrintWords Go.Proofs.Ytngeppmincgebaa.Opn
structure S65 where
 f0 : (List S77)
 f1 : Int
 f2 : (List S77)
 f3 : (List S77)
 f4 : (List S77)
 f5 : (List S91)
 f6 : Int
 f7 : Int
 f8 : Int
 f9 : Int
def k65 : Kd S65 := Kd.iso (Kd.pair (Kd.slice 77 k77) (Kd.pair (Kd.int .i64) (Kd.pair (Kd.slice 77 k77) (Kd.pair (Kd.slice 77 k77) (Kd.pair (Kd.slice 77 k77) (Kd.pair (Kd.slice 91 k91) (Kd.pair (Kd.int .i64) (Kd.pair (Kd.int .i64) (Kd.pair (Kd.int .i64) (Kd.int .i64)))))))))) (fun x : S65 => (x.f0, x.f1, x.f2, x.f3, x.f4, x.f5, x.f6, x.f7, x.f8, x.f9))
theorem k65_open {w : World} {x : S65} {cs : List Value} (h : k65.K w x cs) : ∃ A0 c0 A2 c2 A3 c3 A4 c4 A5 c5, cs = [.slice A0 x.f0.length c0, .int .i64 x.f1, .slice A2 x.f2.length c2, .slice A3 x.f3.length c3, .slice A4 x.f4.length c4, .slice A5 x.f5.length c5, .int .i64 x.f6, .int .i64 x.f7, .int .i64 x.f8, .int .i64 x.f9] ∧ x.f0.length ≤ c0 ∧ k77.C w A0 x.f0.length x.f0 ∧ x.f2.length ≤ c2 ∧ k77.C w A2 x.f2.length x.f2 ∧ x.f3.length ≤ c3 ∧ k77.C w A3 x.f3.length x.f3 ∧ x.f4.length ≤ c4 ∧ k77.C w A4 x.f4.length x.f4 ∧ x.f5.length ≤ c5 ∧ k91.C w A5 x.f5.length x.f5 := by
 obtain ⟨_, _, rfl, ⟨A0, c0, rfl, l0, g0⟩, ⟨_, _, rfl, rfl, ⟨_, _, rfl, ⟨A2, c2, rfl, l2, g2⟩, ⟨_, _, rfl, ⟨A3, c3, rfl, l3, g3⟩, ⟨_, _, rfl, ⟨A4, c4, rfl, l4, g4⟩, ⟨_, _, rfl, ⟨A5, c5, rfl, l5, g5⟩, ⟨_, _, rfl, rfl, ⟨_, _, rfl, rfl, ⟨_, _, rfl, rfl, rfl⟩⟩⟩⟩⟩⟩⟩⟩⟩ := h
 exact ⟨A0, c0, A2, c2, A3, c3, A4, c4, A5, c5, rfl, l0, g0, l2, g2, l3, g3, l4, g4, l5, g5⟩
def ok77 (x : S77) : Prop := (okI .i64) x.f0 ∧ (okI .i64) x.f1 ∧ (okI .i64) x.f2
def ok91 (x : S91) : Prop := (okL ok77) x.f0
def ok65 (x : S65) : Prop := (okL ok77) x.f0 ∧ (okI .i64) x.f1 ∧ (okL ok77) x.f2 ∧ (okL ok77) x.f3 ∧ (okL ok77) x.f4 ∧ (okL ok91) x.f5 ∧ (okI .i64) x.f6 ∧ (okI .i64) x.f7 ∧ (okI .i64) x.f8 ∧ (okI .i64) x.f9
def Pure : Prop := ∀ (x0 : S65), ok65 x0 → ∃ k, laws_FnExactSorterMemory.f k x0.f0 x0.f1 x0.f2 x0.f3 x0.f4 x0.f5 x0.f6 x0.f7 x0.f8 x0.f9 = some true
end Go.Proofs.Ytngeppmincgebaa.StFnExactSorterMemory
end
section
namespace Go.Proofs.Ytngeppmincgebaa.Pure
open Go.RowKit Go.Proofs.YtngeppmincgebaaW.PrintWords Go.Proofs.YtngeppmincgebaaW.PrintLast
theorem wrap_succ {i : Int} {n : Nat} (h0 : 0 ≤ i) (h : i < (n : Int)) (hn : n ≤ 9223372036854775807) : wrap64 (i + 1) = i + 1 := by
 unfold wrap64
 omega
theorem wrap_id {x : Int} (h1 : -9223372036854775808 ≤ x) (h2 : x ≤ 9223372036854775807) : wrap64 x = x := by
 unfold wrap64
 omega
theorem drop_getD {α : Type} (l : List α) (z : α) (i : Int) (h0 : 0 ≤ i) (h : i < (l.length : Int)) : l.drop i.toNat = l.getD i.toNat z :: l.drop (i + 1).toNat := by
 have hi : i.toNat < l.length := by omega
 rw [List.drop_eq_getElem_cons hi, List.getD_eq_getElem?_getD, List.getElem?_eq_getElem hi, show (i + 1).toNat = i.toNat + 1 by omega]
 rfl
theorem getD_mem {α : Type} (l : List α) (z : α) (i : Int) (h0 : 0 ≤ i) (h : i < (l.length : Int)) : l.getD i.toNat z ∈ l := by
 have hi : i.toNat < l.length := by omega
 rw [List.getD_eq_getElem?_getD, List.getElem?_eq_getElem hi]
 exact List.getElem_mem hi
theorem drop_end {α : Type} (l : List α) (i : Int) (h : (l.length : Int) ≤ i) : l.drop i.toNat = [] := List.drop_eq_nil_of_le (by omega)
theorem take_set_succ {α β : Type} (f : β → α) (l : List β) (acc : List α) (z : β) (i : Int) (h0 : 0 ≤ i) (h : i < (l.length : Int)) (ha : acc.length = l.length) (ht : acc.take i.toNat = (l.map f).take i.toNat) :
  (acc.set i.toNat (f (l.getD i.toNat z))).take (i + 1).toNat = (l.map f).take (i + 1).toNat := by
 have hi : i.toNat < l.length := by omega
 rw [show (i + 1).toNat = i.toNat + 1 by omega, List.take_add_one, List.take_add_one, List.take_set_of_le (by omega), ht]
 congr 1
 rw [List.getElem?_set_self (by omega), List.getElem?_map, List.getElem?_eq_getElem hi, List.getD_eq_getElem?_getD, List.getElem?_eq_getElem hi]
 rfl
theorem take_all {α : Type} (acc l : List α) (i : Int) (h : (acc.length : Int) ≤ i) (ha : acc.length = l.length) (ht : acc.take i.toNat = l.take i.toNat) : acc = l := by
 rwa [List.take_of_length_le (by omega), List.take_of_length_le (by omega)] at ht
end Go.Proofs.Ytngeppmincgebaa.Pure
end
section
namespace Go.Proofs.Ytngeppmincgebaa.Pure
open Go.RowKit Go.Proofs.Ytngeppmincgebaa.P Go.Proofs.YtngeppmincgebaaW.PrintWords Go.Proofs.YtngeppmincgebaaW.PrintLast
theorem within_in (a b c : Int) : impl_within.f a b c = some (decide (b ≤ a ∧ a ≤ c)) := by
 unfold impl_within.f
 by_cases h : a ≥ b
 ·rw [if_pos h]
  simp [h]
 ·rw [if_neg h]
  simp [h]
theorem l1In_in (a b c : Int) : spec_l1In.f a b c = some (decide (b ≤ a ∧ a ≤ c)) := by
 unfold spec_l1In.f
 by_cases h : a ≥ b
 ·rw [if_pos h]
  simp [h]
 ·rw [if_neg h]
  simp [h]
def vRow (x : S75) : Bool := decide (0 ≤ x.f0 ∧ x.f0 ≤ 9 ∧ 0 ≤ x.f1 ∧ x.f1 ≤ 99 ∧ 0 ≤ x.f2 ∧ x.f2 ≤ 3)
theorem vRow_impl (x : S75) : impl_IsValidRow.f x.f0 x.f1 x.f2 = some (vRow x) := by
 unfold impl_IsValidRow.f vRow
 simp only [within_in, Option.bind_some, decide_eq_true_eq]
 repeat' split
 all_goals (congr 1; simp only [Bool.false_eq, decide_eq_false_iff_not, decide_eq_decide]; omega)
theorem vRow_spec (x : S75) : spec_IsValidRow.f x.f0 x.f1 x.f2 = some (vRow x) := by
 unfold spec_IsValidRow.f vRow
 simp only [l1In_in, Option.bind_some, decide_eq_true_eq]
 repeat' split
 all_goals (congr 1; simp only [Bool.false_eq, decide_eq_false_iff_not, decide_eq_decide]; omega)
theorem vRow_iff (x : S75) : vRow x = true ↔ (0 ≤ x.f0 ∧ x.f0 ≤ 9 ∧ 0 ≤ x.f1 ∧ x.f1 ≤ 99 ∧ 0 ≤ x.f2 ∧ x.f2 ≤ 3) := by
 unfold vRow
 exact decide_eq_true_iff
end Go.Proofs.Ytngeppmincgebaa.Pure
end
section
namespace Go.Proofs.Ytngeppmincgebaa.Pure
open Go.RowKit Go.Proofs.Ytngeppmincgebaa.P Go.Proofs.YtngeppmincgebaaW.PrintWords Go.Proofs.YtngeppmincgebaaW.PrintLast
def cost (x : S75) : Int := if vRow x = true then 1 + x.f2 else 0
theorem cost_bd (x : S75) : 0 ≤ cost x ∧ cost x ≤ 4 := by
 unfold cost
 split
 ·have := (vRow_iff x).1 ‹_›
  omega
 ·omega
theorem cost_impl (x : S75) : impl_RowCost.f x.f0 x.f1 x.f2 = some (cost x) := by
 unfold impl_RowCost.f cost
 rw [vRow_impl]
 simp only [Option.bind_some]
 split
 ·have := (vRow_iff x).1 ‹_›
  rw [wrap_id (by omega) (by omega)]
 ·rfl
theorem cost_spec (x : S75) : spec_RowCost.f x.f0 x.f1 x.f2 = some (cost x) := by
 unfold spec_RowCost.f cost
 rw [vRow_spec]
 simp only [Option.bind_some]
 split
 ·have := (vRow_iff x).1 ‹_›
  rw [wrap_id (by omega) (by omega)]
 ·rfl
def tot : List S75 → Int
 | [] => 0
 | x :: l => cost x + tot l
theorem tot_bd (l : List S75) : 0 ≤ tot l ∧ tot l ≤ 4 * l.length := by
 induction l with
 | nil => simp [tot]
 | cons x l ih =>
  have := cost_bd x
  simp only [tot, List.length_cons]
  omega
theorem tot_spec_go (l : List S75) (hl : l.length ≤ 1000000000000) (d : Nat) : ∀ (k : Nat) (acc i : Int), 0 ≤ i → i ≤ l.length → 0 ≤ acc → acc ≤ 4 * i → (l.length : Int) - i = d → d < k →
  spec_TotalCost.l0 k l acc i = some (acc + tot (l.drop i.toNat)) := by
 induction d with
 | zero =>
  intro k acc i h0 h1 ha ha2 hd hk
  obtain ⟨k, rfl⟩ : ∃ m, k = m + 1 := ⟨k - 1, by omega⟩
  simp only [spec_TotalCost.l0]
  rw [if_neg (by omega), drop_end l i (by omega)]
  simp [tot]
 | succ d ih =>
  intro k acc i h0 h1 ha ha2 hd hk
  obtain ⟨k, rfl⟩ : ∃ m, k = m + 1 := ⟨k - 1, by omega⟩
  have hc := cost_bd (rd_T75 l i)
  simp only [spec_TotalCost.l0]
  rw [if_pos (by omega), if_pos h0, cost_spec]
  simp only [Option.bind_some]
  rw [wrap_succ h0 (n := l.length) (by omega) (by omega), wrap_id (by omega) (by omega), ih k _ (i + 1) (by omega) (by omega) (by omega) (by omega) (by omega) (by omega), drop_getD l z75 i h0 (by omega)]
  simp only [tot]
  congr 1
  show acc + cost (rd_T75 l i) + _ = acc + (cost (rd_T75 l i) + _)
  omega
theorem tot_impl_go (l : List S75) (hl : l.length ≤ 1000000000000) (d : Nat) : ∀ (k : Nat) (acc i : Int), 0 ≤ i → i ≤ l.length → 0 ≤ acc → acc ≤ 4 * i → (l.length : Int) - i = d → d < k →
  impl_TotalCost.l0 k acc l (l.length : Int) i = some (acc + tot (l.drop i.toNat)) := by
 induction d with
 | zero =>
  intro k acc i h0 h1 ha ha2 hd hk
  obtain ⟨k, rfl⟩ : ∃ m, k = m + 1 := ⟨k - 1, by omega⟩
  simp only [impl_TotalCost.l0]
  rw [if_neg (by omega), drop_end l i (by omega)]
  simp [tot]
 | succ d ih =>
  intro k acc i h0 h1 ha ha2 hd hk
  obtain ⟨k, rfl⟩ : ∃ m, k = m + 1 := ⟨k - 1, by omega⟩
  have hc := cost_bd (rd_T75 l i)
  simp only [impl_TotalCost.l0]
  rw [if_pos (by omega), if_pos h0, if_pos (by omega), cost_impl]
  simp only [Option.bind_some]
  rw [wrap_succ h0 (n := l.length) (by omega) (by omega), wrap_id (by omega) (by omega), ih k _ (i + 1) (by omega) (by omega) (by omega) (by omega) (by omega) (by omega), drop_getD l z75 i h0 (by omega)]
  simp only [tot]
  congr 1
  show acc + cost (rd_T75 l i) + _ = acc + (cost (rd_T75 l i) + _)
  omega
theorem tot_spec (l : List S75) (hl : l.length ≤ 1000000000000) (k : Nat) (hk : l.length < k) : spec_TotalCost.f k l = some (tot l) := by
 unfold spec_TotalCost.f
 rw [tot_spec_go l hl l.length k 0 0 (by omega) (by omega) (by omega) (by omega) (by omega) hk]
 simp
theorem tot_impl (l : List S75) (hl : l.length ≤ 1000000000000) (k : Nat) (hk : l.length < k) : impl_TotalCost.f k l = some (tot l) := by
 unfold impl_TotalCost.f
 rw [tot_impl_go l hl l.length k 0 0 (by omega) (by omega) (by omega) (by omega) (by omega) hk]
 simp
end Go.Proofs.Ytngeppmincgebaa.Pure
end
section
namespace Go.Proofs.Ytngeppmincgebaa.Pure
open Go.RowKit Go.Proofs.Ytngeppmincgebaa.P Go.Proofs.YtngeppmincgebaaW.PrintWords Go.Proofs.YtngeppmincgebaaW.PrintLast
def cAt (l : List S93) (a b : Int) : Int := if a < (l.length : Int) ∧ b < ((rd_T93 l a).f0.length : Int) then cost (rd_T75 (rd_T93 l a).f0 b) else 0
theorem cAt_bd (l : List S93) (a b : Int) : 0 ≤ cAt l a b ∧ cAt l a b ≤ 4 := by
 unfold cAt
 split
 ·exact cost_bd _
 ·omega
theorem cAt_spec (l : List S93) (a b : Int) (ha : 0 ≤ a) (hb : 0 ≤ b) : ∃ t, spec_l13Row.f l a b = some t ∧ t.length ≤ 1 ∧ tot t = cAt l a b := by
 unfold spec_l13Row.f cAt
 by_cases h1 : a < (l.length : Int)
 ·rw [if_pos h1, if_pos ha]
  by_cases h2 : b < ((rd_T93 l a).f0.length : Int)
  ·rw [if_pos h2, if_pos hb, if_pos ⟨h1, h2⟩]
   exact ⟨_, rfl, Nat.le_refl 1, by simp [tot]⟩
  ·rw [if_neg h2, if_neg (fun h => h2 h.2)]
   exact ⟨_, rfl, Nat.zero_le 1, rfl⟩
 ·rw [if_neg h1, if_neg (fun h => h1 h.1)]
  exact ⟨_, rfl, Nat.zero_le 1, rfl⟩
theorem cAt_impl (l0 l2 l3 l4 : List S75) (l : List S93) (a1 a6 a7 a8 a9 a b : Int) (ha : 0 ≤ a) : impl_runCost.f l0 a1 l2 l3 l4 l a6 a7 a8 a9 a b = some (if b < 0 then 0 else cAt l a b) := by
 unfold impl_runCost.f cAt
 by_cases h1 : a < (l.length : Int)
 ·rw [if_neg (show ¬ a ≥ (l.length : Int) by omega)]
  by_cases hb : b < 0
  ·rw [if_pos hb, if_pos hb]
  ·rw [if_neg hb, if_neg hb, if_pos ha, if_pos h1]
   by_cases h2 : b < ((rd_T93 l a).f0.length : Int)
   ·rw [if_neg (show ¬ b ≥ ((rd_T93 l a).f0.length : Int) by omega), if_pos (show 0 ≤ b by omega), if_pos h2, if_pos ⟨h1, h2⟩, cost_impl]
    rfl
   ·rw [if_pos (show b ≥ ((rd_T93 l a).f0.length : Int) by omega), if_neg (fun h => h2 h.2)]
 ·rw [if_pos (show a ≥ (l.length : Int) by omega), if_neg (show ¬ (a < (l.length : Int) ∧ b < ((rd_T93 l a).f0.length : Int)) from fun h => h1 h.1)]
  split <;> rfl
def sMem (l2 l3 : List S75) (l5 : List S93) (a6 a7 a8 : Int) : Int :=
 if a8 = 1 then tot l2 + tot l3
 else if a8 = 2 then (if a6 < 0 ∨ a7 < 0 then 0 else cAt l5 0 a6 + cAt l5 1 a7)
 else if a8 = 3 then (if a6 < 0 then 0 else cAt l5 0 a6) else 0
theorem sMem_spec (l0 l2 l3 l4 : List S75) (l5 : List S93) (a1 a6 a7 a8 a9 : Int) (h2 : l2.length ≤ 1000000000000) (h3 : l3.length ≤ 1000000000000) (k : Nat) (hk2 : l2.length < k) (hk3 : l3.length < k) (hk : 3 < k) :
  spec_SorterMemory.f k l0 a1 l2 l3 l4 l5 a6 a7 a8 a9 = some (sMem l2 l3 l5 a6 a7 a8) := by
 unfold spec_SorterMemory.f sMem
 by_cases h8 : a8 = 1
 ·have b2 := tot_bd l2
  have b3 := tot_bd l3
  rw [if_pos h8, if_pos h8, tot_spec l2 h2 k hk2, tot_spec l3 h3 k hk3]
  simp only [Option.bind_some]
  rw [wrap_id (by omega) (by omega)]
 ·rw [if_neg h8, if_neg h8]
  by_cases h2' : a8 = 2
  ·rw [if_pos h2', if_pos h2']
   obtain ⟨k, rfl⟩ : ∃ m, k = m + 1 := ⟨k - 1, by omega⟩
   by_cases n6 : a6 < 0
   ·rw [if_pos n6, if_pos (Or.inl n6), spec_SorterMemory.j0, if_pos rfl]
   ·rw [if_neg n6]
    by_cases n7 : a7 < 0
    ·rw [decide_eq_true n7, if_pos (Or.inr n7), spec_SorterMemory.j0, if_pos rfl]
    ·obtain ⟨t6, e6, q6, c6⟩ := cAt_spec l5 0 a6 (by omega) (by omega)
     obtain ⟨t7, e7, q7, c7⟩ := cAt_spec l5 1 a7 (by omega) (by omega)
     have b6 := cAt_bd l5 0 a6
     have b7 := cAt_bd l5 1 a7
     rw [decide_eq_false n7, if_neg (by omega), spec_SorterMemory.j0, if_neg Bool.false_ne_true, e6, e7]
     simp only [Option.bind_some]
     rw [tot_spec t6 (by omega) k (by omega), tot_spec t7 (by omega) k (by omega)]
     simp only [Option.bind_some]
     rw [c6, c7, wrap_id (by omega) (by omega)]
  ·rw [if_neg h2', if_neg h2']
   by_cases h3' : a8 = 3
   ·rw [if_pos h3', if_pos h3']
    by_cases n6 : a6 < 0
    ·rw [if_pos n6, if_pos n6]
    ·obtain ⟨t6, e6, q6, c6⟩ := cAt_spec l5 0 a6 (by omega) (by omega)
     rw [if_neg n6, if_neg n6, e6]
     simp only [Option.bind_some]
     rw [tot_spec t6 (by omega) k (by omega), c6]
     rfl
   ·rw [if_neg h3', if_neg h3']
theorem sMem_impl (l0 l2 l3 l4 : List S75) (l5 : List S93) (a1 a6 a7 a8 a9 : Int) (h2 : l2.length ≤ 1000000000000) (h3 : l3.length ≤ 1000000000000) (k : Nat) (hk2 : l2.length < k) (hk3 : l3.length < k) (hk : 3 < k) :
  impl_SorterMemory.f k l0 a1 l2 l3 l4 l5 a6 a7 a8 a9 = some (sMem l2 l3 l5 a6 a7 a8) := by
 unfold impl_SorterMemory.f sMem
 by_cases h8 : a8 = 1
 ·have b2 := tot_bd l2
  have b3 := tot_bd l3
  rw [if_pos h8, if_pos h8, tot_impl l2 h2 k hk2, tot_impl l3 h3 k hk3]
  simp only [Option.bind_some]
  rw [wrap_id (by omega) (by omega)]
 ·rw [if_neg h8, if_neg h8]
  by_cases h2' : a8 = 2
  ·rw [if_pos h2', if_pos h2']
   obtain ⟨k, rfl⟩ : ∃ m, k = m + 1 := ⟨k - 1, by omega⟩
   by_cases n6 : a6 < 0
   ·rw [if_pos n6, if_pos (Or.inl n6), impl_SorterMemory.j0, if_pos rfl]
   ·rw [if_neg n6]
    by_cases n7 : a7 < 0
    ·rw [decide_eq_true n7, if_pos (Or.inr n7), impl_SorterMemory.j0, if_pos rfl]
    ·have b6 := cAt_bd l5 0 a6
     have b7 := cAt_bd l5 1 a7
     rw [decide_eq_false n7, if_neg (by omega), impl_SorterMemory.j0, if_neg Bool.false_ne_true, cAt_impl _ _ _ _ _ _ _ _ _ _ 0 a6 (by omega), cAt_impl _ _ _ _ _ _ _ _ _ _ 1 a7 (by omega), if_neg n6, if_neg n7]
     simp only [Option.bind_some]
     rw [wrap_id (by omega) (by omega)]
  ·rw [if_neg h2', if_neg h2']
   by_cases h3' : a8 = 3
   ·rw [if_pos h3', if_pos h3', cAt_impl _ _ _ _ _ _ _ _ _ _ 0 a6 (by omega)]
    rfl
   ·rw [if_neg h3', if_neg h3']
end Go.Proofs.Ytngeppmincgebaa.Pure
end
