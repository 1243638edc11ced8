-- merged by pack.py out of Px45 Px46 Open StmtFnExactFormatRuns Base Fmt Row Srt FmtR FmtN ToRow ToRun PureFnExactFormatRuns (words: printed by the kit's print.sh; what this claim does not use is left out)
import Derived.ChangeArms
import Derived.ChangeShapes
import Derived.Deep.Slices
import Derived.WideShapes
import Derived.Test.YtngeppmincgebaaKFnExactFormatRuns0
import Derived.Test.YtngeppmincgebaaKFnExactFormatRuns1
import Derived.Test.YtngeppmincgebaaKFnExactFormatRuns2
import Derived.Test.YtngeppmincgebaaKFnExactFormatRuns3
section
namespace Go.Proofs.Ytngeppmincgebaa.P
open Go.RowKit Go.Proofs.YtngeppmincgebaaW.PrintWords Go.Proofs.YtngeppmincgebaaW.PrintLast Go.Proofs.YtngeppmincgebaaW.PrintMore
attribute [local go_sem] max2_int min2_int max_two min_two max_three min_three max_four min_four
set_option linter.unusedVariables false
set_option linter.unusedSimpArgs false
def impl_rowTexts.l0 : Nat → List ByteArray → List (S75) → Int → Int → Option (ByteArray)
 | 0, _, _, _, _ => none
 | k + 1, x3, x7, x8, x9 => if x9 < x8 then (if 0 ≤ x9 then (if x9 < (x7.length : Int) then ((impl_FormatRow.f k ((rd_T75 x7 x9).f0) ((rd_T75 x7 x9).f1) ((rd_T75 x7 x9).f2)).bind fun t950 => (if x3.length < 8796093022208 then (impl_rowTexts.l0 k (x3 ++ [t950]) x7 x8 (wrap64 (x9 + 1))) else (none))) else (none)) else (none)) else ((impl_joined.f k x3 (⟨#[32]⟩ : ByteArray)).bind fun t954 => (some t954))
def impl_rowTexts.f (k : Nat) (l0 : List (S75)) : Option (ByteArray) := impl_rowTexts.l0 k (([] : List ByteArray)) l0 (l0.length : Int) 0
set_option maxHeartbeats 8000000 in
set_option maxRecDepth 100000 in
theorem impl_rowTexts.calls (k : Nat) (A0 : Option Addr) (c0 : Nat) (l0 : List (S75)) (r : ByteArray) (w : World) (hr0 : Kd.C k75 w A0 l0.length l0) (hc0 : l0.length ≤ c0) (h : impl_rowTexts.f k l0 = some r) :
  Calls Try.prog 106 #[.slice A0 l0.length c0] w fun e w' => e = .returned (.string r) ∧ Below w.heap.size w w' := by
 have hu75 := Try.underlying75
 have HR0 := Aside0.mk hr0
 have HC0 := Aside0.mk hc0
 clear hr0 hc0
 have HB := Aside0.mk (Below.refl w.heap.size w)
 have H : (impl_rowTexts.l0 k (([] : List ByteArray)) l0 (l0.length : Int) 0) = some r := h
 clear h
 obtain ⟨y945, hy945⟩ : ∃ y_ : List ByteArray, y_ = (([] : List ByteArray)) := ⟨_, rfl⟩
 replace H : (impl_rowTexts.l0 k y945 l0 (l0.length : Int) 0) = some r := by first | (rw [hy945]; with_reducible exact H) | (have H2_ := (Option.bind_some _ _).symm.trans H; rw [hy945]; with_reducible exact H2_) | (have H2_ := (Option.bind_some _ _).symm.trans H; with_reducible exact H2_) | with_reducible exact H | (rw [hy945]; exact H) | exact H
 have Ny945 := Aside0.mk hy945
 clear hy945
 have H' := Aside0.mk H
 clear H
 go_enter Try.func106, Try.ntmps106
 go_wp2_with (first | ((with_reducible refine gate_dst (N := 6) rfl ?_); refine Kd.R_lit Kd.string _ 9 ?hg (N := 6) ?hd (xs := ([] : List ByteArray)) (inner := []) (ok := fun _ => True) (okp := fun _ => True) ?hr ?hp (fun _ hk => hk) trivial (Below.refl _ _) (Nat.le_refl _) (by simp) ?_; (case hd => rfl); (case hg => rfl); (case hr => first | (go_simp; done) | (go_simp; rfl)); (case hp => exact (Reps.none _ _)); intro v946 w2 ho3 hb hg_ hnew_; clear hg_ hnew_; (first | rw [← Ny945.out] at ho3 | (simp only [Int.reduceToNat] at ho3; rw [← Ny945.out] at ho3)); have n0_ := Aside0.mk (Kd.R_lower ho3 (below_size (by repeat (first | (with_reducible first | exact HB.out | apply below_alloc | apply pw_below_drewN | apply below_drew1) | exact HB.out)))); have n1_ := Aside0.mk (below_step (by repeat (first | (with_reducible first | exact HB.out | apply below_alloc | apply pw_below_drewN | apply below_drew1) | exact HB.out)) hb); clear HB; have HO947 := n0_; have HB := n1_; clear n0_ n1_; clear hb ho3))
 go_loopg [3, 9] k (fun kq v3 v9 w' => ∃ (x3_1 : List ByteArray) (x9_1 : Int), v9 = .int .i64 x9_1 ∧ Aside0 (impl_rowTexts.l0 kq x3_1 l0 (l0.length : Int) x9_1 = some r) ∧ Aside0 (kq ≤ k) ∧ Aside0 (Kd.R Kd.string 9 w' w.heap.size (fun _ => True) v3 x3_1) ∧ Aside0 (Below w.heap.size w w'))
 case atStart => exact ⟨(y945), (0), (by first | rfl | (simp; done) | (simp [*]; done)), H', ⟨Nat.le_refl _⟩, ⟨by (with_reducible repeat (first | apply Kd.R_alloc | apply Kd.R_drewN | apply Kd.R_drew)); exact HO947.out⟩, ⟨by repeat (first | (with_reducible first | exact HB.out | apply below_alloc | apply pw_below_drewN | apply below_drew1) | exact HB.out)⟩⟩
 case round =>
  clear H'
  try clear c1
  try clear p2
  obtain ⟨x3_1, x9_1, rfl, HA, HK1, HO_3, HB⟩ := hrel
  cases gk with
  | zero => exact absurd HA.out (by simp [impl_rowTexts.l0])
  | succ k1 =>
   have H := HA.out
   clear HA
   simp only [impl_rowTexts.l0] at H
   by_cases c4 : x9_1 < (l0.length : Int)
   ·rw [if_pos c4] at H
    have c4b0 : decide (x9_1 < (l0.length : Int)) = true := decide_eq_true c4
    clear c4
    by_cases c5 : 0 ≤ x9_1
    ·rw [if_pos c5] at H
     have c5b0 : decide (0 ≤ x9_1) = true := decide_eq_true c5
     clear c5
     by_cases c6 : x9_1 < (l0.length : Int)
     ·rw [if_pos c6] at H
      have c6b0 : decide (x9_1 < (l0.length : Int)) = true := decide_eq_true c6
      clear c6
      replace H := Option.bind_eq_some_iff.mp H
      obtain ⟨t950, A70, H⟩ := H
      replace H : (if x3_1.length < 8796093022208 then (impl_rowTexts.l0 k1 (x3_1 ++ [t950]) l0 (l0.length : Int) (wrap64 (x9_1 + 1))) else (none)) = some r := H
      have A7 := Aside0.mk A70
      clear A70
      by_cases c8 : x3_1.length < 8796093022208
      ·rw [if_pos c8] at H
       have LMc8 := Aside0.mk c8
       clear c8
       obtain ⟨y951, hy951⟩ : ∃ y_ : List ByteArray, y_ = (x3_1 ++ [t950]) := ⟨_, rfl⟩
       replace H : (impl_rowTexts.l0 k1 y951 l0 (l0.length : Int) (wrap64 (x9_1 + 1))) = some r := by first | (rw [hy951]; with_reducible exact H) | (have H2_ := (Option.bind_some _ _).symm.trans H; rw [hy951]; with_reducible exact H2_) | (have H2_ := (Option.bind_some _ _).symm.trans H; with_reducible exact H2_) | with_reducible exact H | (rw [hy951]; exact H) | exact H
       have Ny951 := Aside0.mk hy951
       clear hy951
       have H' := Aside0.mk H
       clear H
       have p948 : 0 ≤ (x9_1 : Int) := of_decide_eq_true (by first | (with_reducible assumption) | assumption)
       have q948 : x9_1 < (l0.length : Int) := of_decide_eq_true (by first | (with_reducible assumption) | assumption)
       obtain ⟨ad948, e948, hx948_0, hx948_1, hx948_2⟩ := at_T75 HR0.out x9_1 p948 q948
       cases e948
       replace hx948_0 := (HB.out.cell (World.block_lt_of_cell? w _ hx948_0)).trans hx948_0
       replace hx948_1 := (HB.out.cell (World.block_lt_of_cell? w _ hx948_1)).trans hx948_1
       replace hx948_2 := (HB.out.cell (World.block_lt_of_cell? w _ hx948_2)).trans hx948_2
       replace p948 := eq_true p948
       replace q948 := eq_true q948
       go_wp2_with (first | ((with_reducible refine gate_dst (N := 5) rfl ?_); refine box_event ?hg (N := 5) ?hd (cs := #[.int .i64 0, .int .i64 0, .int .i64 0]) (t := 75) ?hr ?_; (case hd => rfl); (case hg => rfl); (case hr => first | (go_simp; done) | (go_simp; rfl)); intro gb949 hg w9 hbox hb; have n0_ := Aside0.mk (Kd.R_below (by (with_reducible repeat (first | apply Kd.R_alloc | apply Kd.R_drewN | apply Kd.R_drew)); exact HO_3.out) hb); have n1_ := Aside0.mk (below_step (by repeat (first | (with_reducible first | exact HB.out | apply below_alloc | apply pw_below_drewN | apply below_drew1) | exact HB.out)) hb); have n2_ := Aside0.mk (hbox); have n3_ := Aside0.mk ((by rw [hg]; exact (below_size (by repeat (first | (with_reducible first | exact HB.out | apply below_alloc | apply pw_below_drewN | apply below_drew1) | exact HB.out))) : w.heap.size ≤ gb949)); have n4_ := Aside0.mk ((by rw [hg]; exact (below_size (by repeat (first | (with_reducible first | exact HB.out | apply below_alloc | apply pw_below_drewN | apply below_drew1) | exact HB.out))) : w.heap.size ≤ gb949)); clear HO_3; clear HB; have HO_3 := n0_; have HB := n1_; have BK949 := n2_; have GW949 := n3_; have GE949 := n4_; clear n0_ n1_ n2_ n3_ n4_; clear hb hbox hg; obtain ⟨hcz10_0, hcz10_1, hcz10_2⟩ := cells_3 BK949.out; obtain ⟨hfz10_0, hfz10_1, hfz10_2⟩ := frz_3 BK949.out) | ((with_reducible refine gate_callee (f := 80) rfl ?_); refine goesL_ (some 15) rfl rfl Try.func80 (by kernel_rfl) rfl #[.agg #[.int .i64 ((rd_T75 l0 x9_1).f0), .int .i64 ((rd_T75 l0 x9_1).f1), .int .i64 ((rd_T75 l0 x9_1).f2)]] rfl (by (try simp only [List.map_toArray, List.map_cons, List.map_nil]); first | done | rfl | (simp only [List.length_drop, List.length_take]; rfl)) ?_; (with_reducible refine (impl_FormatRow.calls k1 ((rd_T75 l0 x9_1).f0) ((rd_T75 l0 x9_1).f1) ((rd_T75 l0 x9_1).f2) t950 _ A7.out).mono ?_); rintro e w11 ⟨rfl, hb⟩; refine ⟨_, rfl, ?_⟩; have n0_ := Aside0.mk (Kd.R_below (by (with_reducible repeat (first | apply Kd.R_alloc | apply Kd.R_drewN | apply Kd.R_drew)); exact (Kd.R_mono (Kd.R_far (p := ⟨gb949, 2, none⟩) (Kd.R_far (p := ⟨gb949, 1, none⟩) (Kd.R_far (p := ⟨gb949, 0, none⟩) (Kd.R_types HO_3.out BK949.out (by decide)) (fun _ hk => hk.2) (.int .i64 ((rd_T75 l0 x9_1).f0))) (fun _ hk => hk.2) (.int .i64 ((rd_T75 l0 x9_1).f1))) (fun _ hk => hk.2) (.int .i64 ((rd_T75 l0 x9_1).f2))) (fun _ h_ => h_.1))) hb); have n1_ := Aside0.mk (blk_below (g := gb949) (o := .cells #[.int .i64 ((rd_T75 l0 x9_1).f0), .int .i64 ((rd_T75 l0 x9_1).f1), .int .i64 ((rd_T75 l0 x9_1).f2)] 75 (0, 0)) (by (with_reducible repeat (first | refine blk_drewN ?_ _ | refine blk_drew ?_ | refine blk_alloc ?_ _)); refine blk_put (cs := #[.int .i64 ((rd_T75 l0 x9_1).f0), .int .i64 ((rd_T75 l0 x9_1).f1), .int .i64 0]) ?_ 2 _ rfl; (with_reducible repeat (first | refine blk_drewN ?_ _ | refine blk_drew ?_ | refine blk_alloc ?_ _)); refine blk_put (cs := #[.int .i64 ((rd_T75 l0 x9_1).f0), .int .i64 0, .int .i64 0]) ?_ 1 _ rfl; (with_reducible repeat (first | refine blk_drewN ?_ _ | refine blk_drew ?_ | refine blk_alloc ?_ _)); refine blk_put (cs := #[.int .i64 0, .int .i64 0, .int .i64 0]) ?_ 0 _ rfl; (with_reducible repeat (first | refine blk_drewN ?_ _ | refine blk_drew ?_ | refine blk_alloc ?_ _)); exact BK949.out) hb); have n2_ := Aside0.mk (below_step (by repeat (first | (with_reducible first | exact HB.out | apply below_alloc | apply pw_below_drewN | apply below_drew1 | refine below_set ?_ GE949.out) | exact HB.out)) hb); clear HO_3; clear BK949; clear HB; have HO_3 := n0_; have BK949 := n1_; have HB := n2_; clear n0_ n1_ n2_; (try clear hb); (try clear hb2); (try clear hk); (try clear hi)) | ((with_reducible refine gate_builtin (b := .append) (xs := #[.tmp 13, .tmp 16]) rfl ?_); at_builtin; refine Kd.R_append Kd.string (w0 := w) w.heap.size rfl (.tmp 13) (.tmp 16) 84 9 (.string ⟨#[]⟩) 16 rfl Try.underlying84 info9 rfl (by decide) (by omega) u3 x3_1 t950 [.string t950] (fun _ => True) (fun _ => False) rfl rfl ?aP (fun _ hk => hk.elim) ?aF ?aO ?aB ?aS ?aL ?_; (case aP => exact rfl); (case aB => exact (by repeat (first | (with_reducible first | exact HB.out | apply below_alloc | apply pw_below_drewN | apply below_drew1 | refine below_set ?_ GE949.out) | exact HB.out))); (case aF => exact (fun _ _ => trivial)); (case aO => exact (by (with_reducible repeat (first | apply Kd.R_alloc | apply Kd.R_drewN | apply Kd.R_drew)); exact HO_3.out)); (case aS => exact (below_size (by repeat (first | (with_reducible first | exact HB.out | apply below_alloc | apply pw_below_drewN | apply below_drew1 | refine below_set ?_ GE949.out) | exact HB.out)))); (case aL => have := LMc8.out; omega); intro v952 w12 ho hb hg hat; rw [← Ny951.out] at ho; have n0_ := Aside0.mk (blk_grown (g := gb949) (o := .cells #[.int .i64 ((rd_T75 l0 x9_1).f0), .int .i64 ((rd_T75 l0 x9_1).f1), .int .i64 ((rd_T75 l0 x9_1).f2)] 75 (0, 0)) (by (with_reducible repeat (first | refine blk_drewN ?_ _ | refine blk_drew ?_ | refine blk_alloc ?_ _)); exact BK949.out) hg (Kd.R_ne HO_3.out BK949.out (by decide))); have n1_ := Aside0.mk (hb); have n2_ := Aside0.mk (ho); clear BK949; clear HB; clear HO_3; have BK949 := n0_; have HB := n1_; have HO953 := n2_; clear n0_ n1_ n2_; clear ho hb hg hat))
       go_roundg k1
       case measure => have := HK1.out; omega
       case rel => exact ⟨(y951), (wrap64 (x9_1 + 1)), (by first | rfl | (simp; done) | (simp [*]; done)), H', ⟨by have := HK1.out; omega⟩, ⟨by (with_reducible repeat (first | apply Kd.R_alloc | apply Kd.R_drewN | apply Kd.R_drew)); exact HO953.out⟩, ⟨by repeat (first | (with_reducible first | exact HB.out | apply below_alloc | apply pw_below_drewN | apply below_drew1 | refine below_set ?_ GE949.out) | exact HB.out)⟩⟩
      ·rw [if_neg c8] at H
       exact absurd H (by simp)
     ·rw [if_neg c6] at H
      exact absurd H (by simp)
    ·rw [if_neg c5] at H
     exact absurd H (by simp)
   ·rw [if_neg c4] at H
    have c4b0 : decide (x9_1 < (l0.length : Int)) = false := decide_eq_false c4
    clear c4
    replace H := Option.bind_eq_some_iff.mp H
    obtain ⟨t954, A130, H⟩ := H
    replace H : (some t954) = some r := H
    have A13 := Aside0.mk A130
    clear A130
    obtain rfl := Option.some.inj H
    obtain ⟨Ao14, co14, eo14⟩ := Kd.R_slice HO_3.out
    subst eo14
    go_wp2_with (first | ((with_reducible refine gate_callee (f := 71) rfl ?_); refine goesL_ (some 20) rfl rfl Try.func71 (by kernel_rfl) rfl #[.slice Ao14 x3_1.length co14, .string (⟨#[32]⟩ : ByteArray)] rfl (by (try simp only [List.map_toArray, List.map_cons, List.map_nil]); first | done | rfl | (simp only [List.length_drop, List.length_take]; rfl)) ?_; (with_reducible refine (impl_joined.calls k1 _ _ x3_1 (⟨#[32]⟩ : ByteArray) t954 _ ?side1 ?side2 A13.out).mono ?_); (case side1 => repeat (first | exact (Kd.R_reads' HO_3.out).2.2 | (with_reducible refine Kd.C_alloc ?_ _) | (with_reducible refine Kd.C_drewN ?_ _) | (with_reducible refine Kd.C_drew ?_))); (case side2 => exact (Kd.R_reads' HO_3.out).2.1); rintro e w' ⟨rfl, ⟨nd, rfl⟩⟩; refine ⟨_, rfl, ?_⟩))
    go_ret
    exact ⟨by first | rfl | (simp [errW_none, errW_some] <;> rfl) | (simp [*, errW_none, errW_some] <;> rfl), by repeat (first | (with_reducible first | exact HB.out | apply below_alloc | apply pw_below_drewN | apply below_drew1) | exact HB.out)⟩
def impl_FormatRows.f (k : Nat) (l0 : List (S75)) : Option (ByteArray) := (impl_AreValidRows.f k l0).bind fun t955 => (if t955 = true then ((impl_rowTexts.f k l0).bind fun t956 => (some t956)) else (some (⟨#[]⟩ : ByteArray)))
set_option maxHeartbeats 8000000 in
set_option maxRecDepth 100000 in
theorem impl_FormatRows.calls (k : Nat) (A0 : Option Addr) (c0 : Nat) (l0 : List (S75)) (r : ByteArray) (w : World) (hr0 : Kd.C k75 w A0 l0.length l0) (hc0 : l0.length ≤ c0) (h : impl_FormatRows.f k l0 = some r) :
  Calls Try.prog 94 #[.slice A0 l0.length c0] w fun e w' => e = .returned (.string r) ∧ Below w.heap.size w w' := by
 have HR0 := Aside0.mk hr0
 have HC0 := Aside0.mk hc0
 clear hr0 hc0
 have HB := Aside0.mk (Below.refl w.heap.size w)
 have H : ((impl_AreValidRows.f k l0).bind fun t955 => (if t955 = true then ((impl_rowTexts.f k l0).bind fun t956 => (some t956)) else (some (⟨#[]⟩ : ByteArray)))) = some r := h
 clear h
 replace H := Option.bind_eq_some_iff.mp H
 obtain ⟨t955, A20, H⟩ := H
 replace H : (if t955 = true then ((impl_rowTexts.f k l0).bind fun t956 => (some t956)) else (some (⟨#[]⟩ : ByteArray))) = some r := H
 have A2 := Aside0.mk A20
 clear A20
 by_cases c3 : t955 = true
 ·subst c3
  have H1 : ((impl_rowTexts.f k l0).bind fun t956 => (some t956)) = some r := by rw [if_pos rfl] at H; exact H
  clear H
  have H := H1
  clear H1
  replace H := Option.bind_eq_some_iff.mp H
  obtain ⟨t956, A40, H⟩ := H
  replace H : (some t956) = some r := H
  have A4 := Aside0.mk A40
  clear A40
  obtain rfl := Option.some.inj H
  go_enter Try.func94, Try.ntmps94
  go_wp2_with (first | ((with_reducible refine gate_callee (f := 85) rfl ?_); refine goesL_ (some 4) rfl rfl Try.func85 (by kernel_rfl) rfl #[.slice A0 l0.length c0] rfl (by (try simp only [List.map_toArray, List.map_cons, List.map_nil]); first | done | rfl | (simp only [List.length_drop, List.length_take]; rfl)) ?_; (with_reducible refine (impl_AreValidRows.calls k _ _ l0 true _ ?side1 ?side2 A2.out).mono ?_); (case side1 => repeat (first | exact HR0.out | (with_reducible refine Kd.C_alloc ?_ _) | (with_reducible refine Kd.C_drewN ?_ _) | (with_reducible refine Kd.C_drew ?_))); (case side2 => exact HC0.out); rintro e w5 ⟨rfl, hb⟩; refine ⟨_, rfl, ?_⟩; have n0_ := Aside0.mk (below_step (by repeat (first | (with_reducible first | exact HB.out | apply below_alloc | apply pw_below_drewN | apply below_drew1) | exact HB.out)) hb); clear HB; have HB := n0_; clear n0_; (try clear hb); (try clear hb2); (try clear hk); (try clear hi)) | ((with_reducible refine gate_callee (f := 106) rfl ?_); refine goesL_ (some 7) rfl rfl Try.func106 (by kernel_rfl) rfl #[.slice A0 l0.length c0] rfl (by (try simp only [List.map_toArray, List.map_cons, List.map_nil]); first | done | rfl | (simp only [List.length_drop, List.length_take]; rfl)) ?_; (with_reducible refine (impl_rowTexts.calls k _ _ l0 t956 _ ?side1 ?side2 A4.out).mono ?_); (case side1 => repeat (first | exact (Kd.C_below HR0.out HB.out) | (with_reducible refine Kd.C_alloc ?_ _) | (with_reducible refine Kd.C_drewN ?_ _) | (with_reducible refine Kd.C_drew ?_))); (case side2 => exact HC0.out); rintro e w6 ⟨rfl, hb⟩; refine ⟨_, rfl, ?_⟩; have n0_ := Aside0.mk (below_step (by repeat (first | (with_reducible first | exact HB.out | apply below_alloc | apply pw_below_drewN | apply below_drew1) | exact HB.out)) hb); clear HB; have HB := n0_; clear n0_; (try clear hb); (try clear hb2); (try clear hk); (try clear hi)))
  go_ret
  exact ⟨by first | rfl | (simp [errW_none, errW_some] <;> rfl) | (simp [*, errW_none, errW_some] <;> rfl), by repeat (first | (with_reducible first | exact HB.out | apply below_alloc | apply pw_below_drewN | apply below_drew1) | exact HB.out)⟩
 ·replace c3 := Bool.eq_false_iff.mpr c3
  subst c3
  have H1 : (some (⟨#[]⟩ : ByteArray)) = some r := by rw [if_neg (show ¬ (false = true) by decide)] at H; exact H
  clear H
  have H := H1
  clear H1
  obtain rfl := Option.some.inj H
  go_enter Try.func94, Try.ntmps94
  go_wp2_with (first | ((with_reducible refine gate_callee (f := 85) rfl ?_); refine goesL_ (some 4) rfl rfl Try.func85 (by kernel_rfl) rfl #[.slice A0 l0.length c0] rfl (by (try simp only [List.map_toArray, List.map_cons, List.map_nil]); first | done | rfl | (simp only [List.length_drop, List.length_take]; rfl)) ?_; (with_reducible refine (impl_AreValidRows.calls k _ _ l0 false _ ?side1 ?side2 A2.out).mono ?_); (case side1 => repeat (first | exact HR0.out | (with_reducible refine Kd.C_alloc ?_ _) | (with_reducible refine Kd.C_drewN ?_ _) | (with_reducible refine Kd.C_drew ?_))); (case side2 => exact HC0.out); rintro e w7 ⟨rfl, hb⟩; refine ⟨_, rfl, ?_⟩; have n0_ := Aside0.mk (below_step (by repeat (first | (with_reducible first | exact HB.out | apply below_alloc | apply pw_below_drewN | apply below_drew1) | exact HB.out)) hb); clear HB; have HB := n0_; clear n0_; (try clear hb); (try clear hb2); (try clear hk); (try clear hi)))
  go_ret
  exact ⟨by first | rfl | (simp [errW_none, errW_some] <;> rfl) | (simp [*, errW_none, errW_some] <;> rfl), by repeat (first | (with_reducible first | exact HB.out | apply below_alloc | apply pw_below_drewN | apply below_drew1) | exact HB.out)⟩
def impl_FormatRuns.l0 : Nat → List ByteArray → List (S93) → Int → Int → Option (ByteArray)
 | 0, _, _, _, _ => none
 | k + 1, x3, x7, x8, x9 => if x9 < x8 then (if 0 ≤ x9 then (if x9 < (x7.length : Int) then ((impl_FormatRows.f k ((rd_T93 x7 x9).f0)).bind fun t962 => (if x3.length < 8796093022208 then (impl_FormatRuns.l0 k (x3 ++ [t962]) x7 x8 (wrap64 (x9 + 1))) else (none))) else (none)) else (none)) else ((impl_joined.f k x3 (⟨#[124]⟩ : ByteArray)).bind fun t966 => (some t966))
def impl_FormatRuns.f (k : Nat) (l0 : List (S93)) : Option (ByteArray) := impl_FormatRuns.l0 k (([] : List ByteArray)) l0 (l0.length : Int) 0
set_option maxHeartbeats 8000000 in
set_option maxRecDepth 100000 in
theorem impl_FormatRuns.calls (k : Nat) (A0 : Option Addr) (c0 : Nat) (l0 : List (S93)) (r : ByteArray) (w : World) (hr0 : Kd.C k93 w A0 l0.length l0) (hc0 : l0.length ≤ c0) (h : impl_FormatRuns.f k l0 = some r) :
  Calls Try.prog 56 #[.slice A0 l0.length c0] w fun e w' => e = .returned (.string r) ∧ Below w.heap.size w w' := by
 have hu93 := Try.underlying93
 have HR0 := Aside0.mk hr0
 have HC0 := Aside0.mk hc0
 clear hr0 hc0
 have HB := Aside0.mk (Below.refl w.heap.size w)
 have H : (impl_FormatRuns.l0 k (([] : List ByteArray)) l0 (l0.length : Int) 0) = some r := h
 clear h
 obtain ⟨y957, hy957⟩ : ∃ y_ : List ByteArray, y_ = (([] : List ByteArray)) := ⟨_, rfl⟩
 replace H : (impl_FormatRuns.l0 k y957 l0 (l0.length : Int) 0) = some r := by first | (rw [hy957]; with_reducible exact H) | (have H2_ := (Option.bind_some _ _).symm.trans H; rw [hy957]; with_reducible exact H2_) | (have H2_ := (Option.bind_some _ _).symm.trans H; with_reducible exact H2_) | with_reducible exact H | (rw [hy957]; exact H) | exact H
 have Ny957 := Aside0.mk hy957
 clear hy957
 have H' := Aside0.mk H
 clear H
 go_enter Try.func56, Try.ntmps56
 go_wp2_with (first | ((with_reducible refine gate_dst (N := 6) rfl ?_); refine Kd.R_lit Kd.string _ 9 ?hg (N := 6) ?hd (xs := ([] : List ByteArray)) (inner := []) (ok := fun _ => True) (okp := fun _ => True) ?hr ?hp (fun _ hk => hk) trivial (Below.refl _ _) (Nat.le_refl _) (by simp) ?_; (case hd => rfl); (case hg => rfl); (case hr => first | (go_simp; done) | (go_simp; rfl)); (case hp => exact (Reps.none _ _)); intro v958 w2 ho3 hb hg_ hnew_; clear hg_ hnew_; (first | rw [← Ny957.out] at ho3 | (simp only [Int.reduceToNat] at ho3; rw [← Ny957.out] at ho3)); have n0_ := Aside0.mk (Kd.R_lower ho3 (below_size (by repeat (first | (with_reducible first | exact HB.out | apply below_alloc | apply pw_below_drewN | apply below_drew1) | exact HB.out)))); have n1_ := Aside0.mk (below_step (by repeat (first | (with_reducible first | exact HB.out | apply below_alloc | apply pw_below_drewN | apply below_drew1) | exact HB.out)) hb); clear HB; have HO959 := n0_; have HB := n1_; clear n0_ n1_; clear hb ho3))
 go_loopg [3, 9] k (fun kq v3 v9 w' => ∃ (x3_1 : List ByteArray) (x9_1 : Int), v9 = .int .i64 x9_1 ∧ Aside0 (impl_FormatRuns.l0 kq x3_1 l0 (l0.length : Int) x9_1 = some r) ∧ Aside0 (kq ≤ k) ∧ Aside0 (Kd.R Kd.string 9 w' w.heap.size (fun _ => True) v3 x3_1) ∧ Aside0 (Below w.heap.size w w'))
 case atStart => exact ⟨(y957), (0), (by first | rfl | (simp; done) | (simp [*]; done)), H', ⟨Nat.le_refl _⟩, ⟨by (with_reducible repeat (first | apply Kd.R_alloc | apply Kd.R_drewN | apply Kd.R_drew)); exact HO959.out⟩, ⟨by repeat (first | (with_reducible first | exact HB.out | apply below_alloc | apply pw_below_drewN | apply below_drew1) | exact HB.out)⟩⟩
 case round =>
  clear H'
  try clear p2
  obtain ⟨x3_1, x9_1, rfl, HA, HK1, HO_3, HB⟩ := hrel
  cases gk with
  | zero => exact absurd HA.out (by simp [impl_FormatRuns.l0])
  | succ k1 =>
   have H := HA.out
   clear HA
   simp only [impl_FormatRuns.l0] at H
   by_cases c4 : x9_1 < (l0.length : Int)
   ·rw [if_pos c4] at H
    have c4b0 : decide (x9_1 < (l0.length : Int)) = true := decide_eq_true c4
    clear c4
    by_cases c5 : 0 ≤ x9_1
    ·rw [if_pos c5] at H
     have c5b0 : decide (0 ≤ x9_1) = true := decide_eq_true c5
     clear c5
     by_cases c6 : x9_1 < (l0.length : Int)
     ·rw [if_pos c6] at H
      have c6b0 : decide (x9_1 < (l0.length : Int)) = true := decide_eq_true c6
      clear c6
      replace H := Option.bind_eq_some_iff.mp H
      obtain ⟨t962, A70, H⟩ := H
      replace H : (if x3_1.length < 8796093022208 then (impl_FormatRuns.l0 k1 (x3_1 ++ [t962]) l0 (l0.length : Int) (wrap64 (x9_1 + 1))) else (none)) = some r := H
      have A7 := Aside0.mk A70
      clear A70
      by_cases c8 : x3_1.length < 8796093022208
      ·rw [if_pos c8] at H
       have LMc8 := Aside0.mk c8
       clear c8
       obtain ⟨y963, hy963⟩ : ∃ y_ : List ByteArray, y_ = (x3_1 ++ [t962]) := ⟨_, rfl⟩
       replace H : (impl_FormatRuns.l0 k1 y963 l0 (l0.length : Int) (wrap64 (x9_1 + 1))) = some r := by first | (rw [hy963]; with_reducible exact H) | (have H2_ := (Option.bind_some _ _).symm.trans H; rw [hy963]; with_reducible exact H2_) | (have H2_ := (Option.bind_some _ _).symm.trans H; with_reducible exact H2_) | with_reducible exact H | (rw [hy963]; exact H) | exact H
       have Ny963 := Aside0.mk hy963
       clear hy963
       have H' := Aside0.mk H
       clear H
       have p960 : 0 ≤ (x9_1 : Int) := of_decide_eq_true (by first | (with_reducible assumption) | assumption)
       have q960 : x9_1 < (l0.length : Int) := of_decide_eq_true (by first | (with_reducible assumption) | assumption)
       obtain ⟨ad960, A960_0, c960_0, e960, hx960_0, hl960_0, hi960_0⟩ := at_T93 HR0.out x9_1 p960 q960
       cases e960
       replace hx960_0 := (HB.out.cell (World.block_lt_of_cell? w _ hx960_0)).trans hx960_0
       have HR960_0 := Aside0.mk hi960_0
       have HC960_0 := Aside0.mk hl960_0
       clear hi960_0 hl960_0
       replace p960 := eq_true p960
       replace q960 := eq_true q960
       go_wp2_with (first | ((with_reducible refine gate_dst (N := 5) rfl ?_); refine box_event ?hg (N := 5) ?hd (cs := #[.slice none 0 0]) (t := 93) ?hr ?_; (case hd => rfl); (case hg => rfl); (case hr => first | (go_simp; done) | (go_simp; rfl)); intro gb961 hg w9 hbox hb; have n0_ := Aside0.mk (Kd.R_below (by (with_reducible repeat (first | apply Kd.R_alloc | apply Kd.R_drewN | apply Kd.R_drew)); exact HO_3.out) hb); have n1_ := Aside0.mk (below_step (by repeat (first | (with_reducible first | exact HB.out | apply below_alloc | apply pw_below_drewN | apply below_drew1) | exact HB.out)) hb); have n2_ := Aside0.mk (hbox); have n3_ := Aside0.mk ((by rw [hg]; exact (below_size (by repeat (first | (with_reducible first | exact HB.out | apply below_alloc | apply pw_below_drewN | apply below_drew1) | exact HB.out))) : w.heap.size ≤ gb961)); have n4_ := Aside0.mk ((by rw [hg]; exact (below_size (by repeat (first | (with_reducible first | exact HB.out | apply below_alloc | apply pw_below_drewN | apply below_drew1) | exact HB.out))) : w.heap.size ≤ gb961)); clear HO_3; clear HB; have HO_3 := n0_; have HB := n1_; have BK961 := n2_; have GW961 := n3_; have GE961 := n4_; clear n0_ n1_ n2_ n3_ n4_; clear hb hbox hg; have hcz10_0 : w9.cell? ⟨gb961, 0, none⟩ = some (.slice none 0 0) := (blk_cell BK961.out 0).trans rfl; have hfz10_0 := blk_frozen BK961.out 0) | ((with_reducible refine gate_callee (f := 94) rfl ?_); refine goesL_ (some 16) rfl rfl Try.func94 (by kernel_rfl) rfl #[.slice A960_0 ((rd_T93 l0 x9_1).f0).length c960_0] rfl (by (try simp only [List.map_toArray, List.map_cons, List.map_nil]); first | done | rfl | (simp only [List.length_drop, List.length_take]; rfl)) ?_; (with_reducible refine (impl_FormatRows.calls k1 _ _ ((rd_T93 l0 x9_1).f0) t962 _ ?side1 ?side2 A7.out).mono ?_); (case side1 => exact Kd.C_below HR960_0.out (by repeat (first | (with_reducible first | exact HB.out | apply below_alloc | apply pw_below_drewN | apply below_drew1 | refine below_set ?_ GE961.out) | exact HB.out))); (case side2 => exact HC960_0.out); rintro e w11 ⟨rfl, hb⟩; refine ⟨_, rfl, ?_⟩; have n0_ := Aside0.mk (Kd.R_below (by (with_reducible repeat (first | apply Kd.R_alloc | apply Kd.R_drewN | apply Kd.R_drew)); exact (Kd.R_mono (Kd.R_far (p := ⟨gb961, 0, none⟩) (Kd.R_types HO_3.out BK961.out (by decide)) (fun _ hk => hk.2) (.slice A960_0 ((rd_T93 l0 x9_1).f0).length c960_0)) (fun _ h_ => h_.1))) hb); have n1_ := Aside0.mk (blk_below (g := gb961) (o := .cells #[.slice A960_0 ((rd_T93 l0 x9_1).f0).length c960_0] 93 (0, 0)) (by (with_reducible repeat (first | refine blk_drewN ?_ _ | refine blk_drew ?_ | refine blk_alloc ?_ _)); refine blk_put (cs := #[.slice none 0 0]) ?_ 0 _ rfl; (with_reducible repeat (first | refine blk_drewN ?_ _ | refine blk_drew ?_ | refine blk_alloc ?_ _)); exact BK961.out) hb); have n2_ := Aside0.mk (below_step (by repeat (first | (with_reducible first | exact HB.out | apply below_alloc | apply pw_below_drewN | apply below_drew1 | refine below_set ?_ GE961.out) | exact HB.out)) hb); clear HO_3; clear BK961; clear HB; have HO_3 := n0_; have BK961 := n1_; have HB := n2_; clear n0_ n1_ n2_; (try clear hb); (try clear hb2); (try clear hk); (try clear hi)) | ((with_reducible refine gate_builtin (b := .append) (xs := #[.tmp 13, .tmp 17]) rfl ?_); at_builtin; refine Kd.R_append Kd.string (w0 := w) w.heap.size rfl (.tmp 13) (.tmp 17) 84 9 (.string ⟨#[]⟩) 16 rfl Try.underlying84 info9 rfl (by decide) (by omega) u3 x3_1 t962 [.string t962] (fun _ => True) (fun _ => False) rfl rfl ?aP (fun _ hk => hk.elim) ?aF ?aO ?aB ?aS ?aL ?_; (case aP => exact rfl); (case aB => exact (by repeat (first | (with_reducible first | exact HB.out | apply below_alloc | apply pw_below_drewN | apply below_drew1 | refine below_set ?_ GE961.out) | exact HB.out))); (case aF => exact (fun _ _ => trivial)); (case aO => exact (by (with_reducible repeat (first | apply Kd.R_alloc | apply Kd.R_drewN | apply Kd.R_drew)); exact HO_3.out)); (case aS => exact (below_size (by repeat (first | (with_reducible first | exact HB.out | apply below_alloc | apply pw_below_drewN | apply below_drew1 | refine below_set ?_ GE961.out) | exact HB.out)))); (case aL => have := LMc8.out; omega); intro v964 w12 ho hb hg hat; rw [← Ny963.out] at ho; have n0_ := Aside0.mk (blk_grown (g := gb961) (o := .cells #[.slice A960_0 ((rd_T93 l0 x9_1).f0).length c960_0] 93 (0, 0)) (by (with_reducible repeat (first | refine blk_drewN ?_ _ | refine blk_drew ?_ | refine blk_alloc ?_ _)); exact BK961.out) hg (Kd.R_ne HO_3.out BK961.out (by decide))); have n1_ := Aside0.mk (hb); have n2_ := Aside0.mk (ho); clear BK961; clear HB; clear HO_3; have BK961 := n0_; have HB := n1_; have HO965 := n2_; clear n0_ n1_ n2_; clear ho hb hg hat))
       go_roundg k1
       case measure => have := HK1.out; omega
       case rel => exact ⟨(y963), (wrap64 (x9_1 + 1)), (by first | rfl | (simp; done) | (simp [*]; done)), H', ⟨by have := HK1.out; omega⟩, ⟨by (with_reducible repeat (first | apply Kd.R_alloc | apply Kd.R_drewN | apply Kd.R_drew)); exact HO965.out⟩, ⟨by repeat (first | (with_reducible first | exact HB.out | apply below_alloc | apply pw_below_drewN | apply below_drew1 | refine below_set ?_ GE961.out) | exact HB.out)⟩⟩
      ·rw [if_neg c8] at H
       exact absurd H (by simp)
     ·rw [if_neg c6] at H
      exact absurd H (by simp)
    ·rw [if_neg c5] at H
     exact absurd H (by simp)
   ·rw [if_neg c4] at H
    have c4b0 : decide (x9_1 < (l0.length : Int)) = false := decide_eq_false c4
    clear c4
    replace H := Option.bind_eq_some_iff.mp H
    obtain ⟨t966, A130, H⟩ := H
    replace H : (some t966) = some r := H
    have A13 := Aside0.mk A130
    clear A130
    obtain rfl := Option.some.inj H
    obtain ⟨Ao14, co14, eo14⟩ := Kd.R_slice HO_3.out
    subst eo14
    go_wp2_with (first | ((with_reducible refine gate_callee (f := 71) rfl ?_); refine goesL_ (some 21) rfl rfl Try.func71 (by kernel_rfl) rfl #[.slice Ao14 x3_1.length co14, .string (⟨#[124]⟩ : ByteArray)] rfl (by (try simp only [List.map_toArray, List.map_cons, List.map_nil]); first | done | rfl | (simp only [List.length_drop, List.length_take]; rfl)) ?_; (with_reducible refine (impl_joined.calls k1 _ _ x3_1 (⟨#[124]⟩ : ByteArray) t966 _ ?side1 ?side2 A13.out).mono ?_); (case side1 => repeat (first | exact (Kd.R_reads' HO_3.out).2.2 | (with_reducible refine Kd.C_alloc ?_ _) | (with_reducible refine Kd.C_drewN ?_ _) | (with_reducible refine Kd.C_drew ?_))); (case side2 => exact (Kd.R_reads' HO_3.out).2.1); rintro e w' ⟨rfl, ⟨nd, rfl⟩⟩; refine ⟨_, rfl, ?_⟩))
    go_ret
    exact ⟨by first | rfl | (simp [errW_none, errW_some] <;> rfl) | (simp [*, errW_none, errW_some] <;> rfl), by repeat (first | (with_reducible first | exact HB.out | apply below_alloc | apply pw_below_drewN | apply below_drew1) | exact HB.out)⟩
end Go.Proofs.Ytngeppmincgebaa.P
end
section
namespace Go.Proofs.Ytngeppmincgebaa.P
open Go.RowKit Go.Proofs.YtngeppmincgebaaW.PrintWords Go.Proofs.YtngeppmincgebaaW.PrintLast Go.Proofs.YtngeppmincgebaaW.PrintMore
attribute [local go_sem] max2_int min2_int max_two min_two max_three min_three max_four min_four
set_option linter.unusedVariables false
set_option linter.unusedSimpArgs false
def laws_FnExactFormatRuns.f (k : Nat) (l0 : List (S91)) : Option (Bool) := (laws_szRunS.f k l0 1048576).bind fun t967 => (if t967 < 0 then (some true) else ((laws_toRunS.f k l0).bind fun t968 => ((spec_FormatRuns.f k t968).bind fun t971 => ((laws_toRunS.f k l0).bind fun t972 => ((impl_FormatRuns.f k t972).bind fun t975 => (if t975.toList = t971.toList then ((laws_toRunS.f k l0).bind fun t976 => ((laws_eqRunS.f k t972 t976).bind fun t979 => (if t979 = true then (some true) else (some false)))) else (some false)))))))
set_option maxHeartbeats 8000000 in
set_option maxRecDepth 100000 in
theorem laws_FnExactFormatRuns.calls (k : Nat) (A0 : Option Addr) (c0 : Nat) (l0 : List (S91)) (r : Bool) (w : World) (hr0 : Kd.C k91 w A0 l0.length l0) (hc0 : l0.length ≤ c0) (h : laws_FnExactFormatRuns.f k l0 = some r) (hr_ : r = true) :
  Calls Try.prog 12 #[.slice A0 l0.length c0] w fun e w' => e = .returned (.bool r) ∧ Below w.heap.size w w' := by
 have HR0 := Aside0.mk hr0
 have HC0 := Aside0.mk hc0
 clear hr0 hc0
 have HB := Aside0.mk (Below.refl w.heap.size w)
 have HR_ := Aside0.mk hr_
 clear hr_
 have H : ((laws_szRunS.f k l0 1048576).bind fun t967 => (if t967 < 0 then (some true) else ((laws_toRunS.f k l0).bind fun t968 => ((spec_FormatRuns.f k t968).bind fun t971 => ((laws_toRunS.f k l0).bind fun t972 => ((impl_FormatRuns.f k t972).bind fun t975 => (if t975.toList = t971.toList then ((laws_toRunS.f k l0).bind fun t976 => ((laws_eqRunS.f k t972 t976).bind fun t979 => (if t979 = true then (some true) else (some false)))) else (some false)))))))) = some r := h
 clear h
 replace H := Option.bind_eq_some_iff.mp H
 obtain ⟨t967, A20, H⟩ := H
 replace H : (if t967 < 0 then (some true) else ((laws_toRunS.f k l0).bind fun t968 => ((spec_FormatRuns.f k t968).bind fun t971 => ((laws_toRunS.f k l0).bind fun t972 => ((impl_FormatRuns.f k t972).bind fun t975 => (if t975.toList = t971.toList then ((laws_toRunS.f k l0).bind fun t976 => ((laws_eqRunS.f k t972 t976).bind fun t979 => (if t979 = true then (some true) else (some false)))) else (some false))))))) = some r := H
 have A2 := Aside0.mk A20
 clear A20
 by_cases c3 : t967 < 0
 ·rw [if_pos c3] at H
  have c3b0 : decide (t967 < 0) = true := decide_eq_true c3
  clear c3
  obtain rfl := Option.some.inj H
  go_enter Try.func12, Try.ntmps12
  go_wp2_with (first | ((with_reducible refine gate_callee (f := 29) rfl ?_); refine goesL_ (some 9) rfl rfl Try.func29 (by kernel_rfl) rfl #[.slice A0 l0.length c0, .int .i64 1048576] rfl (by (try simp only [List.map_toArray, List.map_cons, List.map_nil]); first | done | rfl | (simp only [List.length_drop, List.length_take]; rfl)) ?_; (with_reducible refine (laws_szRunS.calls k _ _ l0 1048576 t967 _ ?side1 ?side2 A2.out).mono ?_); (case side1 => repeat (first | exact HR0.out | (with_reducible refine Kd.C_alloc ?_ _) | (with_reducible refine Kd.C_drewN ?_ _) | (with_reducible refine Kd.C_drew ?_))); (case side2 => exact HC0.out); rintro e w4 ⟨rfl, hb⟩; refine ⟨_, rfl, ?_⟩; have n0_ := Aside0.mk (below_step (by repeat (first | (with_reducible first | exact HB.out | apply below_alloc | apply pw_below_drewN | apply below_drew1) | exact HB.out)) hb); clear HB; have HB := n0_; clear n0_; (try clear hb); (try clear hb2); (try clear hk); (try clear hi)))
  go_ret
  exact ⟨by first | rfl | (simp [errW_none, errW_some] <;> rfl) | (simp [*, errW_none, errW_some] <;> rfl), by repeat (first | (with_reducible first | exact HB.out | apply below_alloc | apply pw_below_drewN | apply below_drew1) | exact HB.out)⟩
 ·rw [if_neg c3] at H
  have c3b0 : decide (t967 < 0) = false := decide_eq_false c3
  clear c3
  replace H := Option.bind_eq_some_iff.mp H
  obtain ⟨t968, A50, H⟩ := H
  replace H : ((spec_FormatRuns.f k t968).bind fun t971 => ((laws_toRunS.f k l0).bind fun t972 => ((impl_FormatRuns.f k t972).bind fun t975 => (if t975.toList = t971.toList then ((laws_toRunS.f k l0).bind fun t976 => ((laws_eqRunS.f k t972 t976).bind fun t979 => (if t979 = true then (some true) else (some false)))) else (some false))))) = some r := H
  have A5 := Aside0.mk A50
  clear A50
  replace H := Option.bind_eq_some_iff.mp H
  obtain ⟨t971, A60, H⟩ := H
  replace H : ((laws_toRunS.f k l0).bind fun t972 => ((impl_FormatRuns.f k t972).bind fun t975 => (if t975.toList = t971.toList then ((laws_toRunS.f k l0).bind fun t976 => ((laws_eqRunS.f k t972 t976).bind fun t979 => (if t979 = true then (some true) else (some false)))) else (some false)))) = some r := H
  have A6 := Aside0.mk A60
  clear A60
  replace H := Option.bind_eq_some_iff.mp H
  obtain ⟨t972, A70, H⟩ := H
  replace H : ((impl_FormatRuns.f k t972).bind fun t975 => (if t975.toList = t971.toList then ((laws_toRunS.f k l0).bind fun t976 => ((laws_eqRunS.f k t972 t976).bind fun t979 => (if t979 = true then (some true) else (some false)))) else (some false))) = some r := H
  have A7 := Aside0.mk A70
  clear A70
  replace H := Option.bind_eq_some_iff.mp H
  obtain ⟨t975, A80, H⟩ := H
  replace H : (if t975.toList = t971.toList then ((laws_toRunS.f k l0).bind fun t976 => ((laws_eqRunS.f k t972 t976).bind fun t979 => (if t979 = true then (some true) else (some false)))) else (some false)) = some r := H
  have A8 := Aside0.mk A80
  clear A80
  by_cases c9 : t975.toList = t971.toList
  ·rw [if_pos c9] at H
   have c9b0 : (t975.toList == t971.toList) = true := beq_iff_eq.mpr c9
   have c9b1 : (t975.toList != t971.toList) = false := bne_eq_false_iff_eq.mpr c9
   clear c9
   replace H := Option.bind_eq_some_iff.mp H
   obtain ⟨t976, A100, H⟩ := H
   replace H : ((laws_eqRunS.f k t972 t976).bind fun t979 => (if t979 = true then (some true) else (some false))) = some r := H
   have A10 := Aside0.mk A100
   clear A100
   replace H := Option.bind_eq_some_iff.mp H
   obtain ⟨t979, A110, H⟩ := H
   replace H : (if t979 = true then (some true) else (some false)) = some r := H
   have A11 := Aside0.mk A110
   clear A110
   by_cases c12 : t979 = true
   ·subst c12
    have H1 : (some true) = some r := by rw [if_pos rfl] at H; exact H
    clear H
    have H := H1
    clear H1
    obtain rfl := Option.some.inj H
    go_enter Try.func12, Try.ntmps12
    go_wp2_with (first | ((with_reducible refine gate_callee (f := 29) rfl ?_); refine goesL_ (some 9) rfl rfl Try.func29 (by kernel_rfl) rfl #[.slice A0 l0.length c0, .int .i64 1048576] rfl (by (try simp only [List.map_toArray, List.map_cons, List.map_nil]); first | done | rfl | (simp only [List.length_drop, List.length_take]; rfl)) ?_; (with_reducible refine (laws_szRunS.calls k _ _ l0 1048576 t967 _ ?side1 ?side2 A2.out).mono ?_); (case side1 => repeat (first | exact HR0.out | (with_reducible refine Kd.C_alloc ?_ _) | (with_reducible refine Kd.C_drewN ?_ _) | (with_reducible refine Kd.C_drew ?_))); (case side2 => exact HC0.out); rintro e w13 ⟨rfl, hb⟩; refine ⟨_, rfl, ?_⟩; have n0_ := Aside0.mk (below_step (by repeat (first | (with_reducible first | exact HB.out | apply below_alloc | apply pw_below_drewN | apply below_drew1) | exact HB.out)) hb); clear HB; have HB := n0_; clear n0_; (try clear hb); (try clear hb2); (try clear hk); (try clear hi)) | ((with_reducible refine gate_callee (f := 31) rfl ?_); refine goesL_ (some 13) rfl rfl Try.func31 (by kernel_rfl) rfl #[.slice A0 l0.length c0] rfl (by (try simp only [List.map_toArray, List.map_cons, List.map_nil]); first | done | rfl | (simp only [List.length_drop, List.length_take]; rfl)) ?_; (with_reducible refine (laws_toRunS.calls k _ _ l0 t968 _ ?side1 ?side2 A5.out).mono ?_); (case side1 => repeat (first | exact (Kd.C_below HR0.out HB.out) | (with_reducible refine Kd.C_alloc ?_ _) | (with_reducible refine Kd.C_drewN ?_ _) | (with_reducible refine Kd.C_drew ?_))); (case side2 => exact HC0.out); rintro e w14 ⟨v969, rfl, ho0, hb⟩; refine ⟨_, rfl, ?_⟩; have n0_ := Aside0.mk (Kd.S_lower ho0 (below_size (by repeat (first | (with_reducible first | exact HB.out | apply below_alloc | apply pw_below_drewN | apply below_drew1) | exact HB.out)))); have n1_ := Aside0.mk (below_step (by repeat (first | (with_reducible first | exact HB.out | apply below_alloc | apply pw_below_drewN | apply below_drew1) | exact HB.out)) hb); clear HB; have HO970 := n0_; have HB := n1_; clear n0_ n1_; (try clear hb); (try clear hb2); (try clear hk); (try clear hi); (try clear ho0); obtain ⟨Ao15, co15, eo15⟩ := Kd.S_slice HO970.out; subst eo15) | ((with_reducible refine gate_callee (f := 55) rfl ?_); refine goesL_ (some 14) rfl rfl Try.func55 (by kernel_rfl) rfl #[.slice Ao15 t968.length co15] rfl (by (try simp only [List.map_toArray, List.map_cons, List.map_nil]); first | done | rfl | (simp only [List.length_drop, List.length_take]; rfl)) ?_; (with_reducible refine (spec_FormatRuns.calls k _ _ t968 t971 _ ?side1 ?side2 A6.out).mono ?_); (case side1 => repeat (first | exact (Kd.S_reads' HO970.out).2.2 | (with_reducible refine Kd.C_alloc ?_ _) | (with_reducible refine Kd.C_drewN ?_ _) | (with_reducible refine Kd.C_drew ?_))); (case side2 => exact (Kd.S_reads' HO970.out).2.1); rintro e w16 ⟨rfl, hb⟩; refine ⟨_, rfl, ?_⟩; have n0_ := Aside0.mk (Kd.S_below (by (with_reducible repeat (first | apply Kd.S_alloc | apply Kd.S_drewN | apply Kd.S_drew)); exact HO970.out) hb); have n1_ := Aside0.mk (below_step (by repeat (first | (with_reducible first | exact HB.out | apply below_alloc | apply pw_below_drewN | apply below_drew1) | exact HB.out)) hb); clear HO970; clear HB; have HO970 := n0_; have HB := n1_; clear n0_ n1_; (try clear hb); (try clear hb2); (try clear hk); (try clear hi)) | ((with_reducible refine gate_callee (f := 31) rfl ?_); refine goesL_ (some 16) rfl rfl Try.func31 (by kernel_rfl) rfl #[.slice A0 l0.length c0] rfl (by (try simp only [List.map_toArray, List.map_cons, List.map_nil]); first | done | rfl | (simp only [List.length_drop, List.length_take]; rfl)) ?_; (with_reducible refine (laws_toRunS.calls k _ _ l0 t972 _ ?side1 ?side2 A7.out).mono ?_); (case side1 => repeat (first | exact (Kd.C_below HR0.out HB.out) | (with_reducible refine Kd.C_alloc ?_ _) | (with_reducible refine Kd.C_drewN ?_ _) | (with_reducible refine Kd.C_drew ?_))); (case side2 => exact HC0.out); rintro e w17 ⟨v973, rfl, ho0, hb⟩; refine ⟨_, rfl, ?_⟩; have n0_ := Aside0.mk (Kd.S_elder' (by (with_reducible repeat (first | apply Kd.S_alloc | apply Kd.S_drewN | apply Kd.S_drew)); exact HO970.out) (Kd.S_base ho0) hb); have n1_ := Aside0.mk (Kd.S_lower (Kd.S_new' ho0 (Kd.S_lt (by (with_reducible repeat (first | apply Kd.S_alloc | apply Kd.S_drewN | apply Kd.S_drew)); exact HO970.out))) (below_size (by repeat (first | (with_reducible first | exact HB.out | apply below_alloc | apply pw_below_drewN | apply below_drew1) | exact HB.out)))); have n2_ := Aside0.mk (below_step (by repeat (first | (with_reducible first | exact HB.out | apply below_alloc | apply pw_below_drewN | apply below_drew1) | exact HB.out)) hb); clear HO970; clear HB; have HO970 := n0_; have HO974 := n1_; have HB := n2_; clear n0_ n1_ n2_; (try clear hb); (try clear hb2); (try clear hk); (try clear hi); (try clear ho0); obtain ⟨Ao18, co18, eo18⟩ := Kd.S_slice HO974.out; subst eo18) | ((with_reducible refine gate_callee (f := 56) rfl ?_); refine goesL_ (some 18) rfl rfl Try.func56 (by kernel_rfl) rfl #[.slice Ao18 t972.length co18] rfl (by (try simp only [List.map_toArray, List.map_cons, List.map_nil]); first | done | rfl | (simp only [List.length_drop, List.length_take]; rfl)) ?_; (with_reducible refine (impl_FormatRuns.calls k _ _ t972 t975 _ ?side1 ?side2 A8.out).mono ?_); (case side1 => repeat (first | exact (Kd.S_reads' HO974.out).2.2 | (with_reducible refine Kd.C_alloc ?_ _) | (with_reducible refine Kd.C_drewN ?_ _) | (with_reducible refine Kd.C_drew ?_))); (case side2 => exact (Kd.S_reads' HO974.out).2.1); rintro e w19 ⟨rfl, hb⟩; refine ⟨_, rfl, ?_⟩; have n0_ := Aside0.mk (Kd.S_below (by (with_reducible repeat (first | apply Kd.S_alloc | apply Kd.S_drewN | apply Kd.S_drew)); exact HO970.out) hb); have n1_ := Aside0.mk (Kd.S_below (by (with_reducible repeat (first | apply Kd.S_alloc | apply Kd.S_drewN | apply Kd.S_drew)); exact HO974.out) hb); have n2_ := Aside0.mk (below_step (by repeat (first | (with_reducible first | exact HB.out | apply below_alloc | apply pw_below_drewN | apply below_drew1) | exact HB.out)) hb); clear HO970; clear HO974; clear HB; have HO970 := n0_; have HO974 := n1_; have HB := n2_; clear n0_ n1_ n2_; (try clear hb); (try clear hb2); (try clear hk); (try clear hi)) | ((with_reducible refine gate_callee (f := 31) rfl ?_); refine goesL_ (some 24) rfl rfl Try.func31 (by kernel_rfl) rfl #[.slice A0 l0.length c0] rfl (by (try simp only [List.map_toArray, List.map_cons, List.map_nil]); first | done | rfl | (simp only [List.length_drop, List.length_take]; rfl)) ?_; (with_reducible refine (laws_toRunS.calls k _ _ l0 t976 _ ?side1 ?side2 A10.out).mono ?_); (case side1 => repeat (first | exact (Kd.C_below HR0.out HB.out) | (with_reducible refine Kd.C_alloc ?_ _) | (with_reducible refine Kd.C_drewN ?_ _) | (with_reducible refine Kd.C_drew ?_))); (case side2 => exact HC0.out); rintro e w20 ⟨v977, rfl, ho0, hb⟩; refine ⟨_, rfl, ?_⟩; have n0_ := Aside0.mk (Kd.S_elder' (by (with_reducible repeat (first | apply Kd.S_alloc | apply Kd.S_drewN | apply Kd.S_drew)); exact HO970.out) (Kd.S_base ho0) hb); have n1_ := Aside0.mk (Kd.S_elder' (by (with_reducible repeat (first | apply Kd.S_alloc | apply Kd.S_drewN | apply Kd.S_drew)); exact HO974.out) (Kd.S_base ho0) hb); have n2_ := Aside0.mk (Kd.S_lower (Kd.S_new' (Kd.S_new' ho0 (Kd.S_lt (by (with_reducible repeat (first | apply Kd.S_alloc | apply Kd.S_drewN | apply Kd.S_drew)); exact HO970.out))) (Kd.S_lt (by (with_reducible repeat (first | apply Kd.S_alloc | apply Kd.S_drewN | apply Kd.S_drew)); exact HO974.out))) (below_size (by repeat (first | (with_reducible first | exact HB.out | apply below_alloc | apply pw_below_drewN | apply below_drew1) | exact HB.out)))); have n3_ := Aside0.mk (below_step (by repeat (first | (with_reducible first | exact HB.out | apply below_alloc | apply pw_below_drewN | apply below_drew1) | exact HB.out)) hb); clear HO970; clear HO974; clear HB; have HO970 := n0_; have HO974 := n1_; have HO978 := n2_; have HB := n3_; clear n0_ n1_ n2_ n3_; (try clear hb); (try clear hb2); (try clear hk); (try clear hi); (try clear ho0); obtain ⟨Ao21, co21, eo21⟩ := Kd.S_slice HO978.out; subst eo21) | ((with_reducible refine gate_callee (f := 33) rfl ?_); refine goesL_ (some 25) rfl rfl Try.func33 (by kernel_rfl) rfl #[.slice Ao18 t972.length co18, .slice Ao21 t976.length co21] rfl (by (try simp only [List.map_toArray, List.map_cons, List.map_nil]); first | done | rfl | (simp only [List.length_drop, List.length_take]; rfl)) ?_; (with_reducible refine (laws_eqRunS.calls k _ _ t972 _ _ t976 true _ ?side1 ?side2 ?side3 ?side4 A11.out).mono ?_); (case side1 => repeat (first | exact (Kd.S_reads' HO974.out).2.2 | (with_reducible refine Kd.C_alloc ?_ _) | (with_reducible refine Kd.C_drewN ?_ _) | (with_reducible refine Kd.C_drew ?_))); (case side2 => exact (Kd.S_reads' HO974.out).2.1); (case side3 => repeat (first | exact (Kd.S_reads' HO978.out).2.2 | (with_reducible refine Kd.C_alloc ?_ _) | (with_reducible refine Kd.C_drewN ?_ _) | (with_reducible refine Kd.C_drew ?_))); (case side4 => exact (Kd.S_reads' HO978.out).2.1); rintro e w22 ⟨rfl, hb⟩; refine ⟨_, rfl, ?_⟩; have n0_ := Aside0.mk (Kd.S_below (by (with_reducible repeat (first | apply Kd.S_alloc | apply Kd.S_drewN | apply Kd.S_drew)); exact HO970.out) hb); have n1_ := Aside0.mk (Kd.S_below (by (with_reducible repeat (first | apply Kd.S_alloc | apply Kd.S_drewN | apply Kd.S_drew)); exact HO974.out) hb); have n2_ := Aside0.mk (Kd.S_below (by (with_reducible repeat (first | apply Kd.S_alloc | apply Kd.S_drewN | apply Kd.S_drew)); exact HO978.out) hb); have n3_ := Aside0.mk (below_step (by repeat (first | (with_reducible first | exact HB.out | apply below_alloc | apply pw_below_drewN | apply below_drew1) | exact HB.out)) hb); clear HO970; clear HO974; clear HO978; clear HB; have HO970 := n0_; have HO974 := n1_; have HO978 := n2_; have HB := n3_; clear n0_ n1_ n2_ n3_; (try clear hb); (try clear hb2); (try clear hk); (try clear hi)))
    go_ret
    exact ⟨by first | rfl | (simp [errW_none, errW_some] <;> rfl) | (simp [*, errW_none, errW_some] <;> rfl), by repeat (first | (with_reducible first | exact HB.out | apply below_alloc | apply pw_below_drewN | apply below_drew1) | exact HB.out)⟩
   ·replace c12 := Bool.eq_false_iff.mpr c12
    subst c12
    have H1 : (some false) = some r := by rw [if_neg (show ¬ (false = true) by decide)] at H; exact H
    clear H
    have H := H1
    clear H1
    obtain rfl := Option.some.inj H
    exact absurd HR_.out (by decide)
  ·rw [if_neg c9] at H
   have c9b0 : (t975.toList == t971.toList) = false := beq_eq_false_iff_ne.mpr c9
   have c9b1 : (t975.toList != t971.toList) = true := bne_iff_ne.mpr c9
   obtain rfl := Option.some.inj H
   exact absurd HR_.out (by decide)
end Go.Proofs.Ytngeppmincgebaa.P
end
section
namespace Go.Proofs.Ytngeppmincgebaa.Opn
open Go.ChangeShapes Go.WideShapes Go.RowKit Go.Proofs.YtngeppmincgebaaW.PrintWords
set_option linter.unusedVariables false
def Opens {α : Type} (P : Program) (t : TypeId) (d : Kd α) (ok : α → Prop) : Prop :=
 ∀ (H : Type) (enc : TypeId × Value → H) (W : World) (base : Nat) (spare : Nat → Bool) (held : Bool) (fuel : Nat) (cs : List Value) (x : DataW H × List MemPlace),
  DataW.trod enc P W base spare held fuel t cs = some x → ∃ a, d.K W a cs ∧ ok a
def okI (k : IntKind) (a : Int) : Prop := (Lit.int k a).wf = true
def okL {α : Type} (ok : α → Prop) (l : List α) : Prop := l.length ≤ 9223372036854775807 ∧ ∀ x ∈ l, ok x
theorem opens_int {P : Program} {t : TypeId} {k : IntKind} (ht : P.underlying t = some (.int k)) : Opens P t (Kd.int k) (okI k) := by
 intro H enc W base spare held fuel cs x h
 obtain ⟨n, rfl, _, hw⟩ := DataW.trod_int ht h
 exact ⟨n, rfl, hw⟩
theorem list_of {α : Type} : ∀ (n : Nat) (p : Nat → α → Prop), (∀ i, i < n → ∃ x, p i x) → ∃ l : List α, l.length = n ∧ ∀ j x, l[j]? = some x → p j x
 | 0, _, _ => ⟨[], rfl, fun j x h => by simp at h⟩
 | n + 1, p, h => by
  obtain ⟨l, hl, hp⟩ := list_of n p (fun i hi => h i (by omega))
  obtain ⟨x, hx⟩ := h n (by omega)
  refine ⟨l ++ [x], by simp [hl], fun j y hy => ?_⟩
  by_cases hj : j < l.length
  ·rw [List.getElem?_append_left hj] at hy
   exact hp j y hy
  ·rw [List.getElem?_append_right (by omega)] at hy
   have hlt : j - l.length < 1 := by simpa using (List.getElem?_eq_some_iff.1 hy).1
   have hj0 : j = n := by omega
   subst hj0
   rw [show j - l.length = 0 by omega] at hy
   have : x = y := by simpa using hy
   subst this
   exact hx
theorem opens_slice {α : Type} {P : Program} {t e : TypeId} {d : Kd α} {ok : α → Prop} (ht : P.underlying t = some (.slice e)) (hc : P.cellsOf e = d.sz) (h : Opens P e d ok) : Opens P t (Kd.slice e d) (okL ok) := by
 intro H enc W base spare held fuel cs x hx
 rcases Go.Deep.open_slice ht hx with ⟨rfl, _⟩ | ⟨a, len, cap, m, n, D, Pl, rfl, hb, hl, hm, hmm, _, hi⟩
 ·exact ⟨[], ⟨none, 0, rfl, Nat.le_refl _, ⟨rfl, by simp, fun h0 => absurd h0 (by simp)⟩⟩, by simp, fun x hx => by simp at hx⟩
 ·have hlm : len ≤ m := by
   rw [hmm]
   split <;> omega
  unfold maxLen at hm
  obtain ⟨l, hll, hp⟩ := list_of (α := α) len (fun i p => ok p ∧ ∃ c, c.length = d.sz ∧ d.K W p c ∧ ∀ j u, c[j]? = some u → W.cell? (a.add (i * d.sz + j)) = some u) (fun i hlt => by
   obtain ⟨c, h1, h2⟩ := hi i (by omega)
   obtain ⟨p, hk, hok⟩ := h H enc W base spare held n c _ h2
   obtain ⟨_, hlen, hcell⟩ := World.cells?_some h1
   refine ⟨p, hok, c, d.K_len hk, hk, fun j u hu => ?_⟩
   have hj : j < c.length := (List.getElem?_eq_some_iff.1 hu).1
   rw [← Go.Deep.add_add, ← hc, hcell j (by omega)]
   exact hu)
  subst hll
  refine ⟨l, ⟨some a, cap, rfl, hl, ⟨rfl, by omega, fun _ => ⟨a, rfl, fun j p hj => ?_⟩⟩⟩, by omega, fun x hx => ?_⟩
  ·obtain ⟨_, c, h1, h2, h3⟩ := hp j p hj
   exact ⟨c, h1, h2, h3⟩
  ·obtain ⟨j, hj⟩ := List.mem_iff_getElem?.1 hx
   exact (hp j x hj).1
end Go.Proofs.Ytngeppmincgebaa.Opn
end
section
namespace Go.Proofs.Ytngeppmincgebaa.StFnExactFormatRuns
open Go.RowKit Go.Proofs.Ytngeppmincgebaa.P Go.Proofs.YtngeppmincgebaaW.PrintWords Go.Proofs.Ytngeppmincgebaa.Opn
def ok77 (x : S77) : Prop := (okI .i64) x.f0 ∧ (okI .i64) x.f1 ∧ (okI .i64) x.f2
def ok91 (x : S91) : Prop := (okL ok77) x.f0
def Pure : Prop := ∀ (x0 : (List S91)), (okL ok91) x0 → ∃ k, laws_FnExactFormatRuns.f k x0 = some true
end Go.Proofs.Ytngeppmincgebaa.StFnExactFormatRuns
end
section
namespace Go.Proofs.Ytngeppmincgebaa.Pure
open Go.RowKit Go.Proofs.YtngeppmincgebaaW.PrintWords Go.Proofs.YtngeppmincgebaaW.PrintLast
theorem wrap_succ {i : Int} {n : Nat} (h0 : 0 ≤ i) (h : i < (n : Int)) (hn : n ≤ 9223372036854775807) : wrap64 (i + 1) = i + 1 := by
 unfold wrap64
 omega
theorem wrap_id {x : Int} (h1 : -9223372036854775808 ≤ x) (h2 : x ≤ 9223372036854775807) : wrap64 x = x := by
 unfold wrap64
 omega
theorem drop_getD {α : Type} (l : List α) (z : α) (i : Int) (h0 : 0 ≤ i) (h : i < (l.length : Int)) : l.drop i.toNat = l.getD i.toNat z :: l.drop (i + 1).toNat := by
 have hi : i.toNat < l.length := by omega
 rw [List.drop_eq_getElem_cons hi, List.getD_eq_getElem?_getD, List.getElem?_eq_getElem hi, show (i + 1).toNat = i.toNat + 1 by omega]
 rfl
theorem getD_mem {α : Type} (l : List α) (z : α) (i : Int) (h0 : 0 ≤ i) (h : i < (l.length : Int)) : l.getD i.toNat z ∈ l := by
 have hi : i.toNat < l.length := by omega
 rw [List.getD_eq_getElem?_getD, List.getElem?_eq_getElem hi]
 exact List.getElem_mem hi
theorem drop_end {α : Type} (l : List α) (i : Int) (h : (l.length : Int) ≤ i) : l.drop i.toNat = [] := List.drop_eq_nil_of_le (by omega)
theorem take_set_succ {α β : Type} (f : β → α) (l : List β) (acc : List α) (z : β) (i : Int) (h0 : 0 ≤ i) (h : i < (l.length : Int)) (ha : acc.length = l.length) (ht : acc.take i.toNat = (l.map f).take i.toNat) :
  (acc.set i.toNat (f (l.getD i.toNat z))).take (i + 1).toNat = (l.map f).take (i + 1).toNat := by
 have hi : i.toNat < l.length := by omega
 rw [show (i + 1).toNat = i.toNat + 1 by omega, List.take_add_one, List.take_add_one, List.take_set_of_le (by omega), ht]
 congr 1
 rw [List.getElem?_set_self (by omega), List.getElem?_map, List.getElem?_eq_getElem hi, List.getD_eq_getElem?_getD, List.getElem?_eq_getElem hi]
 rfl
theorem take_all {α : Type} (acc l : List α) (i : Int) (h : (acc.length : Int) ≤ i) (ha : acc.length = l.length) (ht : acc.take i.toNat = l.take i.toNat) : acc = l := by
 rwa [List.take_of_length_le (by omega), List.take_of_length_le (by omega)] at ht
end Go.Proofs.Ytngeppmincgebaa.Pure
end
section
namespace Go.Proofs.Ytngeppmincgebaa.Pure
open Go.RowKit Go.Proofs.Ytngeppmincgebaa.P Go.Proofs.YtngeppmincgebaaW.PrintWords Go.Proofs.YtngeppmincgebaaW.PrintLast
theorem ba_assoc (a b c : ByteArray) : a ++ b ++ c = a ++ (b ++ c) := by
 apply ByteArray.ext
 simp only [ByteArray.data_append, Array.append_assoc]
theorem ba_nil (a : ByteArray) : (⟨#[]⟩ : ByteArray) ++ a = a := by
 apply ByteArray.ext
 simp only [ByteArray.data_append, Array.empty_append]
theorem ba_end (a : ByteArray) : a ++ (⟨#[]⟩ : ByteArray) = a := by
 apply ByteArray.ext
 simp only [ByteArray.data_append, Array.append_empty]
theorem ba_sz (a b : ByteArray) : (a ++ b).size = a.size + b.size := by simp [ByteArray.size_append]
theorem ba_sz1 (c : UInt8) : (⟨#[c]⟩ : ByteArray).size = 1 := rfl
theorem ba_sz0 : (⟨#[]⟩ : ByteArray).size = 0 := rfl
def dg (c : Nat) : ByteArray := strOfNums [48 + (c : Int)]
theorem dg_sz (c : Nat) : (dg c).size = 1 := by
 unfold dg
 rw [strOfNums_size]
 rfl
def dz (n : Nat) : ByteArray := if _h : n = 0 then ⟨#[]⟩ else dz (n / 10) ++ dg (n % 10)
termination_by n
decreasing_by omega
theorem dz_zero : dz 0 = ⟨#[]⟩ := by
 rw [dz]
 rfl
theorem dz_pos (n : Nat) (h : n ≠ 0) : dz n = dz (n / 10) ++ dg (n % 10) := by
 rw [dz, dif_neg h]
theorem dz_sz (j : Nat) : ∀ n, n < 10 ^ j → (dz n).size ≤ j := by
 induction j with
 | zero =>
  intro n hn
  obtain rfl : n = 0 := by simpa using hn
  rw [dz_zero]
  exact Nat.le_refl 0
 | succ j ih =>
  intro n hn
  by_cases h : n = 0
  ·subst h
   rw [dz_zero]
   exact Nat.zero_le _
  ·rw [dz_pos n h, ba_sz, dg_sz]
   have := ih (n / 10) (by rw [Nat.pow_succ] at hn; omega)
   omega
theorem tm_pos (x : Int) (h : 0 ≤ x) : Int.tmod x 10 = x % 10 := Int.tmod_eq_emod_of_nonneg h
theorem td_pos (x : Int) (h : 0 ≤ x) : Int.tdiv x 10 = x / 10 := Int.tdiv_eq_ediv_of_nonneg h
theorem tm_neg (y : Int) (h : 0 ≤ y) : Int.tmod (-y) 10 = -(y % 10) := by
 rw [Int.neg_tmod, tm_pos y h]
theorem td_neg (y : Int) (h : 0 ≤ y) : Int.tdiv (-y) 10 = -(y / 10) := by
 rw [Int.neg_tdiv, td_pos y h]
theorem int_spec_go (j : Nat) : ∀ (k : Nat) (x : Int) (acc : ByteArray) (neg : Bool), x.natAbs < 10 ^ j → -9223372036854775808 ≤ x → x ≤ 9223372036854775807 → acc.size + j + 1 ≤ 1000000 → j < k →
  spec_FormatInt.l0 k x acc neg = some ((if neg = true then (⟨#[45]⟩ : ByteArray) else ⟨#[]⟩) ++ (dz x.natAbs ++ acc)) := by
 induction j with
 | zero =>
  intro k x acc neg hx h0 h1 ha hk
  obtain ⟨k, rfl⟩ : ∃ m, k = m + 1 := ⟨k - 1, by omega⟩
  obtain rfl : x = 0 := by
   have : x.natAbs < 1 := by simpa using hx
   omega
  rw [spec_FormatInt.l0, if_pos rfl, show Int.natAbs 0 = 0 from rfl, dz_zero, ba_nil, if_pos (show 1 + acc.size ≤ 9223372036854775807 by omega)]
  cases neg
  ·rw [if_neg Bool.false_ne_true, if_neg Bool.false_ne_true, ba_nil]
  ·rw [if_pos rfl, if_pos rfl]
 | succ j ih =>
  intro k x acc neg hx h0 h1 ha hk
  obtain ⟨k, rfl⟩ : ∃ m, k = m + 1 := ⟨k - 1, by omega⟩
  rw [spec_FormatInt.l0]
  by_cases hz : x = 0
  ·subst hz
   rw [if_pos rfl, show Int.natAbs 0 = 0 from rfl, dz_zero, ba_nil, if_pos (show 1 + acc.size ≤ 9223372036854775807 by omega)]
   cases neg
   ·rw [if_neg Bool.false_ne_true, if_neg Bool.false_ne_true, ba_nil]
   ·rw [if_pos rfl, if_pos rfl]
  ·rw [if_neg hz]
   have hj : x.natAbs / 10 < 10 ^ j := by
    rw [Nat.pow_succ] at hx
    omega
   have step : ∀ q : Int, q.natAbs = x.natAbs / 10 → -9223372036854775808 ≤ q → q ≤ 9223372036854775807 → spec_FormatInt.l0 k q (dg (x.natAbs % 10) ++ acc) neg = some ((if neg = true then (⟨#[45]⟩ : ByteArray) else ⟨#[]⟩) ++ (dz x.natAbs ++ acc)) := by
    intro q hq hq0 hq1
    rw [ih k q _ neg (by rw [hq]; exact hj) hq0 hq1 (by rw [ba_sz, dg_sz]; omega) (by omega), hq, dz_pos x.natAbs (by omega), ba_assoc (dz _) (dg _) acc]
   rcases Int.le_total 0 x with hp | hp
   ·rw [tm_pos x hp, td_pos x hp, if_neg (by omega)]
    simp only [Option.bind_some]
    have e : (wrap64 (48 + x % 10)) % 256 = 48 + ((x.natAbs % 10 : Nat) : Int) := by
     rw [wrap_id (by omega) (by omega)]
     omega
    rw [e, wrap_id (x := x / 10) (by omega) (by omega)]
    show (if (dg (x.natAbs % 10)).size + acc.size ≤ _ then spec_FormatInt.l0 k (x / 10) (dg (x.natAbs % 10) ++ acc) neg else none) = _
    rw [dg_sz, if_pos (by omega)]
    exact step (x / 10) (by omega) (by omega) (by omega)
   ·obtain ⟨y, rfl⟩ : ∃ y, x = -y := ⟨-x, by omega⟩
    rw [tm_neg y (by omega), td_neg y (by omega)]
    have e1 : (wrap64 (48 + wrap64 (-(-(y % 10))))) % 256 = 48 + (((-y).natAbs % 10 : Nat) : Int) := by
     rw [wrap_id (x := -(-(y % 10))) (by omega) (by omega), wrap_id (by omega) (by omega)]
     omega
    simp only [Option.bind_some]
    rw [e1, wrap_id (x := -(y / 10)) (by omega) (by omega)]
    by_cases hd : -(y % 10) < 0
    ·rw [if_pos hd]
     show (if (dg ((-y).natAbs % 10)).size + acc.size ≤ _ then spec_FormatInt.l0 k (-(y / 10)) (dg ((-y).natAbs % 10) ++ acc) neg else none) = _
     rw [dg_sz, if_pos (by omega)]
     exact step (-(y / 10)) (by omega) (by omega) (by omega)
    ·have e2 : (wrap64 (48 + -(y % 10))) % 256 = 48 + (((-y).natAbs % 10 : Nat) : Int) := by
      rw [wrap_id (by omega) (by omega)]
      omega
     rw [if_neg hd, e2]
     show (if (dg ((-y).natAbs % 10)).size + acc.size ≤ _ then spec_FormatInt.l0 k (-(y / 10)) (dg ((-y).natAbs % 10) ++ acc) neg else none) = _
     rw [dg_sz, if_pos (by omega)]
     exact step (-(y / 10)) (by omega) (by omega) (by omega)
def fI (x : Int) : ByteArray := if x = 0 then ⟨#[48]⟩ else (if x < 0 then (⟨#[45]⟩ : ByteArray) else ⟨#[]⟩) ++ dz x.natAbs
theorem abs_small (x : Int) (h0 : -9223372036854775808 ≤ x) (h1 : x ≤ 9223372036854775807) : x.natAbs < 10 ^ 19 := by
 have : (10 : Nat) ^ 19 = 10000000000000000000 := rfl
 omega
theorem fI_sz (x : Int) (h0 : -9223372036854775808 ≤ x) (h1 : x ≤ 9223372036854775807) : (fI x).size ≤ 20 := by
 have := dz_sz 19 x.natAbs (abs_small x h0 h1)
 unfold fI
 split
 ·rw [ba_sz1]
  omega
 ·rw [ba_sz]
  split
  ·rw [ba_sz1]
   omega
  ·rw [ba_sz0]
   omega
theorem fI_spec (x : Int) (h0 : -9223372036854775808 ≤ x) (h1 : x ≤ 9223372036854775807) (k : Nat) (hk : 20 ≤ k) : spec_FormatInt.f k x = some (fI x) := by
 unfold spec_FormatInt.f fI
 by_cases hz : x = 0
 ·rw [if_pos hz, if_pos hz]
 ·rw [if_neg hz, if_neg hz, int_spec_go 19 k x _ _ (abs_small x h0 h1) h0 h1 (by rw [ba_sz0]; omega) (by omega), ba_end]
  simp only [decide_eq_true_eq]
theorem u64_mod (x : Int) : IntKind.u64.wrap x = x % 18446744073709551616 := by
 unfold IntKind.wrap
 simp [IntKind.bits, IntKind.signed]
theorem u64_id (x : Int) (h0 : 0 ≤ x) (h1 : x < 18446744073709551616) : IntKind.u64.wrap x = x := by
 rw [u64_mod]
 omega
theorem dec_impl (j : Nat) : ∀ (k n : Nat), 0 < n → n < 10 ^ j → n < 18446744073709551616 → j ≤ 100 → j ≤ k → impl_decimal.f k (n : Int) = some (dz n) := by
 induction j with
 | zero =>
  intro k n h0 h1 h2 hj hk
  have : n < 1 := by simpa using h1
  omega
 | succ j ih =>
  intro k n h0 h1 h2 hj hk
  obtain ⟨k, rfl⟩ : ∃ m, k = m + 1 := ⟨k - 1, by omega⟩
  simp only [impl_decimal.f]
  by_cases hs : (n : Int) < 10
  ·rw [if_pos hs, u64_id _ (by omega) (by omega), dz_pos n (by omega), show n / 10 = 0 by omega, dz_zero, ba_nil, show (48 + (n : Int)) % 256 = 48 + ((n % 10 : Nat) : Int) by omega]
   rfl
  ·rw [if_neg hs, td_pos _ (by omega), tm_pos _ (by omega), u64_id ((n : Int) / 10) (by omega) (by omega), u64_id (48 + (n : Int) % 10) (by omega) (by omega), show (n : Int) / 10 = ((n / 10 : Nat) : Int) by omega, ih k (n / 10) (by omega) (by rw [Nat.pow_succ] at h1; omega) (by omega) (by omega) (by omega)]
   simp only [Option.bind_some]
   rw [show (48 + (n : Int) % 10) % 256 = 48 + ((n % 10 : Nat) : Int) by omega, dz_pos n (by omega)]
   show (if (dz (n / 10)).size + (dg (n % 10)).size ≤ _ then some (dz (n / 10) ++ dg (n % 10)) else none) = _
   have := dz_sz j (n / 10) (by rw [Nat.pow_succ] at h1; omega)
   rw [dg_sz, if_pos (by omega)]
theorem fI_impl (x : Int) (h0 : -9223372036854775808 ≤ x) (h1 : x ≤ 9223372036854775807) (k : Nat) (hk : 20 ≤ k) : impl_FormatInt.f k x = some (fI x) := by
 have ha := abs_small x h0 h1
 unfold impl_FormatInt.f fI
 by_cases hn : x < 0
 ·have e : IntKind.u64.wrap (-(IntKind.u64.wrap x)) = (x.natAbs : Int) := by
   rw [u64_mod, u64_mod]
   omega
  have := dz_sz 19 x.natAbs ha
  rw [if_pos hn, e, dec_impl 19 k x.natAbs (by omega) ha (by omega) (by omega) (by omega)]
  simp only [Option.bind_some]
  rw [if_pos (by omega), if_neg (by omega), if_pos hn]
 ·rw [if_neg hn, u64_id x (by omega) (by omega)]
  by_cases hz : x = 0
  ·obtain ⟨k, rfl⟩ : ∃ m, k = m + 1 := ⟨k - 1, by omega⟩
   subst hz
   rw [if_pos rfl, impl_decimal.f, if_pos (by omega), u64_id _ (by omega) (by omega)]
   rfl
  ·rw [if_neg hz, if_neg hn, ba_nil]
   have e : x = (x.natAbs : Int) := by omega
   have := dec_impl 19 k x.natAbs (by omega) ha (by omega) (by omega) (by omega)
   rw [← e] at this
   rw [this]
   rfl
def rst (s : ByteArray) : List ByteArray → ByteArray
 | [] => ⟨#[]⟩
 | t :: l => s ++ t ++ rst s l
def jnd (s : ByteArray) : List ByteArray → ByteArray
 | [] => ⟨#[]⟩
 | t :: l => t ++ rst s l
theorem rst_sz (s : ByteArray) (B : Nat) (hs : s.size = 1) (l : List ByteArray) (h : ∀ t ∈ l, t.size ≤ B) : (rst s l).size ≤ l.length * (B + 1) := by
 induction l with
 | nil => exact Nat.zero_le _
 | cons t l ih =>
  have h1 := h t List.mem_cons_self
  have h2 := ih (fun t ht => h t (List.mem_cons_of_mem _ ht))
  rw [rst, ba_sz, ba_sz, List.length_cons, Nat.succ_mul]
  omega
theorem jnd_sz (s : ByteArray) (B : Nat) (hs : s.size = 1) (l : List ByteArray) (h : ∀ t ∈ l, t.size ≤ B) : (jnd s l).size ≤ l.length * (B + 1) := by
 cases l with
 | nil => exact Nat.zero_le _
 | cons t l =>
  have h1 := h t List.mem_cons_self
  have h2 := rst_sz s B hs l (fun t ht => h t (List.mem_cons_of_mem _ ht))
  rw [jnd, ba_sz, List.length_cons, Nat.succ_mul]
  omega
theorem joined_go (s : ByteArray) (hs : s.size = 1) (l : List ByteArray) (hl : l.length ≤ 100000000) (h : ∀ t ∈ l, t.size ≤ 10000) (d : Nat) : ∀ (k : Nat) (acc : ByteArray) (i : Int), 1 ≤ i → i ≤ l.length → acc.size + d * 10001 ≤ 9000000000000000000 → (l.length : Int) - i = d → d < k →
  impl_joined.l0 k s acc l (l.length : Int) i = some (acc ++ rst s (l.drop i.toNat)) := by
 induction d with
 | zero =>
  intro k acc i h0 h1 ha hd hk
  obtain ⟨k, rfl⟩ : ∃ m, k = m + 1 := ⟨k - 1, by omega⟩
  simp only [impl_joined.l0]
  rw [if_neg (by omega), drop_end l i (by omega), rst, ba_end]
 | succ d ih =>
  intro k acc i h0 h1 ha hd hk
  obtain ⟨k, rfl⟩ : ∃ m, k = m + 1 := ⟨k - 1, by omega⟩
  have hD : l.drop i.toNat = rdOf ByteArray.empty l i :: l.drop (i + 1).toNat := drop_getD l ByteArray.empty i (by omega) (by omega)
  have hm : (rdOf ByteArray.empty l i).size ≤ 10000 := h _ (getD_mem l ByteArray.empty i (by omega) (by omega))
  simp only [impl_joined.l0]
  rw [if_pos (by omega), if_pos (by omega), if_pos (by omega), if_pos (by omega), if_pos (by omega), if_pos (by rw [ba_sz]; omega), wrap_succ (by omega) (n := l.length) (by omega) (by omega), ih k _ (i + 1) (by omega) (by omega) (by rw [ba_sz, ba_sz]; omega) (by omega) (by omega), hD, rst]
  simp only [ba_assoc]
theorem joined_eq (s : ByteArray) (hs : s.size = 1) (l : List ByteArray) (hl : l.length ≤ 100000000) (h : ∀ t ∈ l, t.size ≤ 10000) (k : Nat) (hk : l.length < k) : impl_joined.f k l s = some (jnd s l) := by
 unfold impl_joined.f
 obtain ⟨k, rfl⟩ : ∃ m, k = m + 1 := ⟨k - 1, by omega⟩
 simp only [impl_joined.l0]
 by_cases hz : l.length = 0
 ·rw [if_neg (by omega), List.eq_nil_of_length_eq_zero hz]
  rfl
 ·have hD : l.drop (0 : Int).toNat = rdOf ByteArray.empty l 0 :: l.drop (0 + 1 : Int).toNat := drop_getD l ByteArray.empty 0 (by omega) (by omega)
  have hm : (rdOf ByteArray.empty l 0).size ≤ 10000 := h _ (getD_mem l ByteArray.empty 0 (by omega) (by omega))
  rw [if_pos (by omega), if_pos (by omega), if_pos (by omega), if_neg (by omega), ba_nil, ba_sz0, if_pos (by omega), wrap_succ (by omega) (n := l.length) (by omega) (by omega), joined_go s hs l hl h (l.length - 1) k _ (0 + 1) (by omega) (by omega) (by omega) (by omega) (by omega)]
  rw [show l.drop (0 : Int).toNat = l from rfl] at hD
  conv => rhs; rw [hD, jnd]
end Go.Proofs.Ytngeppmincgebaa.Pure
end
section
namespace Go.Proofs.Ytngeppmincgebaa.Pure
open Go.RowKit Go.Proofs.Ytngeppmincgebaa.P Go.Proofs.YtngeppmincgebaaW.PrintWords Go.Proofs.YtngeppmincgebaaW.PrintLast
theorem within_in (a b c : Int) : impl_within.f a b c = some (decide (b ≤ a ∧ a ≤ c)) := by
 unfold impl_within.f
 by_cases h : a ≥ b
 ·rw [if_pos h]
  simp [h]
 ·rw [if_neg h]
  simp [h]
theorem l1In_in (a b c : Int) : spec_l1In.f a b c = some (decide (b ≤ a ∧ a ≤ c)) := by
 unfold spec_l1In.f
 by_cases h : a ≥ b
 ·rw [if_pos h]
  simp [h]
 ·rw [if_neg h]
  simp [h]
def vRow (x : S75) : Bool := decide (0 ≤ x.f0 ∧ x.f0 ≤ 9 ∧ 0 ≤ x.f1 ∧ x.f1 ≤ 99 ∧ 0 ≤ x.f2 ∧ x.f2 ≤ 3)
theorem vRow_impl (x : S75) : impl_IsValidRow.f x.f0 x.f1 x.f2 = some (vRow x) := by
 unfold impl_IsValidRow.f vRow
 simp only [within_in, Option.bind_some, decide_eq_true_eq]
 repeat' split
 all_goals (congr 1; simp only [Bool.false_eq, decide_eq_false_iff_not, decide_eq_decide]; omega)
theorem vRow_spec (x : S75) : spec_IsValidRow.f x.f0 x.f1 x.f2 = some (vRow x) := by
 unfold spec_IsValidRow.f vRow
 simp only [l1In_in, Option.bind_some, decide_eq_true_eq]
 repeat' split
 all_goals (congr 1; simp only [Bool.false_eq, decide_eq_false_iff_not, decide_eq_decide]; omega)
theorem vRow_iff (x : S75) : vRow x = true ↔ (0 ≤ x.f0 ∧ x.f0 ≤ 9 ∧ 0 ≤ x.f1 ∧ x.f1 ≤ 99 ∧ 0 ≤ x.f2 ∧ x.f2 ≤ 3) := by
 unfold vRow
 exact decide_eq_true_iff
end Go.Proofs.Ytngeppmincgebaa.Pure
end
section
namespace Go.Proofs.Ytngeppmincgebaa.Pure
open Go.RowKit Go.Proofs.Ytngeppmincgebaa.P Go.Proofs.YtngeppmincgebaaW.PrintWords Go.Proofs.YtngeppmincgebaaW.PrintLast
def vRows (l : List S75) : Bool := l.all vRow && decide (l.length ≤ 24)
theorem vRows_spec_go (l : List S75) (hl : l.length ≤ 9223372036854775807) (d : Nat) : ∀ (k : Nat) (i : Int), 0 ≤ i → i ≤ l.length → (l.length : Int) - i = d → d < k → spec_AreValidRows.l0 k l i = some ((l.drop i.toNat).all vRow && decide (l.length ≤ 24)) := by
 induction d with
 | zero =>
  intro k i h0 h1 hd hk
  obtain ⟨k, rfl⟩ : ∃ m, k = m + 1 := ⟨k - 1, by omega⟩
  simp only [spec_AreValidRows.l0]
  rw [if_neg (by omega), drop_end l i (by omega)]
  simp only [List.all_nil, Bool.true_and]
  congr 1
  exact decide_eq_decide.2 (by omega)
 | succ d ih =>
  intro k i h0 h1 hd hk
  obtain ⟨k, rfl⟩ : ∃ m, k = m + 1 := ⟨k - 1, by omega⟩
  simp only [spec_AreValidRows.l0]
  rw [if_pos (by omega), if_pos h0, vRow_spec, wrap_succ h0 (n := l.length) (by omega) (by omega)]
  simp only [Option.bind_some]
  rw [ih k (i + 1) (by omega) (by omega) (by omega) (by omega), drop_getD l z75 i h0 (by omega)]
  simp only [List.all_cons]
  show (if vRow (rd_T75 l i) = true then _ else _) = some ((vRow (rd_T75 l i) && _) && _)
  cases vRow (rd_T75 l i) <;> simp
theorem vRows_spec (l : List S75) (hl : l.length ≤ 9223372036854775807) (k : Nat) (hk : l.length < k) : spec_AreValidRows.f k l = some (vRows l) := by
 unfold spec_AreValidRows.f
 exact vRows_spec_go l hl l.length k 0 (by omega) (by omega) (by omega) hk
theorem allV_impl_go (l : List S75) (hl : l.length ≤ 9223372036854775807) (d : Nat) : ∀ (k : Nat) (i : Int), 0 ≤ i → i ≤ l.length → (l.length : Int) - i = d → d < k → impl_allValid.l0 k l (l.length : Int) i = some ((l.drop i.toNat).all vRow) := by
 induction d with
 | zero =>
  intro k i h0 h1 hd hk
  obtain ⟨k, rfl⟩ : ∃ m, k = m + 1 := ⟨k - 1, by omega⟩
  simp only [impl_allValid.l0]
  rw [if_neg (by omega), drop_end l i (by omega)]
  rfl
 | succ d ih =>
  intro k i h0 h1 hd hk
  obtain ⟨k, rfl⟩ : ∃ m, k = m + 1 := ⟨k - 1, by omega⟩
  simp only [impl_allValid.l0]
  rw [if_pos (by omega), if_pos h0, if_pos (by omega), vRow_impl, wrap_succ h0 (n := l.length) (by omega) (by omega)]
  simp only [Option.bind_some]
  rw [ih k (i + 1) (by omega) (by omega) (by omega) (by omega), drop_getD l z75 i h0 (by omega)]
  simp only [List.all_cons]
  show (if vRow (rd_T75 l i) = true then _ else _) = some (vRow (rd_T75 l i) && _)
  cases vRow (rd_T75 l i) <;> simp
theorem vRows_impl (l : List S75) (hl : l.length ≤ 9223372036854775807) (k : Nat) (hk : l.length < k) : impl_AreValidRows.f k l = some (vRows l) := by
 unfold impl_AreValidRows.f impl_allValid.f vRows
 rw [allV_impl_go l hl l.length k 0 (by omega) (by omega) (by omega) hk]
 simp only [Option.bind_some]
 by_cases h : l.length ≤ 24
 ·rw [if_pos (by omega), decide_eq_true h]
  simp
 ·rw [if_neg (by omega), decide_eq_false h]
  simp
end Go.Proofs.Ytngeppmincgebaa.Pure
end
section
namespace Go.Proofs.Ytngeppmincgebaa.Pure
open Go.RowKit Go.Proofs.Ytngeppmincgebaa.P Go.Proofs.YtngeppmincgebaaW.PrintWords Go.Proofs.YtngeppmincgebaaW.PrintLast
def rTx (x : S75) : ByteArray := if vRow x = true then ((((fI x.f0 ++ (⟨#[46]⟩ : ByteArray)) ++ fI x.f1) ++ (⟨#[46]⟩ : ByteArray)) ++ fI x.f2) else ⟨#[]⟩
theorem rTx_sz (x : S75) : (rTx x).size ≤ 62 := by
 unfold rTx
 split
 ·have hv := (vRow_iff x).1 ‹_›
  have s0 := fI_sz x.f0 (by omega) (by omega)
  have s1 := fI_sz x.f1 (by omega) (by omega)
  have s2 := fI_sz x.f2 (by omega) (by omega)
  simp only [ba_sz, ba_sz1]
  omega
 ·rw [ba_sz0]
  omega
theorem rTx_impl (x : S75) (k : Nat) (hk : 20 ≤ k) : impl_FormatRow.f k x.f0 x.f1 x.f2 = some (rTx x) := by
 unfold impl_FormatRow.f rTx
 rw [vRow_impl]
 simp only [Option.bind_some]
 split
 ·have hv := (vRow_iff x).1 ‹_›
  have s0 := fI_sz x.f0 (by omega) (by omega)
  have s1 := fI_sz x.f1 (by omega) (by omega)
  have s2 := fI_sz x.f2 (by omega) (by omega)
  rw [fI_impl x.f0 (by omega) (by omega) k hk, fI_impl x.f1 (by omega) (by omega) k hk, fI_impl x.f2 (by omega) (by omega) k hk]
  simp only [Option.bind_some, ba_sz, ba_sz1]
  rw [if_pos (by omega), if_pos (by omega), if_pos (by omega), if_pos (by omega)]
 ·rfl
theorem rTx_spec (x : S75) (k : Nat) (hk : 20 ≤ k) : spec_FormatRow.f k x.f0 x.f1 x.f2 = some (rTx x) := by
 unfold spec_FormatRow.f rTx
 rw [vRow_spec]
 simp only [Option.bind_some]
 split
 ·have hv := (vRow_iff x).1 ‹_›
  have s0 := fI_sz x.f0 (by omega) (by omega)
  have s1 := fI_sz x.f1 (by omega) (by omega)
  have s2 := fI_sz x.f2 (by omega) (by omega)
  rw [fI_spec x.f0 (by omega) (by omega) k hk, fI_spec x.f1 (by omega) (by omega) k hk, fI_spec x.f2 (by omega) (by omega) k hk]
  simp only [Option.bind_some, ba_sz, ba_sz1]
  rw [if_pos (by omega), if_pos (by omega), if_pos (by omega), if_pos (by omega)]
 ·rfl
theorem take_map_snoc {α β : Type} (f : α → β) (l : List α) (z : α) (acc : List β) (i : Int) (h0 : 0 ≤ i) (h : i < (l.length : Int)) (ha : acc = (l.take i.toNat).map f) : acc ++ [f (l.getD i.toNat z)] = (l.take (i + 1).toNat).map f := by
 have hi : i.toNat < l.length := by omega
 rw [ha, show (i + 1).toNat = i.toNat + 1 by omega, List.take_add_one, List.map_append, List.getElem?_eq_getElem hi, List.getD_eq_getElem?_getD, List.getElem?_eq_getElem hi]
 rfl
end Go.Proofs.Ytngeppmincgebaa.Pure
end
section
namespace Go.Proofs.Ytngeppmincgebaa.Pure
open Go.RowKit Go.Proofs.Ytngeppmincgebaa.P Go.Proofs.YtngeppmincgebaaW.PrintWords Go.Proofs.YtngeppmincgebaaW.PrintLast
def lTx (l : List S75) : ByteArray := if vRows l = true then jnd ⟨#[32]⟩ (l.map rTx) else ⟨#[]⟩
theorem vRows_len (l : List S75) (h : vRows l = true) : l.length ≤ 24 := by
 unfold vRows at h
 rw [Bool.and_eq_true, decide_eq_true_eq] at h
 exact h.2
theorem map_sz {α : Type} (f : α → ByteArray) (l : List α) (B : Nat) (h : ∀ x, (f x).size ≤ B) : ∀ t ∈ l.map f, t.size ≤ B := by
 intro t ht
 obtain ⟨g, _, rfl⟩ := List.mem_map.1 ht
 exact h g
theorem lTx_sz (l : List S75) : (lTx l).size ≤ 1600 := by
 unfold lTx
 split
 ·have h := vRows_len l ‹_›
  have := jnd_sz (⟨#[32]⟩ : ByteArray) 62 rfl (l.map rTx) (map_sz rTx l 62 rTx_sz)
  rw [List.length_map] at this
  omega
 ·rw [ba_sz0]
  omega
theorem fL_spec_go (l : List S75) (hv : vRows l = true) (d : Nat) : ∀ (k : Nat) (acc : ByteArray) (i : Int), 1 ≤ i → i ≤ l.length → acc.size + d * 63 ≤ 1000000 → (l.length : Int) - i = d → 2 * d + 60 < k →
  spec_FormatRows.l0 k l acc i = some (acc ++ rst ⟨#[32]⟩ ((l.drop i.toNat).map rTx)) := by
 have hl := vRows_len l hv
 induction d with
 | zero =>
  intro k acc i h0 h1 ha hd hk
  obtain ⟨k, rfl⟩ : ∃ m, k = m + 1 + 1 := ⟨k - 2, by omega⟩
  rw [spec_FormatRows.l0, if_neg (by omega), spec_FormatRows.j1, if_neg Bool.false_ne_true, drop_end l i (by omega), List.map_nil, rst, ba_end]
 | succ d ih =>
  intro k acc i h0 h1 ha hd hk
  obtain ⟨k, rfl⟩ : ∃ m, k = m + 1 + 1 := ⟨k - 2, by omega⟩
  have hD : l.drop i.toNat = rd_T75 l i :: l.drop (i + 1).toNat := drop_getD l z75 i (by omega) (by omega)
  have hz := rTx_sz (rd_T75 l i)
  rw [spec_FormatRows.l0, if_pos (by omega), vRows_spec l (by omega) (k + 1) (by omega), hv]
  simp only [Option.bind_some]
  rw [spec_FormatRows.j1, if_pos rfl, if_pos (show i > 0 by omega), if_pos (show acc.size + 1 ≤ 9223372036854775807 by omega), if_pos (show 0 ≤ i by omega), if_pos (by omega), rTx_spec _ k (by omega)]
  simp only [Option.bind_some]
  rw [if_pos (by rw [ba_sz, ba_sz1]; omega), wrap_succ (by omega) (n := l.length) (by omega) (by omega), ih k _ (i + 1) (by omega) (by omega) (by rw [ba_sz, ba_sz, ba_sz1]; omega) (by omega) (by omega), hD, List.map_cons, rst]
  simp only [ba_assoc]
theorem fL_spec (l : List S75) (hl : l.length ≤ 9223372036854775807) (k : Nat) (hk : l.length + 200 < k) : spec_FormatRows.f k l = some (lTx l) := by
 unfold spec_FormatRows.f lTx
 obtain ⟨k, rfl⟩ : ∃ m, k = m + 1 + 1 := ⟨k - 2, by omega⟩
 rw [spec_FormatRows.l0]
 by_cases hz : l.length = 0
 ·rw [if_neg (by omega), spec_FormatRows.j1, if_neg Bool.false_ne_true, List.eq_nil_of_length_eq_zero hz]
  rfl
 ·rw [if_pos (by omega), vRows_spec l hl (k + 1) (by omega)]
  simp only [Option.bind_some]
  cases hv : vRows l
  ·rw [spec_FormatRows.j1, if_neg Bool.false_ne_true, if_neg Bool.false_ne_true]
  ·have hl := vRows_len l hv
   have hD : l.drop (0 : Int).toNat = rd_T75 l 0 :: l.drop (0 + 1 : Int).toNat := drop_getD l z75 0 (by omega) (by omega)
   have hs := rTx_sz (rd_T75 l 0)
   rw [spec_FormatRows.j1, if_pos rfl, if_pos rfl, if_neg (show ¬ (0 : Int) > 0 by omega), if_pos (show (0 : Int) ≤ 0 by omega), if_pos (by omega), rTx_spec _ k (by omega)]
   simp only [Option.bind_some]
   rw [if_pos (by rw [ba_sz0]; omega), wrap_succ (by omega) (n := l.length) (by omega) (by omega), ba_nil, fL_spec_go l hv (l.length - 1) k _ (0 + 1) (by omega) (by omega) (by omega) (by omega) (by omega)]
   rw [show l.drop (0 : Int).toNat = l from rfl] at hD
   conv => rhs; rw [hD, List.map_cons, jnd]
theorem fL_impl_go (l : List S75) (hl : l.length ≤ 24) (d : Nat) : ∀ (k : Nat) (acc : List ByteArray) (i : Int), 0 ≤ i → i ≤ l.length → acc = (l.take i.toNat).map rTx → (l.length : Int) - i = d → d + l.length + 30 < k →
  impl_rowTexts.l0 k acc l (l.length : Int) i = some (jnd ⟨#[32]⟩ (l.map rTx)) := by
 induction d with
 | zero =>
  intro k acc i h0 h1 ha hd hk
  obtain ⟨k, rfl⟩ : ∃ m, k = m + 1 := ⟨k - 1, by omega⟩
  rw [List.take_of_length_le (by omega)] at ha
  rw [impl_rowTexts.l0, if_neg (by omega), ha, joined_eq _ rfl _ (by rw [List.length_map]; omega) (map_sz rTx l 10000 (fun x => Nat.le_trans (rTx_sz x) (by omega))) k (by rw [List.length_map]; omega)]
  rfl
 | succ d ih =>
  intro k acc i h0 h1 ha hd hk
  obtain ⟨k, rfl⟩ : ∃ m, k = m + 1 := ⟨k - 1, by omega⟩
  have hal : acc.length = i.toNat := by
   rw [ha, List.length_map, List.length_take]
   omega
  have hT : acc ++ [rTx (rd_T75 l i)] = (l.take (i + 1).toNat).map rTx := take_map_snoc rTx l z75 acc i h0 (by omega) ha
  rw [impl_rowTexts.l0, if_pos (by omega), if_pos (by omega), if_pos (by omega), rTx_impl _ k (by omega)]
  simp only [Option.bind_some]
  rw [if_pos (show acc.length < 8796093022208 by omega), wrap_succ (by omega) (n := l.length) (by omega) (by omega)]
  exact ih k _ (i + 1) (by omega) (by omega) hT (by omega) (by omega)
theorem fL_impl (l : List S75) (hl : l.length ≤ 9223372036854775807) (k : Nat) (hk : l.length + 200 < k) : impl_FormatRows.f k l = some (lTx l) := by
 unfold impl_FormatRows.f lTx impl_rowTexts.f
 rw [vRows_impl l hl k (by omega)]
 simp only [Option.bind_some]
 by_cases hv : vRows l = true
 ·have := vRows_len l hv
  rw [if_pos hv, if_pos hv, fL_impl_go l this l.length k [] 0 (by omega) (by omega) rfl (by omega) (by omega)]
  rfl
 ·rw [if_neg hv, if_neg hv]
def nTx (x : S93) : ByteArray := lTx x.f0
theorem nTx_sz (x : S93) : (nTx x).size ≤ 1600 := lTx_sz x.f0
theorem fN_spec_go (l : List S93) (hl : l.length ≤ 100000000) (B : Nat) (hB : B ≤ 100000000) (ho : ∀ x ∈ l, x.f0.length ≤ B) (d : Nat) : ∀ (k : Nat) (acc : ByteArray) (i : Int), 1 ≤ i → i ≤ l.length → acc.size + d * 1601 ≤ 9000000000000000000 → (l.length : Int) - i = d → d + B + 201 < k →
  spec_FormatRuns.l0 k l acc i = some (acc ++ rst ⟨#[124]⟩ ((l.drop i.toNat).map nTx)) := by
 induction d with
 | zero =>
  intro k acc i h0 h1 ha hd hk
  obtain ⟨k, rfl⟩ : ∃ m, k = m + 1 := ⟨k - 1, by omega⟩
  rw [spec_FormatRuns.l0, if_neg (by omega), drop_end l i (by omega), List.map_nil, rst, ba_end]
 | succ d ih =>
  intro k acc i h0 h1 ha hd hk
  obtain ⟨k, rfl⟩ : ∃ m, k = m + 1 := ⟨k - 1, by omega⟩
  have hD : l.drop i.toNat = rd_T93 l i :: l.drop (i + 1).toNat := drop_getD l z93 i (by omega) (by omega)
  have hm : (rd_T93 l i).f0.length ≤ B := ho _ (getD_mem l z93 i (by omega) (by omega))
  have hz : (lTx (rd_T93 l i).f0).size ≤ 1600 := lTx_sz _
  rw [spec_FormatRuns.l0, if_pos (by omega), if_pos (by omega), if_pos (show acc.size + 1 ≤ 9223372036854775807 by omega), if_pos (show 0 ≤ i by omega), fL_spec _ (by omega) k (by omega)]
  simp only [Option.bind_some]
  rw [if_pos (by rw [ba_sz, ba_sz1]; omega), wrap_succ (by omega) (n := l.length) (by omega) (by omega), ih k _ (i + 1) (by omega) (by omega) (by rw [ba_sz, ba_sz, ba_sz1]; omega) (by omega) (by omega), hD, List.map_cons, rst]
  simp only [ba_assoc]
  rfl
theorem fN_spec (l : List S93) (hl : l.length ≤ 100000000) (B : Nat) (hB : B ≤ 100000000) (ho : ∀ x ∈ l, x.f0.length ≤ B) (k : Nat) (hk : l.length + B + 300 < k) : spec_FormatRuns.f k l = some (jnd ⟨#[124]⟩ (l.map nTx)) := by
 unfold spec_FormatRuns.f
 obtain ⟨k, rfl⟩ : ∃ m, k = m + 1 := ⟨k - 1, by omega⟩
 rw [spec_FormatRuns.l0]
 by_cases hz : l.length = 0
 ·rw [if_neg (by omega), List.eq_nil_of_length_eq_zero hz]
  rfl
 ·have hD : l.drop (0 : Int).toNat = rd_T93 l 0 :: l.drop (0 + 1 : Int).toNat := drop_getD l z93 0 (by omega) (by omega)
  have hm : (rd_T93 l 0).f0.length ≤ B := ho _ (getD_mem l z93 0 (by omega) (by omega))
  have hs : (lTx (rd_T93 l 0).f0).size ≤ 1600 := lTx_sz _
  rw [if_pos (by omega), if_neg (by omega), if_pos (show (0 : Int) ≤ 0 by omega), fL_spec _ (by omega) k (by omega)]
  simp only [Option.bind_some]
  rw [if_pos (by rw [ba_sz0]; omega), wrap_succ (by omega) (n := l.length) (by omega) (by omega), ba_nil, fN_spec_go l hl B hB ho (l.length - 1) k _ (0 + 1) (by omega) (by omega) (by omega) (by omega) (by omega)]
  rw [show l.drop (0 : Int).toNat = l from rfl] at hD
  conv => rhs; rw [hD, List.map_cons, jnd]
  rfl
theorem fN_impl_go (l : List S93) (hl : l.length ≤ 100000000) (B : Nat) (hB : B ≤ 100000000) (ho : ∀ x ∈ l, x.f0.length ≤ B) (d : Nat) : ∀ (k : Nat) (acc : List ByteArray) (i : Int), 0 ≤ i → i ≤ l.length → acc = (l.take i.toNat).map nTx → (l.length : Int) - i = d → d + l.length + B + 230 < k →
  impl_FormatRuns.l0 k acc l (l.length : Int) i = some (jnd ⟨#[124]⟩ (l.map nTx)) := by
 induction d with
 | zero =>
  intro k acc i h0 h1 ha hd hk
  obtain ⟨k, rfl⟩ : ∃ m, k = m + 1 := ⟨k - 1, by omega⟩
  rw [List.take_of_length_le (by omega)] at ha
  rw [impl_FormatRuns.l0, if_neg (by omega), ha, joined_eq _ rfl _ (by rw [List.length_map]; omega) (map_sz nTx l 10000 (fun x => Nat.le_trans (nTx_sz x) (by omega))) k (by rw [List.length_map]; omega)]
  rfl
 | succ d ih =>
  intro k acc i h0 h1 ha hd hk
  obtain ⟨k, rfl⟩ : ∃ m, k = m + 1 := ⟨k - 1, by omega⟩
  have hm : (rd_T93 l i).f0.length ≤ B := ho _ (getD_mem l z93 i (by omega) (by omega))
  have hal : acc.length = i.toNat := by
   rw [ha, List.length_map, List.length_take]
   omega
  have hT : acc ++ [nTx (rd_T93 l i)] = (l.take (i + 1).toNat).map nTx := take_map_snoc nTx l z93 acc i h0 (by omega) ha
  rw [impl_FormatRuns.l0, if_pos (by omega), if_pos (by omega), if_pos (by omega), fL_impl _ (by omega) k (by omega)]
  simp only [Option.bind_some]
  rw [if_pos (show acc.length < 8796093022208 by omega), wrap_succ (by omega) (n := l.length) (by omega) (by omega)]
  exact ih k _ (i + 1) (by omega) (by omega) hT (by omega) (by omega)
theorem fN_impl (l : List S93) (hl : l.length ≤ 100000000) (B : Nat) (hB : B ≤ 100000000) (ho : ∀ x ∈ l, x.f0.length ≤ B) (k : Nat) (hk : 2 * l.length + B + 300 < k) : impl_FormatRuns.f k l = some (jnd ⟨#[124]⟩ (l.map nTx)) := by
 unfold impl_FormatRuns.f
 exact fN_impl_go l hl B hB ho l.length k [] 0 (by omega) (by omega) rfl (by omega) (by omega)
end Go.Proofs.Ytngeppmincgebaa.Pure
end
section
namespace Go.Proofs.Ytngeppmincgebaa.Pure
open Go.RowKit Go.Proofs.Ytngeppmincgebaa.P Go.Proofs.YtngeppmincgebaaW.PrintWords Go.Proofs.YtngeppmincgebaaW.PrintLast
def toR (x : S77) : S75 := ⟨x.f0, x.f1, x.f2⟩
theorem szRowS_no (l : List S77) (n : Int) (h0 : 0 ≤ n) (h1 : n ≤ 1048576) (hl : l.length ≤ 9223372036854775807) (h : n < l.length) : laws_szRowS.f l n = some (-1) := by
 unfold laws_szRowS.f
 rw [if_pos (by unfold wrap64; omega)]
theorem szRowS_yes (l : List S77) (n : Int) (h0 : 0 ≤ n) (h1 : n ≤ 1048576) (h : (l.length : Int) ≤ n) : laws_szRowS.f l n = some (n - l.length) := by
 unfold laws_szRowS.f
 rw [if_neg (by unfold wrap64; omega)]
 congr 1
 unfold wrap64
 omega
theorem toRowS_go (l : List S77) (hl : l.length ≤ 1048576) (d : Nat) : ∀ (k : Nat) (acc : List S75) (i : Int), 0 ≤ i → i ≤ l.length → acc.length = l.length → acc.take i.toNat = (l.map toR).take i.toNat → (l.length : Int) - i = d → d < k →
  laws_toRowS.l0 k l acc i = some (l.map toR) := by
 induction d with
 | zero =>
  intro k acc i h0 h1 ha ht hd hk
  obtain ⟨k, rfl⟩ : ∃ m, k = m + 1 := ⟨k - 1, by omega⟩
  simp only [laws_toRowS.l0]
  rw [if_neg (by omega)]
  exact congrArg some (take_all acc _ i (by omega) (by rw [List.length_map]; exact ha) ht)
 | succ d ih =>
  intro k acc i h0 h1 ha ht hd hk
  obtain ⟨k, rfl⟩ : ∃ m, k = m + 1 := ⟨k - 1, by omega⟩
  simp only [laws_toRowS.l0]
  rw [if_pos (by omega), if_pos h0]
  simp only [laws_toRow.f, Option.bind_some]
  rw [if_pos (by omega), wrap_succ h0 (n := l.length) (by omega) (by omega)]
  exact ih k _ (i + 1) (by omega) (by omega) (by rw [List.length_set]; exact ha) (take_set_succ toR l acc z77 i h0 (by omega) ha ht) (by omega) (by omega)
theorem toRowS_eq (l : List S77) (hl : l.length ≤ 1048576) (k : Nat) (hk : l.length < k) : laws_toRowS.f k l = some (l.map toR) := by
 unfold laws_toRowS.f
 rw [if_pos (by omega), if_pos (by omega)]
 exact toRowS_go l hl l.length k _ 0 (by omega) (by omega) (by simp) rfl (by omega) hk
theorem eqRow_self (x : S75) : laws_eqRow.f x.f0 x.f1 x.f2 x.f0 x.f1 x.f2 = some true := by
 simp [laws_eqRow.f]
theorem eqRowS_go (l : List S75) (hl : l.length ≤ 9223372036854775807) (d : Nat) : ∀ (k : Nat) (i : Int), 0 ≤ i → i ≤ l.length → (l.length : Int) - i = d → d < k → laws_eqRowS.l0 k l l i = some true := by
 induction d with
 | zero =>
  intro k i h0 h1 hd hk
  obtain ⟨k, rfl⟩ : ∃ m, k = m + 1 := ⟨k - 1, by omega⟩
  simp only [laws_eqRowS.l0]
  rw [if_neg (by omega)]
 | succ d ih =>
  intro k i h0 h1 hd hk
  obtain ⟨k, rfl⟩ : ∃ m, k = m + 1 := ⟨k - 1, by omega⟩
  simp only [laws_eqRowS.l0]
  rw [if_pos (by omega), if_pos h0, if_pos (by omega), eqRow_self]
  simp only [Option.bind_some, if_true]
  rw [wrap_succ h0 (n := l.length) (by omega) (by omega)]
  exact ih k (i + 1) (by omega) (by omega) (by omega) (by omega)
theorem eqRowS_self (l : List S75) (hl : l.length ≤ 9223372036854775807) (k : Nat) (hk : l.length < k) : laws_eqRowS.f k l l = some true := by
 unfold laws_eqRowS.f
 rw [if_pos rfl]
 exact eqRowS_go l hl l.length k 0 (by omega) (by omega) (by omega) hk
end Go.Proofs.Ytngeppmincgebaa.Pure
end
section
namespace Go.Proofs.Ytngeppmincgebaa.Pure
open Go.RowKit Go.Proofs.Ytngeppmincgebaa.P Go.Proofs.YtngeppmincgebaaW.PrintWords Go.Proofs.YtngeppmincgebaaW.PrintLast
def toRn (x : S91) : S93 := ⟨x.f0.map toR⟩
def totN : List S91 → Int
 | [] => 0
 | x :: l => x.f0.length + totN l
theorem totN_bd (l : List S91) : 0 ≤ totN l := by
 induction l with
 | nil => simp [totN]
 | cons x l ih =>
  simp only [totN]
  omega
theorem totN_mem (l : List S91) (x : S91) (h : x ∈ l) : (x.f0.length : Int) ≤ totN l := by
 induction l with
 | nil => cases h
 | cons y l ih =>
  have := totN_bd l
  simp only [totN]
  rcases List.mem_cons.1 h with rfl | h
  ·omega
  ·have := ih h
   omega
theorem szRun_eq (l : List S77) (hl : l.length ≤ 9223372036854775807) (n : Int) (h0 : 0 ≤ n) (h1 : n ≤ 1048576) : laws_szRun.f l n = some (if (l.length : Int) ≤ n then n - l.length else -1) := by
 unfold laws_szRun.f
 by_cases h : (l.length : Int) ≤ n
 ·rw [szRowS_yes l n h0 h1 h, if_pos h]
  simp only [Option.bind_some]
  rw [if_neg (by omega)]
 ·rw [szRowS_no l n h0 h1 hl (by omega), if_neg h]
  rfl
theorem szRunS_go (l : List S91) (hl : l.length ≤ 9223372036854775807) (ho : ∀ x ∈ l, x.f0.length ≤ 9223372036854775807) (d : Nat) : ∀ (k : Nat) (n i : Int), 0 ≤ n → n ≤ 1048576 → 0 ≤ i → i ≤ l.length → (l.length : Int) - i = d → d < k →
  laws_szRunS.l0 k l n i = some (if totN (l.drop i.toNat) ≤ n then n - totN (l.drop i.toNat) else -1) := by
 induction d with
 | zero =>
  intro k n i hn0 hn1 h0 h1 hd hk
  obtain ⟨k, rfl⟩ : ∃ m, k = m + 1 := ⟨k - 1, by omega⟩
  simp only [laws_szRunS.l0]
  rw [if_neg (by omega), drop_end l i (by omega), show totN ([] : List S91) = 0 from rfl, if_pos hn0]
  simp
 | succ d ih =>
  intro k n i hn0 hn1 h0 h1 hd hk
  obtain ⟨k, rfl⟩ : ∃ m, k = m + 1 := ⟨k - 1, by omega⟩
  have hm := ho _ (getD_mem l z91 i h0 (by omega))
  simp only [laws_szRunS.l0]
  rw [if_pos (by omega), if_pos h0, drop_getD l z91 i h0 (by omega)]
  show ((laws_szRun.f (l.getD i.toNat z91).f0 n).bind _) = _
  have ht := totN_bd (l.drop (i + 1).toNat)
  rw [szRun_eq _ hm n hn0 hn1]
  rw [show ∀ (x : S91) y, totN (x :: y) = x.f0.length + totN y from fun _ _ => rfl]
  simp only [Option.bind_some]
  by_cases hx : ((l.getD i.toNat z91).f0.length : Int) ≤ n
  ·rw [if_pos hx, if_neg (by omega), wrap_succ h0 (n := l.length) (by omega) (by omega), ih k _ (i + 1) (by omega) (by omega) (by omega) (by omega) (by omega) (by omega)]
   split
   ·rw [if_pos (by omega)]
    congr 1
    omega
   ·rw [if_neg (by omega)]
  ·rw [if_neg hx, if_pos (by omega), if_neg (by omega)]
theorem szRunS_eq (l : List S91) (hl : l.length ≤ 9223372036854775807) (ho : ∀ x ∈ l, x.f0.length ≤ 9223372036854775807) (n : Int) (h0 : 0 ≤ n) (h1 : n ≤ 1048576) (k : Nat) (hk : l.length < k) :
  laws_szRunS.f k l n = some (if l.length + totN l ≤ n then n - l.length - totN l else -1) := by
 unfold laws_szRunS.f
 have ht := totN_bd l
 by_cases h : (l.length : Int) ≤ n
 ·rw [wrap_id (by omega) (by omega), if_neg (by omega), szRunS_go l hl ho l.length k _ 0 (by omega) (by omega) (by omega) (by omega) (by omega) hk]
  simp only [Int.toNat_zero, List.drop_zero]
  by_cases h2 : (l.length + totN l : Int) ≤ n
  ·rw [if_pos (by omega), if_pos h2]
  ·rw [if_neg (by omega), if_neg h2]
 ·rw [if_pos (by unfold wrap64; omega), if_neg (by omega)]
theorem toRunS_go (l : List S91) (hl : l.length ≤ 1048576) (ho : ∀ x ∈ l, x.f0.length ≤ 1048576) (d : Nat) : ∀ (k : Nat) (acc : List S93) (i : Int), 0 ≤ i → i ≤ l.length → acc.length = l.length → acc.take i.toNat = (l.map toRn).take i.toNat → (l.length : Int) - i = d → d + 1048577 < k →
  laws_toRunS.l0 k l acc i = some (l.map toRn) := by
 induction d with
 | zero =>
  intro k acc i h0 h1 ha ht hd hk
  obtain ⟨k, rfl⟩ : ∃ m, k = m + 1 := ⟨k - 1, by omega⟩
  simp only [laws_toRunS.l0]
  rw [if_neg (by omega)]
  exact congrArg some (take_all acc _ i (by omega) (by rw [List.length_map]; exact ha) ht)
 | succ d ih =>
  intro k acc i h0 h1 ha ht hd hk
  obtain ⟨k, rfl⟩ : ∃ m, k = m + 1 := ⟨k - 1, by omega⟩
  have hm := ho _ (getD_mem l z91 i h0 (by omega))
  simp only [laws_toRunS.l0]
  rw [if_pos (by omega), if_pos h0]
  simp only [laws_toRun.f]
  have ht1 : laws_toRowS.f k (rd_T91 l i).f0 = some ((rd_T91 l i).f0.map toR) := toRowS_eq _ hm k (by show (l.getD i.toNat z91).f0.length < k; omega)
  rw [ht1]
  simp only [Option.bind_some]
  rw [if_pos (by omega), wrap_succ h0 (n := l.length) (by omega) (by omega)]
  exact ih k _ (i + 1) (by omega) (by omega) (by rw [List.length_set]; exact ha) (take_set_succ toRn l acc z91 i h0 (by omega) ha ht) (by omega) (by omega)
theorem toRunS_eq (l : List S91) (hl : l.length ≤ 1048576) (ho : ∀ x ∈ l, x.f0.length ≤ 1048576) (k : Nat) (hk : l.length + 1048577 < k) : laws_toRunS.f k l = some (l.map toRn) := by
 unfold laws_toRunS.f
 rw [if_pos (by omega), if_pos (by omega)]
 exact toRunS_go l hl ho l.length k _ 0 (by omega) (by omega) (by simp) rfl (by omega) hk
theorem eqRunS_go (l : List S93) (hl : l.length ≤ 1048576) (ho : ∀ x ∈ l, x.f0.length ≤ 1048576) (d : Nat) : ∀ (k : Nat) (i : Int), 0 ≤ i → i ≤ l.length → (l.length : Int) - i = d → d + 1048577 < k → laws_eqRunS.l0 k l l i = some true := by
 induction d with
 | zero =>
  intro k i h0 h1 hd hk
  obtain ⟨k, rfl⟩ : ∃ m, k = m + 1 := ⟨k - 1, by omega⟩
  simp only [laws_eqRunS.l0]
  rw [if_neg (by omega)]
 | succ d ih =>
  intro k i h0 h1 hd hk
  obtain ⟨k, rfl⟩ : ∃ m, k = m + 1 := ⟨k - 1, by omega⟩
  have hm := ho _ (getD_mem l z93 i h0 (by omega))
  simp only [laws_eqRunS.l0]
  rw [if_pos (by omega), if_pos h0, if_pos (by omega)]
  simp only [laws_eqRun.f]
  have ht1 : laws_eqRowS.f k (rd_T93 l i).f0 (rd_T93 l i).f0 = some true := eqRowS_self _ (by show (l.getD i.toNat z93).f0.length ≤ _; omega) k (by show (l.getD i.toNat z93).f0.length < k; omega)
  rw [ht1]
  simp only [Option.bind_some, if_true]
  rw [wrap_succ h0 (n := l.length) (by omega) (by omega)]
  exact ih k (i + 1) (by omega) (by omega) (by omega) (by omega)
theorem eqRunS_self (l : List S93) (hl : l.length ≤ 1048576) (ho : ∀ x ∈ l, x.f0.length ≤ 1048576) (k : Nat) (hk : l.length + 1048577 < k) : laws_eqRunS.f k l l = some true := by
 unfold laws_eqRunS.f
 rw [if_pos rfl]
 exact eqRunS_go l hl ho l.length k 0 (by omega) (by omega) (by omega) hk
theorem toRn_small (l : List S91) (ho : ∀ x ∈ l, x.f0.length ≤ 1048576) : ∀ x ∈ l.map toRn, x.f0.length ≤ 1048576 := by
 intro x hx
 obtain ⟨y, hy, rfl⟩ := List.mem_map.1 hx
 have := ho y hy
 simpa [toRn] using this
end Go.Proofs.Ytngeppmincgebaa.Pure
end
section
namespace Go.Proofs.Ytngeppmincgebaa.Pure
open Go.RowKit Go.Proofs.Ytngeppmincgebaa.P Go.Proofs.Ytngeppmincgebaa.StFnExactFormatRuns Go.Proofs.YtngeppmincgebaaW.PrintWords Go.Proofs.YtngeppmincgebaaW.PrintLast Go.Proofs.Ytngeppmincgebaa.Opn
theorem FnExactFormatRuns : StFnExactFormatRuns.Pure := by
 intro l h
 have ho : ∀ x ∈ l, x.f0.length ≤ 9223372036854775807 := fun x hx => (h.2 x hx).1
 obtain ⟨k, hk⟩ : ∃ k, k = l.length + 10000000 := ⟨_, rfl⟩
 have s0 := szRunS_eq l h.1 ho 1048576 (by omega) (by omega) k (by omega)
 refine ⟨k, ?_⟩
 unfold laws_FnExactFormatRuns.f
 rw [s0]
 by_cases b0 : (l.length + totN l : Int) ≤ 1048576
 ·have ht := totN_bd l
  have hs : ∀ x ∈ l, x.f0.length ≤ 1048576 := fun x hx => by
   have := totN_mem l x hx
   omega
  have hs2 := toRn_small l hs
  have t0 := toRunS_eq l (by omega) hs k (by omega)
  have lm : (l.map toRn).length = l.length := List.length_map _
  have a0 := fN_spec (l.map toRn) (by omega) 1048576 (by omega) hs2 k (by omega)
  have a1 := fN_impl (l.map toRn) (by omega) 1048576 (by omega) hs2 k (by omega)
  have e0 := eqRunS_self (l.map toRn) (by omega) hs2 k (by omega)
  rw [if_pos b0]
  simp only [Option.bind_some, t0, a0, a1, e0, if_true]
  rw [if_neg (by omega)]
 ·rw [if_neg b0]
  rfl
end Go.Proofs.Ytngeppmincgebaa.Pure
end
