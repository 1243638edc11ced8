import Derived.Below
import Derived.ChangeOld
import Derived.OpenShut
import Derived.ProofKit
import Derived.ShutString
import Derived.SizedLaws
import Derived.Test.YtngeppmincgebaaRows
import Derived.WalkKit
import Derived.Test.YtngeppmincgebaaKFnExactSorterMemory7
import Derived.Test.YtngeppmincgebaaKFnExactSorterMemory8
namespace Go.Proofs.Ytngeppmincgebaa.fnExactSorterMemory
open Go.ChangeShapes Go.WideShapes Go.ChangeAt Go.RowKit Go.Proofs.YtngeppmincgebaaW.PrintWords Go.Proofs.Ytngeppmincgebaa.P Go.Proofs.Ytngeppmincgebaa.StFnExactSorterMemory Go.Proofs.Ytngeppmincgebaa.Opn
open Go.ChangeMaps (open_string shut_string)
set_option linter.unusedVariables false
theorem own : ownKnob Try.prog.godebug = none := by kernel_rfl
theorem laidOut : laidOutB Try.prog = true := by kernel_rfl
theorem opens77 : Opn.Opens Try.prog 77 k77 ok77 := by
 intro H enc W base spare held fuel cs x h
 obtain ⟨xs, n, _, _, hl, hxl, hall⟩ := DataW.trod_struct Try.underlying77 h
 have h0 := hall 0 _ rfl
 rw [List.getElem?_eq_getElem (show 0 < xs.length by rw [hxl]; decide)] at h0
 obtain ⟨a0, k0_, w0⟩ := (Opn.opens_int Try.underlying3) H enc W base spare held n _ _ h0
 have c0 : Try.prog.cellsOf 3 = 1 := by kernel_rfl
 have e0 : ((Kd.int .i64)).K W a0 ((cs.drop 0).take 1) := by have z : ((Kd.int .i64)).K W a0 ((cs.drop 0).take (Try.prog.cellsOf 3)) := k0_; rw [c0] at z; exact z
 have h1 := hall 1 _ rfl
 rw [List.getElem?_eq_getElem (show 1 < xs.length by rw [hxl]; decide)] at h1
 obtain ⟨a1, k1_, w1⟩ := (Opn.opens_int Try.underlying3) H enc W base spare held n _ _ h1
 have c1 : Try.prog.cellsOf 3 = 1 := by kernel_rfl
 have e1 : ((Kd.int .i64)).K W a1 ((cs.drop 1).take 1) := by have z : ((Kd.int .i64)).K W a1 ((cs.drop 1).take (Try.prog.cellsOf 3)) := k1_; rw [c1] at z; exact z
 have h2 := hall 2 _ rfl
 rw [List.getElem?_eq_getElem (show 2 < xs.length by rw [hxl]; decide)] at h2
 obtain ⟨a2, k2_, w2⟩ := (Opn.opens_int Try.underlying3) H enc W base spare held n _ _ h2
 have c2 : Try.prog.cellsOf 3 = 1 := by kernel_rfl
 have e2 : ((Kd.int .i64)).K W a2 ((cs.drop 2).take 1) := by have z : ((Kd.int .i64)).K W a2 ((cs.drop 2).take (Try.prog.cellsOf 3)) := k2_; rw [c2] at z; exact z
 have hcs : cs.length = 3 := hl.trans (show _ = _ by kernel_rfl)
 clear hall hl hxl h0 k0_ h1 k1_ h2 k2_ h
 have g0 : ((Kd.int .i64)).K W a0 (cs.take 1) := by
  have z := e0
  simpa only [List.drop_drop, List.drop_zero, Nat.reduceAdd] using z
 have g1 : ((Kd.int .i64)).K W a1 ((cs.drop 1).take 1) := by
  have z := e1
  exact z
 have g2 : ((Kd.int .i64)).K W a2 (((cs.drop 1).drop 1)) := by
  have z := e2
  rw [List.take_of_length_le (by simp only [List.length_drop]; omega)] at z
  simpa only [List.drop_drop, List.drop_zero, Nat.reduceAdd] using z
 exact ⟨⟨a0, a1, a2⟩, ⟨cs.take 1, cs.drop 1, (List.take_append_drop _ _).symm, g0, ⟨(cs.drop 1).take 1, (cs.drop 1).drop 1, (List.take_append_drop _ _).symm, g1, g2⟩⟩, ⟨w0, w1, w2⟩⟩
theorem opens91 : Opn.Opens Try.prog 91 k91 ok91 := by
 intro H enc W base spare held fuel cs x h
 obtain ⟨xs, n, _, _, hl, hxl, hall⟩ := DataW.trod_struct Try.underlying91 h
 have h0 := hall 0 _ rfl
 rw [List.getElem?_eq_getElem (show 0 < xs.length by rw [hxl]; decide)] at h0
 obtain ⟨a0, k0_, w0⟩ := (Opn.opens_slice Try.underlying22 (show _ = _ by kernel_rfl) opens77) H enc W base spare held n _ _ h0
 have c0 : Try.prog.cellsOf 22 = 1 := by kernel_rfl
 have e0 : ((Kd.slice 77 k77)).K W a0 ((cs.drop 0).take 1) := by have z : ((Kd.slice 77 k77)).K W a0 ((cs.drop 0).take (Try.prog.cellsOf 22)) := k0_; rw [c0] at z; exact z
 have hcs : cs.length = 1 := hl.trans (show _ = _ by kernel_rfl)
 clear hall hl hxl h0 k0_ h
 have g0 : ((Kd.slice 77 k77)).K W a0 (cs) := by
  have z := e0
  rw [List.take_of_length_le (by simp only [List.length_drop]; omega)] at z
  simpa only [List.drop_drop, List.drop_zero, Nat.reduceAdd] using z
 exact ⟨⟨a0⟩, g0, w0⟩
theorem opens65 : Opn.Opens Try.prog 65 k65 ok65 := by
 intro H enc W base spare held fuel cs x h
 obtain ⟨xs, n, _, _, hl, hxl, hall⟩ := DataW.trod_struct Try.underlying65 h
 have h0 := hall 0 _ rfl
 rw [List.getElem?_eq_getElem (show 0 < xs.length by rw [hxl]; decide)] at h0
 obtain ⟨a0, k0_, w0⟩ := (Opn.opens_slice Try.underlying22 (show _ = _ by kernel_rfl) opens77) H enc W base spare held n _ _ h0
 have c0 : Try.prog.cellsOf 22 = 1 := by kernel_rfl
 have e0 : ((Kd.slice 77 k77)).K W a0 ((cs.drop 0).take 1) := by have z : ((Kd.slice 77 k77)).K W a0 ((cs.drop 0).take (Try.prog.cellsOf 22)) := k0_; rw [c0] at z; exact z
 have h1 := hall 1 _ rfl
 rw [List.getElem?_eq_getElem (show 1 < xs.length by rw [hxl]; decide)] at h1
 obtain ⟨a1, k1_, w1⟩ := (Opn.opens_int Try.underlying3) H enc W base spare held n _ _ h1
 have c1 : Try.prog.cellsOf 3 = 1 := by kernel_rfl
 have e1 : ((Kd.int .i64)).K W a1 ((cs.drop 1).take 1) := by have z : ((Kd.int .i64)).K W a1 ((cs.drop 1).take (Try.prog.cellsOf 3)) := k1_; rw [c1] at z; exact z
 have h2 := hall 2 _ rfl
 rw [List.getElem?_eq_getElem (show 2 < xs.length by rw [hxl]; decide)] at h2
 obtain ⟨a2, k2_, w2⟩ := (Opn.opens_slice Try.underlying22 (show _ = _ by kernel_rfl) opens77) H enc W base spare held n _ _ h2
 have c2 : Try.prog.cellsOf 22 = 1 := by kernel_rfl
 have e2 : ((Kd.slice 77 k77)).K W a2 ((cs.drop 2).take 1) := by have z : ((Kd.slice 77 k77)).K W a2 ((cs.drop 2).take (Try.prog.cellsOf 22)) := k2_; rw [c2] at z; exact z
 have h3 := hall 3 _ rfl
 rw [List.getElem?_eq_getElem (show 3 < xs.length by rw [hxl]; decide)] at h3
 obtain ⟨a3, k3_, w3⟩ := (Opn.opens_slice Try.underlying22 (show _ = _ by kernel_rfl) opens77) H enc W base spare held n _ _ h3
 have c3 : Try.prog.cellsOf 22 = 1 := by kernel_rfl
 have e3 : ((Kd.slice 77 k77)).K W a3 ((cs.drop 3).take 1) := by have z : ((Kd.slice 77 k77)).K W a3 ((cs.drop 3).take (Try.prog.cellsOf 22)) := k3_; rw [c3] at z; exact z
 have h4 := hall 4 _ rfl
 rw [List.getElem?_eq_getElem (show 4 < xs.length by rw [hxl]; decide)] at h4
 obtain ⟨a4, k4_, w4⟩ := (Opn.opens_slice Try.underlying22 (show _ = _ by kernel_rfl) opens77) H enc W base spare held n _ _ h4
 have c4 : Try.prog.cellsOf 22 = 1 := by kernel_rfl
 have e4 : ((Kd.slice 77 k77)).K W a4 ((cs.drop 4).take 1) := by have z : ((Kd.slice 77 k77)).K W a4 ((cs.drop 4).take (Try.prog.cellsOf 22)) := k4_; rw [c4] at z; exact z
 have h5 := hall 5 _ rfl
 rw [List.getElem?_eq_getElem (show 5 < xs.length by rw [hxl]; decide)] at h5
 obtain ⟨a5, k5_, w5⟩ := (Opn.opens_slice Try.underlying39 (show _ = _ by kernel_rfl) opens91) H enc W base spare held n _ _ h5
 have c5 : Try.prog.cellsOf 39 = 1 := by kernel_rfl
 have e5 : ((Kd.slice 91 k91)).K W a5 ((cs.drop 5).take 1) := by have z : ((Kd.slice 91 k91)).K W a5 ((cs.drop 5).take (Try.prog.cellsOf 39)) := k5_; rw [c5] at z; exact z
 have h6 := hall 6 _ rfl
 rw [List.getElem?_eq_getElem (show 6 < xs.length by rw [hxl]; decide)] at h6
 obtain ⟨a6, k6_, w6⟩ := (Opn.opens_int Try.underlying3) H enc W base spare held n _ _ h6
 have c6 : Try.prog.cellsOf 3 = 1 := by kernel_rfl
 have e6 : ((Kd.int .i64)).K W a6 ((cs.drop 6).take 1) := by have z : ((Kd.int .i64)).K W a6 ((cs.drop 6).take (Try.prog.cellsOf 3)) := k6_; rw [c6] at z; exact z
 have h7 := hall 7 _ rfl
 rw [List.getElem?_eq_getElem (show 7 < xs.length by rw [hxl]; decide)] at h7
 obtain ⟨a7, k7_, w7⟩ := (Opn.opens_int Try.underlying3) H enc W base spare held n _ _ h7
 have c7 : Try.prog.cellsOf 3 = 1 := by kernel_rfl
 have e7 : ((Kd.int .i64)).K W a7 ((cs.drop 7).take 1) := by have z : ((Kd.int .i64)).K W a7 ((cs.drop 7).take (Try.prog.cellsOf 3)) := k7_; rw [c7] at z; exact z
 have h8 := hall 8 _ rfl
 rw [List.getElem?_eq_getElem (show 8 < xs.length by rw [hxl]; decide)] at h8
 obtain ⟨a8, k8_, w8⟩ := (Opn.opens_int Try.underlying3) H enc W base spare held n _ _ h8
 have c8 : Try.prog.cellsOf 3 = 1 := by kernel_rfl
 have e8 : ((Kd.int .i64)).K W a8 ((cs.drop 8).take 1) := by have z : ((Kd.int .i64)).K W a8 ((cs.drop 8).take (Try.prog.cellsOf 3)) := k8_; rw [c8] at z; exact z
 have h9 := hall 9 _ rfl
 rw [List.getElem?_eq_getElem (show 9 < xs.length by rw [hxl]; decide)] at h9
 obtain ⟨a9, k9_, w9⟩ := (Opn.opens_int Try.underlying3) H enc W base spare held n _ _ h9
 have c9 : Try.prog.cellsOf 3 = 1 := by kernel_rfl
 have e9 : ((Kd.int .i64)).K W a9 ((cs.drop 9).take 1) := by have z : ((Kd.int .i64)).K W a9 ((cs.drop 9).take (Try.prog.cellsOf 3)) := k9_; rw [c9] at z; exact z
 have hcs : cs.length = 10 := hl.trans (show _ = _ by kernel_rfl)
 clear hall hl hxl h0 k0_ h1 k1_ h2 k2_ h3 k3_ h4 k4_ h5 k5_ h6 k6_ h7 k7_ h8 k8_ h9 k9_ h
 have g0 : ((Kd.slice 77 k77)).K W a0 (cs.take 1) := by
  have z := e0
  simpa only [List.drop_drop, List.drop_zero, Nat.reduceAdd] using z
 have g1 : ((Kd.int .i64)).K W a1 ((cs.drop 1).take 1) := by
  have z := e1
  exact z
 have g2 : ((Kd.slice 77 k77)).K W a2 (((cs.drop 1).drop 1).take 1) := by
  have z := e2
  simpa only [List.drop_drop, List.drop_zero, Nat.reduceAdd] using z
 have g3 : ((Kd.slice 77 k77)).K W a3 ((((cs.drop 1).drop 1).drop 1).take 1) := by
  have z := e3
  simpa only [List.drop_drop, List.drop_zero, Nat.reduceAdd] using z
 have g4 : ((Kd.slice 77 k77)).K W a4 (((((cs.drop 1).drop 1).drop 1).drop 1).take 1) := by
  have z := e4
  simpa only [List.drop_drop, List.drop_zero, Nat.reduceAdd] using z
 have g5 : ((Kd.slice 91 k91)).K W a5 ((((((cs.drop 1).drop 1).drop 1).drop 1).drop 1).take 1) := by
  have z := e5
  simpa only [List.drop_drop, List.drop_zero, Nat.reduceAdd] using z
 have g6 : ((Kd.int .i64)).K W a6 (((((((cs.drop 1).drop 1).drop 1).drop 1).drop 1).drop 1).take 1) := by
  have z := e6
  simpa only [List.drop_drop, List.drop_zero, Nat.reduceAdd] using z
 have g7 : ((Kd.int .i64)).K W a7 ((((((((cs.drop 1).drop 1).drop 1).drop 1).drop 1).drop 1).drop 1).take 1) := by
  have z := e7
  simpa only [List.drop_drop, List.drop_zero, Nat.reduceAdd] using z
 have g8 : ((Kd.int .i64)).K W a8 (((((((((cs.drop 1).drop 1).drop 1).drop 1).drop 1).drop 1).drop 1).drop 1).take 1) := by
  have z := e8
  simpa only [List.drop_drop, List.drop_zero, Nat.reduceAdd] using z
 have g9 : ((Kd.int .i64)).K W a9 ((((((((((cs.drop 1).drop 1).drop 1).drop 1).drop 1).drop 1).drop 1).drop 1).drop 1)) := by
  have z := e9
  rw [List.take_of_length_le (by simp only [List.length_drop]; omega)] at z
  simpa only [List.drop_drop, List.drop_zero, Nat.reduceAdd] using z
 exact ⟨⟨a0, a1, a2, a3, a4, a5, a6, a7, a8, a9⟩, ⟨cs.take 1, cs.drop 1, (List.take_append_drop _ _).symm, g0, ⟨(cs.drop 1).take 1, (cs.drop 1).drop 1, (List.take_append_drop _ _).symm, g1, ⟨((cs.drop 1).drop 1).take 1, ((cs.drop 1).drop 1).drop 1, (List.take_append_drop _ _).symm, g2, ⟨(((cs.drop 1).drop 1).drop 1).take 1, (((cs.drop 1).drop 1).drop 1).drop 1, (List.take_append_drop _ _).symm, g3, ⟨((((cs.drop 1).drop 1).drop 1).drop 1).take 1, ((((cs.drop 1).drop 1).drop 1).drop 1).drop 1, (List.take_append_drop _ _).symm, g4, ⟨(((((cs.drop 1).drop 1).drop 1).drop 1).drop 1).take 1, (((((cs.drop 1).drop 1).drop 1).drop 1).drop 1).drop 1, (List.take_append_drop _ _).symm, g5, ⟨((((((cs.drop 1).drop 1).drop 1).drop 1).drop 1).drop 1).take 1, ((((((cs.drop 1).drop 1).drop 1).drop 1).drop 1).drop 1).drop 1, (List.take_append_drop _ _).symm, g6, ⟨(((((((cs.drop 1).drop 1).drop 1).drop 1).drop 1).drop 1).drop 1).take 1, (((((((cs.drop 1).drop 1).drop 1).drop 1).drop 1).drop 1).drop 1).drop 1, (List.take_append_drop _ _).symm, g7, ⟨((((((((cs.drop 1).drop 1).drop 1).drop 1).drop 1).drop 1).drop 1).drop 1).take 1, ((((((((cs.drop 1).drop 1).drop 1).drop 1).drop 1).drop 1).drop 1).drop 1).drop 1, (List.take_append_drop _ _).symm, g8, g9⟩⟩⟩⟩⟩⟩⟩⟩⟩, ⟨w0, w1, w2, w3, w4, w5, w6, w7, w8, w9⟩⟩
set_option maxRecDepth 100000 in
theorem lifted (os : Os) (started : os.Started) (H : Type) (enc : TypeId × Value → H) :
  ReturnsInHanded {} Try.checked os 14 .any (Rows.fnExactSorterMemorySpec.pre6 enc Try.prog Try.f14 Rows.fnExactSorterMemoryRow.domain false) (Rows.fnExactSorterMemorySpec.post enc Try.prog Try.f14 false true false false) := by
 refine returnsInHanded_of_change_sized (C := Try.checked) own started (by kernel_rfl) Try.func14
  (ChangeSpec.witness6 (enc := enc) (C := Try.checked) false ⟨#[], #[.agg #[.slice none 0 0, .int .i64 0, .slice none 0 0, .slice none 0 0, .slice none 0 0, .slice none 0 0, .int .i64 0, .int .i64 0, .int .i64 0, .int .i64 0]], []⟩ 8 (by kernel_rfl) (by kernel_rfl) (by kernel_rfl) (by kernel_rfl)) ?_
 intro W base args ds gs before hval0 hW hcnd hsz0 _
 have hval : ∀ (j : Nat) t v, Try.f14.params[j]? = some t → args[j]? = some v → Value.okWide Try.prog W .any base t v := hval0
 have hW' := hW
 obtain ⟨p, q, hA0, hV, rfl, hfz, hnd⟩ := hW
 have hA : DataW.TrodAll enc Try.prog W 0 (fun _ => true) true Try.f14.params.toList args.toList ds p := hA0
 rw [Try.params14] at hA hval
 obtain ⟨v0, vs0, d0, ds0, p0, q0, hargs, rfl, rfl, h0, r0⟩ := trodAll_cons hA
 obtain ⟨rfl, rfl, rfl⟩ := trodAll_nil r0
 obtain rfl : args = #[v0] := by cases args; simp_all
 obtain ⟨rfl, rfl⟩ := trodVars_none hV
 have k0 := h0
 have lt0 : ∀ x ∈ p0, x.block < W.heap.size := by obtain ⟨m, hm⟩ := k0; exact DataW.trod_lt m _ _ _ hm
 obtain ⟨fuel0, hf0⟩ := h0
 obtain ⟨cs0, rfl, _⟩ := okWide_struct Try.underlying65 (hval 0 65 v0 rfl rfl)
 obtain ⟨x0, hK0, w0⟩ := opens65 H enc W 0 _ true fuel0 _ _ hf0
 obtain ⟨A0_0, c0_0, A0_2, c0_2, A0_3, c0_3, A0_4, c0_4, A0_5, c0_5, hcs0, hc0_0, hr0_0, hc0_2, hr0_2, hc0_3, hr0_3, hc0_4, hr0_4, hc0_5, hr0_5⟩ := k65_open hK0
 obtain rfl : cs0 = #[.slice A0_0 x0.f0.length c0_0, .int .i64 x0.f1, .slice A0_2 x0.f2.length c0_2, .slice A0_3 x0.f3.length c0_3, .slice A0_4 x0.f4.length c0_4, .slice A0_5 x0.f5.length c0_5, .int .i64 x0.f6, .int .i64 x0.f7, .int .i64 x0.f8, .int .i64 x0.f9] := by cases cs0; simp [Value.cells] at hcs0; simp [hcs0]
 clear hA0 hval0 hsz0
 obtain ⟨k, hp⟩ := Pure.FnExactSorterMemory x0 w0
 refine (laws_FnExactSorterMemory.calls k _ _ x0.f0 x0.f1 _ _ x0.f2 _ _ x0.f3 _ _ x0.f4 _ _ x0.f5 x0.f6 x0.f7 x0.f8 x0.f9 true W hr0_0 hc0_0 hr0_2 hc0_2 hr0_3 hc0_3 hr0_4 hc0_4 hr0_5 hc0_5 hp rfl).mono fun e W' hq => ?_
 obtain ⟨he, hbel⟩ := hq
 have bel : Below W.heap.size W W' := by first | exact hbel | exact hbel.below
 subst he
 exact ⟨_, rfl, _, _, _, [], _, [], hW', trodAll_mk1 (shut_bool Try.underlying4 _), (trodAll_cons_mk (Below.trod laidOut (by kernel_rfl) (of_decide_eq_true (by kernel_rfl)) k0 bel lt0) trodAll_mk0), rfl, bel.frame _, fun h => by cases h⟩
theorem over : Rows.fnExactSorterMemoryRow.holds Try.pinned (OpenSpec.ofChange Rows.fnExactSorterMemorySpec) :=
 OpenClaim.holds_of_wide 14 Try.f14 rfl rfl rfl rfl rfl rfl rfl ⟨rfl, rfl, rfl, rfl, rfl⟩ rfl rfl rfl rfl rfl (by kernel_rfl) Try.func14 (by kernel_rfl)
  (of_decide_eq_true (by kernel_rfl)) (by unfold Func.isWrapper; first | (rw [if_pos (by decide +kernel)]; kernel_rfl) | (rw [if_neg (by decide +kernel)]; exact ⟨rfl, rfl⟩))
  (fun os started H enc _ => lifted os started H enc)
theorem proved : Rows.FnExactSorterMemorySaid := over
#print axioms proved
end Go.Proofs.Ytngeppmincgebaa.fnExactSorterMemory
namespace Go.Proofs.Ytngeppmincgebaa
theorem fnExactSorterMemory_holds : Rows.FnExactSorterMemorySaid := fnExactSorterMemory.proved
end Go.Proofs.Ytngeppmincgebaa
