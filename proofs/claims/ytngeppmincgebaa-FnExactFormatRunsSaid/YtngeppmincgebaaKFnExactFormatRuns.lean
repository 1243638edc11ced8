import Derived.Below
import Derived.ChangeOld
import Derived.OpenShut
import Derived.ProofKit
import Derived.ShutString
import Derived.SizedLaws
import Derived.Test.YtngeppmincgebaaRows
import Derived.WalkKit
import Derived.Test.YtngeppmincgebaaKFnExactFormatRuns4
namespace Go.Proofs.Ytngeppmincgebaa.fnExactFormatRuns
open Go.ChangeShapes Go.WideShapes Go.ChangeAt Go.RowKit Go.Proofs.YtngeppmincgebaaW.PrintWords Go.Proofs.Ytngeppmincgebaa.P Go.Proofs.Ytngeppmincgebaa.StFnExactFormatRuns Go.Proofs.Ytngeppmincgebaa.Opn
open Go.ChangeMaps (open_string shut_string)
set_option linter.unusedVariables false
theorem own : ownKnob Try.prog.godebug = none := by kernel_rfl
theorem laidOut : laidOutB Try.prog = true := by kernel_rfl
theorem opens77 : Opn.Opens Try.prog 77 k77 ok77 := by
 intro H enc W base spare held fuel cs x h
 obtain ⟨xs, n, _, _, hl, hxl, hall⟩ := DataW.trod_struct Try.underlying77 h
 have h0 := hall 0 _ rfl
 rw [List.getElem?_eq_getElem (show 0 < xs.length by rw [hxl]; decide)] at h0
 obtain ⟨a0, k0_, w0⟩ := (Opn.opens_int Try.underlying3) H enc W base spare held n _ _ h0
 have c0 : Try.prog.cellsOf 3 = 1 := by kernel_rfl
 have e0 : ((Kd.int .i64)).K W a0 ((cs.drop 0).take 1) := by have z : ((Kd.int .i64)).K W a0 ((cs.drop 0).take (Try.prog.cellsOf 3)) := k0_; rw [c0] at z; exact z
 have h1 := hall 1 _ rfl
 rw [List.getElem?_eq_getElem (show 1 < xs.length by rw [hxl]; decide)] at h1
 obtain ⟨a1, k1_, w1⟩ := (Opn.opens_int Try.underlying3) H enc W base spare held n _ _ h1
 have c1 : Try.prog.cellsOf 3 = 1 := by kernel_rfl
 have e1 : ((Kd.int .i64)).K W a1 ((cs.drop 1).take 1) := by have z : ((Kd.int .i64)).K W a1 ((cs.drop 1).take (Try.prog.cellsOf 3)) := k1_; rw [c1] at z; exact z
 have h2 := hall 2 _ rfl
 rw [List.getElem?_eq_getElem (show 2 < xs.length by rw [hxl]; decide)] at h2
 obtain ⟨a2, k2_, w2⟩ := (Opn.opens_int Try.underlying3) H enc W base spare held n _ _ h2
 have c2 : Try.prog.cellsOf 3 = 1 := by kernel_rfl
 have e2 : ((Kd.int .i64)).K W a2 ((cs.drop 2).take 1) := by have z : ((Kd.int .i64)).K W a2 ((cs.drop 2).take (Try.prog.cellsOf 3)) := k2_; rw [c2] at z; exact z
 have hcs : cs.length = 3 := hl.trans (show _ = _ by kernel_rfl)
 clear hall hl hxl h0 k0_ h1 k1_ h2 k2_ h
 have g0 : ((Kd.int .i64)).K W a0 (cs.take 1) := by
  have z := e0
  simpa only [List.drop_drop, List.drop_zero, Nat.reduceAdd] using z
 have g1 : ((Kd.int .i64)).K W a1 ((cs.drop 1).take 1) := by
  have z := e1
  exact z
 have g2 : ((Kd.int .i64)).K W a2 (((cs.drop 1).drop 1)) := by
  have z := e2
  rw [List.take_of_length_le (by simp only [List.length_drop]; omega)] at z
  simpa only [List.drop_drop, List.drop_zero, Nat.reduceAdd] using z
 exact ⟨⟨a0, a1, a2⟩, ⟨cs.take 1, cs.drop 1, (List.take_append_drop _ _).symm, g0, ⟨(cs.drop 1).take 1, (cs.drop 1).drop 1, (List.take_append_drop _ _).symm, g1, g2⟩⟩, ⟨w0, w1, w2⟩⟩
theorem opens91 : Opn.Opens Try.prog 91 k91 ok91 := by
 intro H enc W base spare held fuel cs x h
 obtain ⟨xs, n, _, _, hl, hxl, hall⟩ := DataW.trod_struct Try.underlying91 h
 have h0 := hall 0 _ rfl
 rw [List.getElem?_eq_getElem (show 0 < xs.length by rw [hxl]; decide)] at h0
 obtain ⟨a0, k0_, w0⟩ := (Opn.opens_slice Try.underlying22 (show _ = _ by kernel_rfl) opens77) H enc W base spare held n _ _ h0
 have c0 : Try.prog.cellsOf 22 = 1 := by kernel_rfl
 have e0 : ((Kd.slice 77 k77)).K W a0 ((cs.drop 0).take 1) := by have z : ((Kd.slice 77 k77)).K W a0 ((cs.drop 0).take (Try.prog.cellsOf 22)) := k0_; rw [c0] at z; exact z
 have hcs : cs.length = 1 := hl.trans (show _ = _ by kernel_rfl)
 clear hall hl hxl h0 k0_ h
 have g0 : ((Kd.slice 77 k77)).K W a0 (cs) := by
  have z := e0
  rw [List.take_of_length_le (by simp only [List.length_drop]; omega)] at z
  simpa only [List.drop_drop, List.drop_zero, Nat.reduceAdd] using z
 exact ⟨⟨a0⟩, g0, w0⟩
set_option maxRecDepth 100000 in
theorem lifted (os : Os) (started : os.Started) (H : Type) (enc : TypeId × Value → H) :
  ReturnsInHanded {} Try.checked os 12 .any (Rows.fnExactFormatRunsSpec.pre6 enc Try.prog Try.f12 Rows.fnExactFormatRunsRow.domain false) (Rows.fnExactFormatRunsSpec.post enc Try.prog Try.f12 false true false false) := by
 refine returnsInHanded_of_change_sized (C := Try.checked) own started (by kernel_rfl) Try.func12
  (ChangeSpec.witness6 (enc := enc) (C := Try.checked) false ⟨#[], #[.slice none 0 0], []⟩ 8 (by kernel_rfl) (by kernel_rfl) (by kernel_rfl) (by kernel_rfl)) ?_
 intro W base args ds gs before hval0 hW hcnd hsz0 _
 have hval : ∀ (j : Nat) t v, Try.f12.params[j]? = some t → args[j]? = some v → Value.okWide Try.prog W .any base t v := hval0
 have hW' := hW
 obtain ⟨p, q, hA0, hV, rfl, hfz, hnd⟩ := hW
 have hA : DataW.TrodAll enc Try.prog W 0 (fun _ => true) true Try.f12.params.toList args.toList ds p := hA0
 rw [Try.params12] at hA hval
 obtain ⟨v0, vs0, d0, ds0, p0, q0, hargs, rfl, rfl, h0, r0⟩ := trodAll_cons hA
 obtain ⟨rfl, rfl, rfl⟩ := trodAll_nil r0
 obtain rfl : args = #[v0] := by cases args; simp_all
 obtain ⟨rfl, rfl⟩ := trodVars_none hV
 have k0 := h0
 have lt0 : ∀ x ∈ p0, x.block < W.heap.size := by obtain ⟨m, hm⟩ := k0; exact DataW.trod_lt m _ _ _ hm
 obtain ⟨fuel0, hf0⟩ := h0
 obtain ⟨a0, len0, cap0, rfl⟩ := okWide_slice Try.underlying39 (hval 0 39 v0 rfl rfl)
 obtain ⟨x0, ⟨A0, c0, hcs0, hc0, hr0⟩, w0⟩ := (Opn.opens_slice Try.underlying39 (show _ = _ by kernel_rfl) opens91) H enc W 0 _ true fuel0 _ _ hf0
 simp [Value.cells] at hcs0
 obtain ⟨rfl, rfl, rfl⟩ := hcs0
 clear hA0 hval0 hsz0
 obtain ⟨k, hp⟩ := Pure.FnExactFormatRuns x0 w0
 refine (laws_FnExactFormatRuns.calls k _ _ x0 true W hr0 hc0 hp rfl).mono fun e W' hq => ?_
 obtain ⟨he, hbel⟩ := hq
 have bel : Below W.heap.size W W' := by first | exact hbel | exact hbel.below
 subst he
 exact ⟨_, rfl, _, _, _, [], _, [], hW', trodAll_mk1 (shut_bool Try.underlying4 _), (trodAll_cons_mk (Below.trod laidOut (by kernel_rfl) (of_decide_eq_true (by kernel_rfl)) k0 bel lt0) trodAll_mk0), rfl, bel.frame _, fun h => by cases h⟩
theorem over : Rows.fnExactFormatRunsRow.holds Try.pinned (OpenSpec.ofChange Rows.fnExactFormatRunsSpec) :=
 OpenClaim.holds_of_wide 12 Try.f12 rfl rfl rfl rfl rfl rfl rfl ⟨rfl, rfl, rfl, rfl, rfl⟩ rfl rfl rfl rfl rfl (by kernel_rfl) Try.func12 (by kernel_rfl)
  (of_decide_eq_true (by kernel_rfl)) (by unfold Func.isWrapper; first | (rw [if_pos (by decide +kernel)]; kernel_rfl) | (rw [if_neg (by decide +kernel)]; exact ⟨rfl, rfl⟩))
  (fun os started H enc _ => lifted os started H enc)
theorem proved : Rows.FnExactFormatRunsSaid := over
#print axioms proved
end Go.Proofs.Ytngeppmincgebaa.fnExactFormatRuns
namespace Go.Proofs.Ytngeppmincgebaa
theorem fnExactFormatRuns_holds : Rows.FnExactFormatRunsSaid := fnExactFormatRuns.proved
end Go.Proofs.Ytngeppmincgebaa
