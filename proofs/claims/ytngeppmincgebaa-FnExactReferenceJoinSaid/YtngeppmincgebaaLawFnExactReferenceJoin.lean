/- The row of the law FnExactReferenceJoin: for every input that can be read the call returns true, and each argument reads afterwards as before. -/
import Derived.Test.YtngeppmincgebaaRows
import Derived.Test.YtngeppmincgebaaPx38
import Derived.Test.YtngeppmincgebaaPureFnExactReferenceJoin
import Derived.Test.YtngeppmincgebaaOpen
import Derived.WalkKit
import Derived.ProofKit
import Derived.OpenShut
import Derived.ShutString
import Derived.ChangeOld
import Derived.Below
import Derived.SizedLaws
namespace Go.Proofs.Ytngeppmincgebaa.fnExactReferenceJoin
open Go.ChangeShapes Go.WideShapes Go.ChangeAt Go.RowKit Go.Proofs.YtngeppmincgebaaW.PrintWords Go.Proofs.Ytngeppmincgebaa.P Go.Proofs.Ytngeppmincgebaa.StFnExactReferenceJoin Go.Proofs.Ytngeppmincgebaa.Opn
open Go.ChangeMaps (open_string shut_string)
set_option linter.unusedVariables false
theorem own : ownKnob Try.prog.godebug = none := by kernel_rfl
theorem laidOut : laidOutB Try.prog = true := by kernel_rfl
theorem opens77 : Opn.Opens Try.prog 77 k77 ok77 := by
  intro H enc W base spare held fuel cs x h
  obtain ⟨xs, n, _, _, hl, hxl, hall⟩ := DataW.trod_struct Try.underlying77 h
  have h0 := hall 0 _ rfl
  rw [List.getElem?_eq_getElem (show 0 < xs.length by rw [hxl]; decide)] at h0
  obtain ⟨a0, k0_, w0⟩ := (Opn.opens_int Try.underlying3) H enc W base spare held n _ _ h0
  have c0 : Try.prog.cellsOf 3 = 1 := by kernel_rfl
  have e0 : ((Kd.int .i64)).K W a0 ((cs.drop 0).take 1) := by have z : ((Kd.int .i64)).K W a0 ((cs.drop 0).take (Try.prog.cellsOf 3)) := k0_; rw [c0] at z; exact z
  have h1 := hall 1 _ rfl
  rw [List.getElem?_eq_getElem (show 1 < xs.length by rw [hxl]; decide)] at h1
  obtain ⟨a1, k1_, w1⟩ := (Opn.opens_int Try.underlying3) H enc W base spare held n _ _ h1
  have c1 : Try.prog.cellsOf 3 = 1 := by kernel_rfl
  have e1 : ((Kd.int .i64)).K W a1 ((cs.drop 1).take 1) := by have z : ((Kd.int .i64)).K W a1 ((cs.drop 1).take (Try.prog.cellsOf 3)) := k1_; rw [c1] at z; exact z
  have h2 := hall 2 _ rfl
  rw [List.getElem?_eq_getElem (show 2 < xs.length by rw [hxl]; decide)] at h2
  obtain ⟨a2, k2_, w2⟩ := (Opn.opens_int Try.underlying3) H enc W base spare held n _ _ h2
  have c2 : Try.prog.cellsOf 3 = 1 := by kernel_rfl
  have e2 : ((Kd.int .i64)).K W a2 ((cs.drop 2).take 1) := by have z : ((Kd.int .i64)).K W a2 ((cs.drop 2).take (Try.prog.cellsOf 3)) := k2_; rw [c2] at z; exact z
  have hcs : cs.length = 3 := hl.trans (show _ = _ by kernel_rfl)
  clear hall hl hxl h0 k0_ h1 k1_ h2 k2_ h
  have g0 : ((Kd.int .i64)).K W a0 (cs.take 1) := by
    have z := e0
    simpa only [List.drop_drop, List.drop_zero, Nat.reduceAdd] using z
  have g1 : ((Kd.int .i64)).K W a1 ((cs.drop 1).take 1) := by
    have z := e1
    exact z
  have g2 : ((Kd.int .i64)).K W a2 (((cs.drop 1).drop 1)) := by
    have z := e2
    rw [List.take_of_length_le (by simp only [List.length_drop]; omega)] at z
    simpa only [List.drop_drop, List.drop_zero, Nat.reduceAdd] using z
  exact ⟨⟨a0, a1, a2⟩, ⟨cs.take 1, cs.drop 1, (List.take_append_drop _ _).symm, g0, ⟨(cs.drop 1).take 1, (cs.drop 1).drop 1, (List.take_append_drop _ _).symm, g1, g2⟩⟩, ⟨w0, w1, w2⟩⟩
set_option maxRecDepth 100000 in
theorem lifted (os : Os) (started : os.Started) (H : Type) (enc : TypeId × Value → H) :
    ReturnsInHanded {} Try.checked os 9 .any (Rows.fnExactReferenceJoinSpec.pre6 enc Try.prog Try.f9 Rows.fnExactReferenceJoinRow.domain false) (Rows.fnExactReferenceJoinSpec.post enc Try.prog Try.f9 false true false false) := by
  refine returnsInHanded_of_change_sized (C := Try.checked) own started (by kernel_rfl) Try.func9
    (ChangeSpec.witness6 (enc := enc) (C := Try.checked) false ⟨#[], #[.int .i64 0, .slice none 0 0, .slice none 0 0], []⟩ 8 (by kernel_rfl) (by kernel_rfl) (by kernel_rfl) (by kernel_rfl)) ?_
  intro W base args ds gs before hval0 hW hcnd hsz0 _
  have hval : ∀ (j : Nat) t v, Try.f9.params[j]? = some t → args[j]? = some v → Value.okWide Try.prog W .any base t v := hval0
  have hW' := hW
  obtain ⟨p, q, hA0, hV, rfl, hfz, hnd⟩ := hW
  have hA : DataW.TrodAll enc Try.prog W 0 (fun _ => true) true Try.f9.params.toList args.toList ds p := hA0
  rw [Try.params9] at hA hval
  obtain ⟨v0, vs0, d0, ds0, p0, q0, hargs, rfl, rfl, h0, r0⟩ := trodAll_cons hA
  obtain ⟨v1, vs1, d1, ds1, p1, q1, rfl, rfl, rfl, h1, r1⟩ := trodAll_cons r0
  obtain ⟨v2, vs2, d2, ds2, p2, q2, rfl, rfl, rfl, h2, r2⟩ := trodAll_cons r1
  obtain ⟨rfl, rfl, rfl⟩ := trodAll_nil r2
  obtain rfl : args = #[v0, v1, v2] := by cases args; simp_all
  obtain ⟨rfl, rfl⟩ := trodVars_none hV
  obtain ⟨x0, rfl, rfl, rfl, w0⟩ := open_int Try.underlying3 (hval 0 3 v0 rfl rfl) h0
  have k1 := h1
  have lt1 : ∀ x ∈ p1, x.block < W.heap.size := by obtain ⟨m, hm⟩ := k1; exact DataW.trod_lt m _ _ _ hm
  obtain ⟨fuel1, hf1⟩ := h1
  obtain ⟨a1, len1, cap1, rfl⟩ := okWide_slice Try.underlying22 (hval 1 22 v1 rfl rfl)
  obtain ⟨x1, ⟨A1, c1, hcs1, hc1, hr1⟩, w1⟩ := (Opn.opens_slice Try.underlying22 (show _ = _ by kernel_rfl) opens77) H enc W 0 _ true fuel1 _ _ hf1
  simp [Value.cells] at hcs1
  obtain ⟨rfl, rfl, rfl⟩ := hcs1
  have k2 := h2
  have lt2 : ∀ x ∈ p2, x.block < W.heap.size := by obtain ⟨m, hm⟩ := k2; exact DataW.trod_lt m _ _ _ hm
  obtain ⟨fuel2, hf2⟩ := h2
  obtain ⟨a2, len2, cap2, rfl⟩ := okWide_slice Try.underlying22 (hval 2 22 v2 rfl rfl)
  obtain ⟨x2, ⟨A2, c2, hcs2, hc2, hr2⟩, w2⟩ := (Opn.opens_slice Try.underlying22 (show _ = _ by kernel_rfl) opens77) H enc W 0 _ true fuel2 _ _ hf2
  simp [Value.cells] at hcs2
  obtain ⟨rfl, rfl, rfl⟩ := hcs2
  clear hA0 hval0 hsz0
  obtain ⟨k, hp⟩ := Pure.FnExactReferenceJoin x0 x1 x2 w0 w1 w2
  refine (laws_FnExactReferenceJoin.calls k x0 _ _ x1 _ _ x2 true W hr1 hc1 hr2 hc2 hp rfl).mono fun e W' hq => ?_
  obtain ⟨he, hbel⟩ := hq
  have bel : Below W.heap.size W W' := by first | exact hbel | exact hbel.below
  subst he
  exact ⟨_, rfl, _, _, _, [], _, [], hW', trodAll_mk1 (shut_bool Try.underlying4 _), (trodAll_cons_mk (shut_int Try.underlying3 w0) (trodAll_cons_mk (Below.trod laidOut (by kernel_rfl) (of_decide_eq_true (by kernel_rfl)) k1 bel lt1) (trodAll_cons_mk (Below.trod laidOut (by kernel_rfl) (of_decide_eq_true (by kernel_rfl)) k2 bel lt2) trodAll_mk0))), rfl, bel.frame _, fun h => by cases h⟩
theorem over : Rows.fnExactReferenceJoinRow.holds Try.pinned (OpenSpec.ofChange Rows.fnExactReferenceJoinSpec) :=
  OpenClaim.holds_of_wide 9 Try.f9 rfl rfl rfl rfl rfl rfl rfl ⟨rfl, rfl, rfl, rfl, rfl⟩ rfl rfl rfl rfl rfl (by kernel_rfl) Try.func9 (by kernel_rfl)
    (of_decide_eq_true (by kernel_rfl)) (by unfold Func.isWrapper; first | (rw [if_pos (by decide +kernel)]; kernel_rfl) | (rw [if_neg (by decide +kernel)]; exact ⟨rfl, rfl⟩))
    (fun os started H enc _ => lifted os started H enc)
theorem proved : Rows.FnExactReferenceJoinSaid := over
#print axioms proved
end Go.Proofs.Ytngeppmincgebaa.fnExactReferenceJoin
namespace Go.Proofs.Ytngeppmincgebaa
/-- The row, under a short name, for the claim. -/
theorem fnExactReferenceJoin_holds : Rows.FnExactReferenceJoinSaid := fnExactReferenceJoin.proved
end Go.Proofs.Ytngeppmincgebaa
