/- The row of the law FnExactEqualBrokers: for every input that can be read the call returns true, and each argument reads afterwards as before. -/
import Derived.Test.YtjlhfemfmkdlhaaRows
import Derived.Test.YtjlhfemfmkdlhaaPx8
import Derived.Test.YtjlhfemfmkdlhaaPureFnExactEqualBrokers
import Derived.Test.YtjlhfemfmkdlhaaOpen
import Derived.WalkKit
import Derived.ProofKit
import Derived.OpenShut
import Derived.ShutString
import Derived.ChangeOld
import Derived.Below
import Derived.SizedLaws
namespace Go.Proofs.Ytjlhfemfmkdlhaa.fnExactEqualBrokers
open Go.ChangeShapes Go.WideShapes Go.ChangeAt Go.RowKit Go.Proofs.YtjlhfemfmkdlhaaW.PrintWords Go.Proofs.Ytjlhfemfmkdlhaa.P Go.Proofs.Ytjlhfemfmkdlhaa.StFnExactEqualBrokers Go.Proofs.Ytjlhfemfmkdlhaa.Opn
open Go.ChangeMaps (open_string shut_string)
set_option linter.unusedVariables false
theorem own : ownKnob Try.prog.godebug = none := by kernel_rfl
theorem laidOut : laidOutB Try.prog = true := by kernel_rfl
theorem opens95 : Opn.Opens Try.prog 95 k95 ok95 := by
  intro H enc W base spare held fuel cs x h
  obtain ⟨xs, n, _, _, hl, hxl, hall⟩ := DataW.trod_struct Try.underlying95 h
  have h0 := hall 0 _ rfl
  rw [List.getElem?_eq_getElem (show 0 < xs.length by rw [hxl]; decide)] at h0
  obtain ⟨a0, k0_, w0⟩ := (Opn.opens_int Try.underlying3) H enc W base spare held n _ _ h0
  have c0 : Try.prog.cellsOf 3 = 1 := by kernel_rfl
  have e0 : ((Kd.int .i64)).K W a0 ((cs.drop 0).take 1) := by have z : ((Kd.int .i64)).K W a0 ((cs.drop 0).take (Try.prog.cellsOf 3)) := k0_; rw [c0] at z; exact z
  have h1 := hall 1 _ rfl
  rw [List.getElem?_eq_getElem (show 1 < xs.length by rw [hxl]; decide)] at h1
  obtain ⟨a1, k1_, w1⟩ := (Opn.opens_int Try.underlying3) H enc W base spare held n _ _ h1
  have c1 : Try.prog.cellsOf 3 = 1 := by kernel_rfl
  have e1 : ((Kd.int .i64)).K W a1 ((cs.drop 1).take 1) := by have z : ((Kd.int .i64)).K W a1 ((cs.drop 1).take (Try.prog.cellsOf 3)) := k1_; rw [c1] at z; exact z
  have h2 := hall 2 _ rfl
  rw [List.getElem?_eq_getElem (show 2 < xs.length by rw [hxl]; decide)] at h2
  obtain ⟨a2, k2_, w2⟩ := (Opn.opens_int Try.underlying3) H enc W base spare held n _ _ h2
  have c2 : Try.prog.cellsOf 3 = 1 := by kernel_rfl
  have e2 : ((Kd.int .i64)).K W a2 ((cs.drop 2).take 1) := by have z : ((Kd.int .i64)).K W a2 ((cs.drop 2).take (Try.prog.cellsOf 3)) := k2_; rw [c2] at z; exact z
  have hcs : cs.length = 3 := hl.trans (show _ = _ by kernel_rfl)
  clear hall hl hxl h0 k0_ h1 k1_ h2 k2_ h
  have g0 : ((Kd.int .i64)).K W a0 (cs.take 1) := by
    have z := e0
    simpa only [List.drop_drop, List.drop_zero, Nat.reduceAdd] using z
  have g1 : ((Kd.int .i64)).K W a1 ((cs.drop 1).take 1) := by
    have z := e1
    exact z
  have g2 : ((Kd.int .i64)).K W a2 (((cs.drop 1).drop 1)) := by
    have z := e2
    rw [List.take_of_length_le (by simp only [List.length_drop]; omega)] at z
    simpa only [List.drop_drop, List.drop_zero, Nat.reduceAdd] using z
  exact ⟨⟨a0, a1, a2⟩, ⟨cs.take 1, cs.drop 1, (List.take_append_drop _ _).symm, g0, ⟨(cs.drop 1).take 1, (cs.drop 1).drop 1, (List.take_append_drop _ _).symm, g1, g2⟩⟩, ⟨w0, w1, w2⟩⟩
theorem opens32 : Opn.Opens Try.prog 32 k32 ok32 := by
  intro H enc W base spare held fuel cs x h
  obtain ⟨xs, n, _, _, hl, hxl, hall⟩ := DataW.trod_struct Try.underlying32 h
  have h0 := hall 0 _ rfl
  rw [List.getElem?_eq_getElem (show 0 < xs.length by rw [hxl]; decide)] at h0
  obtain ⟨a0, k0_, w0⟩ := (Opn.opens_int Try.underlying3) H enc W base spare held n _ _ h0
  have c0 : Try.prog.cellsOf 3 = 1 := by kernel_rfl
  have e0 : ((Kd.int .i64)).K W a0 ((cs.drop 0).take 1) := by have z : ((Kd.int .i64)).K W a0 ((cs.drop 0).take (Try.prog.cellsOf 3)) := k0_; rw [c0] at z; exact z
  have h1 := hall 1 _ rfl
  rw [List.getElem?_eq_getElem (show 1 < xs.length by rw [hxl]; decide)] at h1
  obtain ⟨a1, k1_, w1⟩ := (Opn.opens_int Try.underlying3) H enc W base spare held n _ _ h1
  have c1 : Try.prog.cellsOf 3 = 1 := by kernel_rfl
  have e1 : ((Kd.int .i64)).K W a1 ((cs.drop 1).take 1) := by have z : ((Kd.int .i64)).K W a1 ((cs.drop 1).take (Try.prog.cellsOf 3)) := k1_; rw [c1] at z; exact z
  have h2 := hall 2 _ rfl
  rw [List.getElem?_eq_getElem (show 2 < xs.length by rw [hxl]; decide)] at h2
  obtain ⟨a2, k2_, w2⟩ := (Opn.opens_slice Try.underlying30 (show _ = _ by kernel_rfl) opens95) H enc W base spare held n _ _ h2
  have c2 : Try.prog.cellsOf 30 = 1 := by kernel_rfl
  have e2 : ((Kd.slice 95 k95)).K W a2 ((cs.drop 2).take 1) := by have z : ((Kd.slice 95 k95)).K W a2 ((cs.drop 2).take (Try.prog.cellsOf 30)) := k2_; rw [c2] at z; exact z
  have h3 := hall 3 _ rfl
  rw [List.getElem?_eq_getElem (show 3 < xs.length by rw [hxl]; decide)] at h3
  obtain ⟨a3, k3_, w3⟩ := (Opn.opens_slice Try.underlying30 (show _ = _ by kernel_rfl) opens95) H enc W base spare held n _ _ h3
  have c3 : Try.prog.cellsOf 30 = 1 := by kernel_rfl
  have e3 : ((Kd.slice 95 k95)).K W a3 ((cs.drop 3).take 1) := by have z : ((Kd.slice 95 k95)).K W a3 ((cs.drop 3).take (Try.prog.cellsOf 30)) := k3_; rw [c3] at z; exact z
  have hcs : cs.length = 4 := hl.trans (show _ = _ by kernel_rfl)
  clear hall hl hxl h0 k0_ h1 k1_ h2 k2_ h3 k3_ h
  have g0 : ((Kd.int .i64)).K W a0 (cs.take 1) := by
    have z := e0
    simpa only [List.drop_drop, List.drop_zero, Nat.reduceAdd] using z
  have g1 : ((Kd.int .i64)).K W a1 ((cs.drop 1).take 1) := by
    have z := e1
    exact z
  have g2 : ((Kd.slice 95 k95)).K W a2 (((cs.drop 1).drop 1).take 1) := by
    have z := e2
    simpa only [List.drop_drop, List.drop_zero, Nat.reduceAdd] using z
  have g3 : ((Kd.slice 95 k95)).K W a3 ((((cs.drop 1).drop 1).drop 1)) := by
    have z := e3
    rw [List.take_of_length_le (by simp only [List.length_drop]; omega)] at z
    simpa only [List.drop_drop, List.drop_zero, Nat.reduceAdd] using z
  exact ⟨⟨a0, a1, a2, a3⟩, ⟨cs.take 1, cs.drop 1, (List.take_append_drop _ _).symm, g0, ⟨(cs.drop 1).take 1, (cs.drop 1).drop 1, (List.take_append_drop _ _).symm, g1, ⟨((cs.drop 1).drop 1).take 1, ((cs.drop 1).drop 1).drop 1, (List.take_append_drop _ _).symm, g2, g3⟩⟩⟩, ⟨w0, w1, w2, w3⟩⟩
set_option maxRecDepth 100000 in
theorem lifted (os : Os) (started : os.Started) (H : Type) (enc : TypeId × Value → H) :
    ReturnsInHanded {} Try.checked os 4 .any (Rows.fnExactEqualBrokersSpec.pre6 enc Try.prog Try.f4 Rows.fnExactEqualBrokersRow.domain false) (Rows.fnExactEqualBrokersSpec.post enc Try.prog Try.f4 false true false false) := by
  refine returnsInHanded_of_change_sized (C := Try.checked) own started (by kernel_rfl) Try.func4
    (ChangeSpec.witness6 (enc := enc) (C := Try.checked) false ⟨#[], #[.agg #[.int .i64 0, .int .i64 0, .slice none 0 0, .slice none 0 0], .agg #[.int .i64 0, .int .i64 0, .slice none 0 0, .slice none 0 0]], []⟩ 8 (by kernel_rfl) (by kernel_rfl) (by kernel_rfl) (by kernel_rfl)) ?_
  intro W base args ds gs before hval0 hW hcnd hsz0 _
  have hval : ∀ (j : Nat) t v, Try.f4.params[j]? = some t → args[j]? = some v → Value.okWide Try.prog W .any base t v := hval0
  have hW' := hW
  obtain ⟨p, q, hA0, hV, rfl, hfz, hnd⟩ := hW
  have hA : DataW.TrodAll enc Try.prog W 0 (fun _ => true) true Try.f4.params.toList args.toList ds p := hA0
  rw [Try.params4] at hA hval
  obtain ⟨v0, vs0, d0, ds0, p0, q0, hargs, rfl, rfl, h0, r0⟩ := trodAll_cons hA
  obtain ⟨v1, vs1, d1, ds1, p1, q1, rfl, rfl, rfl, h1, r1⟩ := trodAll_cons r0
  obtain ⟨rfl, rfl, rfl⟩ := trodAll_nil r1
  obtain rfl : args = #[v0, v1] := by cases args; simp_all
  obtain ⟨rfl, rfl⟩ := trodVars_none hV
  have k0 := h0
  have lt0 : ∀ x ∈ p0, x.block < W.heap.size := by obtain ⟨m, hm⟩ := k0; exact DataW.trod_lt m _ _ _ hm
  obtain ⟨fuel0, hf0⟩ := h0
  obtain ⟨cs0, rfl, _⟩ := okWide_struct Try.underlying32 (hval 0 32 v0 rfl rfl)
  obtain ⟨x0, hK0, w0⟩ := opens32 H enc W 0 _ true fuel0 _ _ hf0
  obtain ⟨A0_2, c0_2, A0_3, c0_3, hcs0, hc0_2, hr0_2, hc0_3, hr0_3⟩ := k32_open hK0
  obtain rfl : cs0 = #[.int .i64 x0.f0, .int .i64 x0.f1, .slice A0_2 x0.f2.length c0_2, .slice A0_3 x0.f3.length c0_3] := by cases cs0; simp [Value.cells] at hcs0; simp [hcs0]
  have k1 := h1
  have lt1 : ∀ x ∈ p1, x.block < W.heap.size := by obtain ⟨m, hm⟩ := k1; exact DataW.trod_lt m _ _ _ hm
  obtain ⟨fuel1, hf1⟩ := h1
  obtain ⟨cs1, rfl, _⟩ := okWide_struct Try.underlying32 (hval 1 32 v1 rfl rfl)
  obtain ⟨x1, hK1, w1⟩ := opens32 H enc W 0 _ true fuel1 _ _ hf1
  obtain ⟨A1_2, c1_2, A1_3, c1_3, hcs1, hc1_2, hr1_2, hc1_3, hr1_3⟩ := k32_open hK1
  obtain rfl : cs1 = #[.int .i64 x1.f0, .int .i64 x1.f1, .slice A1_2 x1.f2.length c1_2, .slice A1_3 x1.f3.length c1_3] := by cases cs1; simp [Value.cells] at hcs1; simp [hcs1]
  clear hA0 hval0 hsz0
  obtain ⟨k, hp⟩ := Pure.FnExactEqualBrokers x0 x1 w0 w1
  refine (laws_FnExactEqualBrokers.calls k x0.f0 x0.f1 _ _ x0.f2 _ _ x0.f3 x1.f0 x1.f1 _ _ x1.f2 _ _ x1.f3 true W hr0_2 hc0_2 hr0_3 hc0_3 hr1_2 hc1_2 hr1_3 hc1_3 hp rfl).mono fun e W' hq => ?_
  obtain ⟨he, hbel⟩ := hq
  have bel : Below W.heap.size W W' := by first | exact hbel | exact hbel.below
  subst he
  exact ⟨_, rfl, _, _, _, [], _, [], hW', trodAll_mk1 (shut_bool Try.underlying4 _), (trodAll_cons_mk (Below.trod laidOut (by kernel_rfl) (of_decide_eq_true (by kernel_rfl)) k0 bel lt0) (trodAll_cons_mk (Below.trod laidOut (by kernel_rfl) (of_decide_eq_true (by kernel_rfl)) k1 bel lt1) trodAll_mk0)), rfl, bel.frame _, fun h => by cases h⟩
theorem over : Rows.fnExactEqualBrokersRow.holds Try.pinned (OpenSpec.ofChange Rows.fnExactEqualBrokersSpec) :=
  OpenClaim.holds_of_wide 4 Try.f4 rfl rfl rfl rfl rfl rfl rfl ⟨rfl, rfl, rfl, rfl, rfl⟩ rfl rfl rfl rfl rfl (by kernel_rfl) Try.func4 (by kernel_rfl)
    (of_decide_eq_true (by kernel_rfl)) (by unfold Func.isWrapper; first | (rw [if_pos (by decide +kernel)]; kernel_rfl) | (rw [if_neg (by decide +kernel)]; exact ⟨rfl, rfl⟩))
    (fun os started H enc _ => lifted os started H enc)
theorem proved : Rows.FnExactEqualBrokersSaid := over
#print axioms proved
end Go.Proofs.Ytjlhfemfmkdlhaa.fnExactEqualBrokers
namespace Go.Proofs.Ytjlhfemfmkdlhaa
/-- The row, under a short name, for the claim. -/
theorem fnExactEqualBrokers_holds : Rows.FnExactEqualBrokersSaid := fnExactEqualBrokers.proved
end Go.Proofs.Ytjlhfemfmkdlhaa
