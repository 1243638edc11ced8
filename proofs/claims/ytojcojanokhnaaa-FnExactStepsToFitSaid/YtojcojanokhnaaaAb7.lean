/-
  REGIONS THAT STORE AT THEIR END: until the first store (number s) is done, what is read stays.
-/
import Derived.Test.YtojcojanokhnaaaAbS
import Derived.Test.YtojcojanokhnaaaAbV
namespace Go.Proofs.Ytojcojanokhnaaa.Ab
open Go.RowKit
set_option linter.unusedVariables false
set_option linter.unusedSimpArgs false

section
variable {P : Program} {ops : Array Oper} {md : Region.Mode} {s : Nat} {G : List Reg → Prop} {Q : Exit → St → Prop}

def AOpS (P : Program) (ops : Array Oper) (b : Prop) (G : List Reg → Prop) (i : Nat) (K : St → Prop) (S : St) : Prop :=
  match ops[i]? with
  | none => K S
  | some o => (wantA ops S o = some true ∧ ∃ v H', Step P o S.ev S.H v H' ∧ (b → G H') ∧ K (S.put o.dst v H')) ∨ (wantA ops S o = some false ∧ K (S.put o.dst (.k undef) S.H))
def AAnyS (P : Program) (md : Region.Mode) (ops : Array Oper) (s : Nat) (G : List Reg → Prop) (Q : Exit → St → Prop) : Nat → Array Bool → St → Prop
  | 0, listed, S => Region.ready md ops listed = [] ∧ Q .normal S
  | n + 1, listed, S => (Region.ready md ops listed = [] → Q .normal S) ∧ ∀ i ∈ Region.ready md ops listed, AOpS P ops ((listed.setIfInBounds i true).getD s true = false) G i (AAnyS P md ops s G Q n (listed.setIfInBounds i true)) S
theorem AOpS.mono {b : Prop} {i : Nat} {K K' : St → Prop} {S : St} (hk : ∀ S, K S → K' S) (h : AOpS P ops b G i K S) : AOpS P ops b G i K' S := by
  unfold AOpS at *
  split at h
  · exact hk _ h
  · rcases h with ⟨h1, v, H', h2, h3, h4⟩ | ⟨h1, h2⟩
    · exact Or.inl ⟨h1, v, H', h2, h3, hk _ h4⟩
    · exact Or.inr ⟨h1, hk _ h2⟩
theorem AAnyS.plain : ∀ (n : Nat) (listed : Array Bool) (S : St), AAnyS P md ops s G Q n listed S → AAny P md ops (List.range ops.size) Q n listed S
  | 0, listed, S, h => h
  | n + 1, listed, S, h => by
    refine ⟨h.1, fun i hi => ?_⟩
    have h1 := h.2 i hi
    unfold AOpS at h1
    unfold AOp
    cases ho : ops[i]? with
    | none => rw [ho] at h1; exact AAnyS.plain n _ S h1
    | some o =>
      rw [ho] at h1
      rcases h1 with ⟨hw, v, H', hs, _, hk⟩ | ⟨hw, hk⟩
      · exact Or.inl ⟨hw, v, H', hs, fun hn => absurd (List.mem_range.2 (Array.getElem?_eq_some_iff.1 ho).1) hn, AAnyS.plain n _ _ hk⟩
      · exact Or.inr ⟨hw, AAnyS.plain n _ _ hk⟩
theorem getD_set_ne' {listed : Array Bool} {i j : Nat} (h : i ≠ j) : (listed.setIfInBounds i true).getD j true = listed.getD j true := getD_set_ne true h
theorem AAnyS_first {B : Prop} {i : Nat} {oi : Oper} {v : V} (hi : ops[i]? = some oi) (hne : i ≠ s) (hed : B → ∃ os, ops[s]? = some os ∧ ∃ e ∈ os.after, Region.binds md e = true ∧ e.on = i) :
    ∀ (n : Nat) (listed : Array Bool) (S : St), (listed.getD s true = false → G S.H) → (B → listed.getD s true = false) →
      (∀ j oj, ops[j]? = some oj → j ≠ i → listed.getD j true = false → (∀ e ∈ oj.after, Region.binds md e = true → e.on ≠ i) → oi.apart ops oj = true) →
      i ∈ Region.ready md ops listed → StillG P ops (fun H => B → G H) oi v S →
      AAnyS P md ops s G Q n (listed.setIfInBounds i true) (S.put oi.dst v S.H) → AAnyS P md ops s G Q (n + 1) listed S := by
  intro n
  induction n with
  | zero =>
    intro listed S hG hB _ hr hy H
    refine ⟨fun h => (by rw [h] at hr; cases hr), fun j hj => ?_⟩
    by_cases hji : j = i
    · subst hji
      unfold AOpS
      rw [hi]
      rcases hy with ⟨h1, h2⟩ | ⟨h1, rfl⟩
      · exact Or.inl ⟨h1, v, S.H, h2 _ (fun b => hG (hB b)), fun hb => hG (by rw [getD_set_ne' hne] at hb; exact hb), H⟩
      · exact Or.inr ⟨h1, H⟩
    · have := ready_mono hj hji
      rw [H.1] at this
      cases this
  | succ n ih =>
    intro listed S hG hB hfree hr hy H
    refine ⟨fun h => (by rw [h] at hr; cases hr), fun j hj => ?_⟩
    by_cases hji : j = i
    · subst hji
      unfold AOpS
      rw [hi]
      rcases hy with ⟨h1, h2⟩ | ⟨h1, rfl⟩
      · exact Or.inl ⟨h1, v, S.H, h2 _ (fun b => hG (hB b)), fun hb => hG (by rw [getD_set_ne' hne] at hb; exact hb), H⟩
      · exact Or.inr ⟨h1, H⟩
    · have h1 := H.2 j (ready_mono hj hji)
      obtain ⟨hjun, oj, hoj, hall⟩ := mem_ready.1 hj
      have hiun := (mem_ready.1 hr).1
      have hnot : ∀ e ∈ oj.after, Region.binds md e = true → e.on ≠ i := fun e he hb heq => by
        have h1 := hall e he hb
        rw [heq] at h1
        rcases Nat.lt_or_ge i listed.size with h' | h'
        · simp [h'] at hiun h1; rw [hiun] at h1; cases h1
        · simp [Array.getElem?_eq_none h'] at h1
      have hjs : B → j ≠ s := fun b hjs => by
        subst hjs
        obtain ⟨os, h3, e, h4, h5, h6⟩ := hed b
        rw [hoj] at h3
        cases h3
        exact hnot e h4 h5 h6
      have hfree' : ∀ k ok, ops[k]? = some ok → k ≠ i → (listed.setIfInBounds j true).getD k true = false →
          (∀ e ∈ ok.after, Region.binds md e = true → e.on ≠ i) → oi.apart ops ok = true := fun k ok hk hki hun hno => by
        refine hfree k ok hk hki ?_ hno
        by_cases hjk : j = k
        · subst hjk; exact hjun
        · rw [getD_set_ne true hjk] at hun; exact hun
      have hb2 : ((listed.setIfInBounds i true).setIfInBounds j true).getD s true = (listed.setIfInBounds j true).getD s true := by
        rw [Array.setIfInBounds_comm _ _ (Ne.symm hji), getD_set_ne' hne]
      obtain ⟨p1, p2, p3⟩ := Oper.apart_spec (hfree j oj hoj hji hjun hnot)
      have key : ∀ (u : V) (H' : List Reg), ((listed.setIfInBounds j true).getD s true = false → G H') → AAnyS P md ops s G Q n ((listed.setIfInBounds j true).setIfInBounds i true) ((S.put oj.dst u H').put oi.dst v H') → AAnyS P md ops s G Q (n + 1) (listed.setIfInBounds j true) (S.put oj.dst u H') := fun u H' hGH hk => by
        refine ih (listed.setIfInBounds j true) (S.put oj.dst u H') (by rw [put_H]; exact hGH) (fun b => by rw [getD_set_ne' (hjs b)]; exact hB b) hfree' (ready_mono hr (Ne.symm hji)) (hy.keep p3) ?_
        rw [put_H]
        exact hk
      unfold AOpS at h1 ⊢
      rw [hoj] at h1 ⊢
      simp only at h1 ⊢
      rw [wantA_put p1, put_H] at h1
      rcases h1 with ⟨hw, u, H', hs, hH, hk⟩ | ⟨hw, hk⟩
      · rw [hb2] at hH
        refine Or.inl ⟨hw, u, H', hs.congr (fun x hx => (operand_put p1 x hx).symm), hH, key u H' hH ?_⟩
        rw [Array.setIfInBounds_comm _ _ hji, ← put_comm v u S.H H' p2]
        exact hk
      · refine Or.inr ⟨hw, key (.k undef) S.H (fun hb => ?_) ?_⟩
        · by_cases hjs' : j = s
          · subst hjs'
            rcases Nat.lt_or_ge j listed.size with h' | h'
            · simp [Array.getD, h'] at hb
            · rw [Array.getD_eq_getD_getElem?, Array.getElem?_eq_none (by simpa using h')] at hb; cases hb
          · rw [getD_set_ne' hjs'] at hb
            exact hG hb
        · rw [Array.setIfInBounds_comm _ _ hji, ← put_comm v (.k undef) S.H S.H p2]
          exact hk
end

section
variable {P : Program} {T : Tab} {ops : Array Oper} {s : Nat} {G : List Reg → Prop} {Q : Exit → St → Prop} {l l' : List V} {H H' K : List Reg} {m : Nat} {o : Oper} {d : List Nat} {n : Nat}

structure APerS (P : Program) (ops : Array Oper) (s : Nat) (G : List Reg → Prop) (d : List Nat) (n : Nat) (Q : Exit → St → Prop) (S : St) : Prop where
  out : AAnyS P .any ops s G Q n (mkL ops.size d) S
theorem aw_perS {id : Nat} {S : St} (s : Nat) (G : List Reg → Prop) (n : Nat) (hn : ops.size = n) [hT : TabC P T] (h : APerS P ops s G [] n Q S) : AW P (.region id ops true) Q S := by
  subst hn
  exact aw_region_any _ hT.wide (AAnyS.plain _ _ _ h.out)
theorem perS_done {S : St} (hr : (Region.ready .any ops (mkL ops.size d) == []) = true) (h : Q .normal S) : APerS P ops s G d 0 Q S := ⟨⟨by simpa using hr, h⟩⟩
/-- The first store is not yet done, and comes behind number i. -/
def edgeB (ops : Array Oper) (d : List Nat) (s i : Nat) : Bool := !((mkL ops.size d).getD s true) && (match ops[s]? with | some os => os.after.any fun e => Region.binds .any e && e.on == i | none => false) && !(i == s)
def freeS (s i : Nat) : Bool := !(i == s)
theorem edgeB_spec {i : Nat} (h : edgeB ops d s i = true) : (mkL ops.size d).getD s true = false ∧ (∃ os, ops[s]? = some os ∧ ∃ e ∈ os.after, Region.binds .any e = true ∧ e.on = i) ∧ i ≠ s := by
  simp only [edgeB, Bool.and_eq_true, Bool.not_eq_true'] at h
  obtain ⟨⟨h1, h2⟩, h3⟩ := h
  refine ⟨h1, ?_, by simpa using h3⟩
  cases ho : ops[s]? with
  | none => rw [ho] at h2; cases h2
  | some os =>
    rw [ho] at h2
    simp only [Array.any_eq_true'] at h2
    obtain ⟨e, h4, h5⟩ := h2
    simp only [Bool.and_eq_true, beq_iff_eq] at h5
    exact ⟨os, rfl, e, h4, h5.1, h5.2⟩
/-- Number i reads what stays until the first store. -/
theorem perS_R (i : Nat) {v : V} (hG : G H) (he : edgeB ops d s i = true) (ho : ops[i]? = some o) (hc : perP ops d i = true) (hw : wantA ops ⟨l, H, m⟩ o = some true) (hs : ∀ H, G H → Step P o (St.ev ⟨l, H, m⟩) H v H) (hp : putF l H o.dst v = some (l', K)) (hk : APerS P ops s G (i :: d) n Q ⟨l', K, m⟩) : APerS P ops s G d (n + 1) Q ⟨l, H, m⟩ := by
  simp only [perP, Bool.and_eq_true] at hc
  obtain ⟨e1, e2, e3⟩ := edgeB_spec he
  refine ⟨AAnyS_first (B := True) ho e3 (fun _ => e2) n _ _ (fun _ => hG) (fun _ => e1) (Region.free_spec ho hc.1) (by simpa using hc.2) (Or.inl ⟨hw, fun H1 h1 => hs H1 (h1 trivial)⟩) ?_⟩
  rw [show (⟨l, H, m⟩ : St).put o.dst v (⟨l, H, m⟩ : St).H = ⟨l', K, m⟩ from putF_eq hp m]
  exact hk.out
theorem perS_A (i : Nat) {v : V} (hG : (mkL ops.size d).getD s true = true ∨ G H) (he : freeS s i = true) (ho : ops[i]? = some o) (hc : perP ops d i = true) (hw : wantA ops ⟨l, H, m⟩ o = some true) (hs : ∀ H, Step P o (St.ev ⟨l, H, m⟩) H v H) (hp : putF l H o.dst v = some (l', K)) (hk : APerS P ops s G (i :: d) n Q ⟨l', K, m⟩) : APerS P ops s G d (n + 1) Q ⟨l, H, m⟩ := by
  simp only [perP, Bool.and_eq_true] at hc
  refine ⟨AAnyS_first (B := False) ho (by simpa [freeS] using he) (fun h => h.elim) n _ _ (fun hb => hG.resolve_left (by rw [hb]; decide)) (fun h => h.elim) (Region.free_spec ho hc.1) (by simpa using hc.2) (Or.inl ⟨hw, fun H1 h1 => hs H1⟩) ?_⟩
  rw [show (⟨l, H, m⟩ : St).put o.dst v (⟨l, H, m⟩ : St).H = ⟨l', K, m⟩ from putF_eq hp m]
  exact hk.out
theorem perS_P (i : Nat) {v : V} [hT : TabC P T] (hG : (mkL ops.size d).getD s true = true ∨ G H) (he : freeS s i = true) (ho : ops[i]? = some o) (hc : perP ops d i = true) (hw : wantA ops ⟨l, H, m⟩ o = some true) (h : ∀ H, stepF T l H o.op = some (v, H)) (hp : putF l H o.dst v = some (l', K)) (hk : APerS P ops s G (i :: d) n Q ⟨l', K, m⟩) : APerS P ops s G d (n + 1) Q ⟨l, H, m⟩ :=
  perS_A i hG he ho hc hw (fun H1 => stepF_ok (m := m) hT.ok (h H1)) hp hk
/-- The only one that may come now. -/
theorem perS_W (i : Nat) {v : V} (hr : (Region.ready .any ops (mkL ops.size d) == [i]) = true) (ho : ops[i]? = some o) (hw : wantA ops ⟨l, H, m⟩ o = some true) (hs : Step P o (St.ev ⟨l, H, m⟩) H v H') (hG : (mkL ops.size (i :: d)).getD s true = true ∨ G H') (hp : putF l H' o.dst v = some (l', K)) (hk : APerS P ops s G (i :: d) n Q ⟨l', K, m⟩) : APerS P ops s G d (n + 1) Q ⟨l, H, m⟩ := by
  have hr' : Region.ready .any ops (mkL ops.size d) = [i] := by simpa using hr
  refine ⟨⟨fun h0 => (by rw [h0] at hr'; cases hr'), fun x hx => ?_⟩⟩
  rw [hr'] at hx
  simp at hx
  subst hx
  unfold AOpS
  rw [ho]
  refine Or.inl ⟨hw, v, H', hs, fun hb => hG.resolve_left (fun ht => ?_), ?_⟩
  · have hb' : (mkL ops.size (x :: d)).getD s true = false := hb
    rw [ht] at hb'
    cases hb'
  · rw [putF_eq hp m]
    exact hk.out
theorem perS_WF (i : Nat) {v : V} [hT : TabC P T] (hr : (Region.ready .any ops (mkL ops.size d) == [i]) = true) (ho : ops[i]? = some o) (hw : wantA ops ⟨l, H, m⟩ o = some true) (h : stepF T l H o.op = some (v, H')) (hG : (mkL ops.size (i :: d)).getD s true = true ∨ G H') (hp : putF l H' o.dst v = some (l', K)) (hk : APerS P ops s G (i :: d) n Q ⟨l', K, m⟩) : APerS P ops s G d (n + 1) Q ⟨l, H, m⟩ :=
  perS_W i hr ho hw (stepF_ok hT.ok h) hG hp hk
end
end Go.Proofs.Ytojcojanokhnaaa.Ab
