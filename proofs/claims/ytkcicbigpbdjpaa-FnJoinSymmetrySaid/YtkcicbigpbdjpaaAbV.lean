/-
  REGIONS IN WHICH ONE READS WHILE ONE MAKES NEW ROWS: what is read stays whatever comes first.
-/
import Derived.Test.YtkcicbigpbdjpaaAbS
import Derived.Test.YtkcicbigpbdjpaaAbU
namespace Go.Proofs.Ytkcicbigpbdjpaa.Ab
open Go.RowKit
set_option linter.unusedVariables false
set_option linter.unusedSimpArgs false

section
variable {P : Program} {ops : Array Oper} {md : Region.Mode} {G : List Reg → Prop} {Q : Exit → St → Prop}

/-- As AOp: each operation keeps G. -/
def AOpG (P : Program) (ops : Array Oper) (G : List Reg → Prop) (i : Nat) (K : St → Prop) (S : St) : Prop :=
  match ops[i]? with
  | none => K S
  | some o => (wantA ops S o = some true ∧ ∃ v H', Step P o S.ev S.H v H' ∧ G H' ∧ K (S.put o.dst v H')) ∨ (wantA ops S o = some false ∧ K (S.put o.dst (.k undef) S.H))

def AAnyG (P : Program) (md : Region.Mode) (ops : Array Oper) (G : List Reg → Prop) (Q : Exit → St → Prop) : Nat → Array Bool → St → Prop
  | 0, listed, S => Region.ready md ops listed = [] ∧ Q .normal S
  | n + 1, listed, S => (Region.ready md ops listed = [] → Q .normal S) ∧ ∀ i ∈ Region.ready md ops listed, AOpG P ops G i (AAnyG P md ops G Q n (listed.setIfInBounds i true)) S

theorem AOpG.mono {i : Nat} {K K' : St → Prop} {S : St} (hk : ∀ S, K S → K' S) (h : AOpG P ops G i K S) : AOpG P ops G i K' S := by
  unfold AOpG at *
  split at h
  · exact hk _ h
  · rcases h with ⟨h1, v, H', h2, h3, h4⟩ | ⟨h1, h2⟩
    · exact Or.inl ⟨h1, v, H', h2, h3, hk _ h4⟩
    · exact Or.inr ⟨h1, hk _ h2⟩

theorem AAnyG.plain : ∀ (n : Nat) (listed : Array Bool) (S : St), AAnyG P md ops G Q n listed S → AAny P md ops (List.range ops.size) Q n listed S
  | 0, listed, S, h => h
  | n + 1, listed, S, h => by
    refine ⟨h.1, fun i hi => ?_⟩
    have h1 := h.2 i hi
    unfold AOpG at h1
    unfold AOp
    cases ho : ops[i]? with
    | none => rw [ho] at h1; exact AAnyG.plain n _ S h1
    | some o =>
      rw [ho] at h1
      rcases h1 with ⟨hw, v, H', hs, _, hk⟩ | ⟨hw, hk⟩
      · exact Or.inl ⟨hw, v, H', hs, fun hn => absurd (List.mem_range.2 (Array.getElem?_eq_some_iff.1 ho).1) hn, AAnyG.plain n _ _ hk⟩
      · exact Or.inr ⟨hw, AAnyG.plain n _ _ hk⟩

/-- The operation turns nothing in any rows that meet G. -/
def StillG (P : Program) (ops : Array Oper) (G : List Reg → Prop) (o : Oper) (v : V) (S : St) : Prop :=
  (wantA ops S o = some true ∧ ∀ H, G H → Step P o S.ev H v H) ∨ (wantA ops S o = some false ∧ v = .k undef)

theorem StillG.aop {i : Nat} {o : Oper} {v : V} {S : St} {K : St → Prop} (hG : G S.H) (hi : ops[i]? = some o) (h : StillG P ops G o v S) (hk : K (S.put o.dst v S.H)) : AOpG P ops G i K S := by
  unfold AOpG
  rw [hi]
  rcases h with ⟨h1, h2⟩ | ⟨h1, rfl⟩
  · exact Or.inl ⟨h1, v, S.H, h2 _ hG, hG, hk⟩
  · exact Or.inr ⟨h1, hk⟩

theorem StillG.keep {oi oj : Oper} {v u : V} {S : St} {H' : List Reg} (hap : ∀ d, oj.dst = some d → d ∉ oi.looksAt ops) (h : StillG P ops G oi v S) : StillG P ops G oi v (S.put oj.dst u H') := by
  unfold StillG at *
  rw [wantA_put hap]
  rcases h with ⟨h1, h2⟩ | h1
  · exact Or.inl ⟨h1, fun H hH => (h2 H hH).congr (operand_put hap)⟩
  · exact Or.inr h1

theorem AOpG.put {j : Nat} {oi oj : Oper} {v : V} {S : St} {K : St → Prop} (hG : G S.H) (hj : ops[j]? = some oj) (hap : oi.apart ops oj = true)
    (hy : StillG P ops G oi v S) (h : AOpG P ops G j K (S.put oi.dst v S.H)) : AOpG P ops G j (fun S' => G S'.H ∧ StillG P ops G oi v S' ∧ K (S'.put oi.dst v S'.H)) S := by
  obtain ⟨h1, h2, h3⟩ := Oper.apart_spec hap
  unfold AOpG at *
  rw [hj] at *
  simp only at h ⊢
  rw [wantA_put h1, put_H] at h
  rcases h with ⟨hw, u, H', hs, hH, hk⟩ | ⟨hw, hk⟩
  · refine Or.inl ⟨hw, u, H', hs.congr (fun x hx => (operand_put h1 x hx).symm), hH, by rw [put_H]; exact hH, hy.keep h3, ?_⟩
    rw [put_H, ← put_comm v u S.H H' h2]
    exact hk
  · refine Or.inr ⟨hw, by rw [put_H]; exact hG, hy.keep h3, ?_⟩
    rw [put_H, ← put_comm v (.k undef) S.H S.H h2]
    exact hk

theorem AAnyG_first {i : Nat} {oi : Oper} {v : V} (hi : ops[i]? = some oi) :
    ∀ (n : Nat) (listed : Array Bool) (S : St), G S.H →
      (∀ j oj, ops[j]? = some oj → j ≠ i → listed.getD j true = false → (∀ e ∈ oj.after, Region.binds md e = true → e.on ≠ i) → oi.apart ops oj = true) →
      i ∈ Region.ready md ops listed → StillG P ops G oi v S →
      AAnyG P md ops G Q n (listed.setIfInBounds i true) (S.put oi.dst v S.H) → AAnyG P md ops G Q (n + 1) listed S := by
  intro n
  induction n with
  | zero =>
    intro listed S hG _ hr hy H
    refine ⟨fun h => (by rw [h] at hr; cases hr), fun j hj => ?_⟩
    by_cases hji : j = i
    · subst hji; exact hy.aop hG hi H
    · have := ready_mono hj hji
      rw [H.1] at this
      cases this
  | succ n ih =>
    intro listed S hG hfree hr hy H
    refine ⟨fun h => (by rw [h] at hr; cases hr), fun j hj => ?_⟩
    by_cases hji : j = i
    · subst hji; exact hy.aop hG hi H
    · have h1 := H.2 j (ready_mono hj hji)
      obtain ⟨hjun, oj, hoj, hall⟩ := mem_ready.1 hj
      have hiun := (mem_ready.1 hr).1
      have hnot : ∀ e ∈ oj.after, Region.binds md e = true → e.on ≠ i := fun e he hb heq => by
        have h1 := hall e he hb
        rw [heq] at h1
        rcases Nat.lt_or_ge i listed.size with h' | h'
        · simp [h'] at hiun h1; rw [hiun] at h1; cases h1
        · simp [Array.getElem?_eq_none h'] at h1
      have h2 := AOpG.put hG hoj (hfree j oj hoj hji hjun hnot) hy h1
      have hfree' : ∀ k ok, ops[k]? = some ok → k ≠ i → (listed.setIfInBounds j true).getD k true = false →
          (∀ e ∈ ok.after, Region.binds md e = true → e.on ≠ i) → oi.apart ops ok = true := fun k ok hk hki hun hno => by
        refine hfree k ok hk hki ?_ hno
        by_cases hjk : j = k
        · subst hjk; exact hjun
        · rw [getD_set_ne true hjk] at hun; exact hun
      refine AOpG.mono (fun S' h3 => ih (listed.setIfInBounds j true) S' h3.1 hfree' (ready_mono hr (Ne.symm hji)) h3.2.1 ?_) h2
      rw [Array.setIfInBounds_comm _ _ hji]
      exact h3.2.2
end

section
variable {P : Program} {T : Tab} {ops : Array Oper} {G : List Reg → Prop} {Q : Exit → St → Prop} {l l' : List V} {H H' K : List Reg} {m : Nat} {o : Oper} {d : List Nat} {n : Nat}

structure APerG (P : Program) (ops : Array Oper) (G : List Reg → Prop) (d : List Nat) (n : Nat) (Q : Exit → St → Prop) (S : St) : Prop where
  out : AAnyG P .any ops G Q n (mkL ops.size d) S

theorem aw_perG {id : Nat} {S : St} (G : List Reg → Prop) (n : Nat) (hn : ops.size = n) [hT : TabC P T] (h : APerG P ops G [] n Q S) : AW P (.region id ops true) Q S := by
  subst hn
  exact aw_region_any _ hT.wide (AAnyG.plain _ _ _ h.out)

theorem perG_done {S : St} (hr : (Region.ready .any ops (mkL ops.size d) == []) = true) (h : Q .normal S) : APerG P ops G d 0 Q S := ⟨⟨by simpa using hr, h⟩⟩

/-- Number i reads what stays. -/
theorem perG_R (i : Nat) {v : V} (hG : G H) (ho : ops[i]? = some o) (hc : perP ops d i = true) (hw : wantA ops ⟨l, H, m⟩ o = some true) (hs : ∀ H, G H → Step P o (St.ev ⟨l, H, m⟩) H v H) (hp : putF l H o.dst v = some (l', K)) (hk : APerG P ops G (i :: d) n Q ⟨l', K, m⟩) : APerG P ops G d (n + 1) Q ⟨l, H, m⟩ := by
  simp only [perP, Bool.and_eq_true] at hc
  refine ⟨AAnyG_first ho n _ _ hG (Region.free_spec ho hc.1) (by simpa using hc.2) (Or.inl ⟨hw, fun H1 h1 => hs H1 h1⟩) ?_⟩
  rw [show (⟨l, H, m⟩ : St).put o.dst v (⟨l, H, m⟩ : St).H = ⟨l', K, m⟩ from putF_eq hp m]
  exact hk.out
theorem perG_P (i : Nat) {v : V} [hT : TabC P T] (hG : G H) (ho : ops[i]? = some o) (hc : perP ops d i = true) (hw : wantA ops ⟨l, H, m⟩ o = some true) (h : ∀ H, stepF T l H o.op = some (v, H)) (hp : putF l H o.dst v = some (l', K)) (hk : APerG P ops G (i :: d) n Q ⟨l', K, m⟩) : APerG P ops G d (n + 1) Q ⟨l, H, m⟩ :=
  perG_R i hG ho hc hw (fun H1 _ => stepF_ok (m := m) hT.ok (h H1)) hp hk

/-- What the numbers that may come up lead to. -/
def BrG (P : Program) (ops : Array Oper) (G : List Reg → Prop) (d : List Nat) (n : Nat) (Q : Exit → St → Prop) (l : List V) (H : List Reg) (m : Nat) (i : Nat) : Prop :=
  AOpG P ops G i (AAnyG P .any ops G Q n ((mkL ops.size d).setIfInBounds i true)) ⟨l, H, m⟩
theorem br_W {i : Nat} {v : V} (ho : ops[i]? = some o) (hw : wantA ops ⟨l, H, m⟩ o = some true) (hs : Step P o (St.ev ⟨l, H, m⟩) H v H') (hG : G H') (hp : putF l H' o.dst v = some (l', K)) (hk : APerG P ops G (i :: d) n Q ⟨l', K, m⟩) : BrG P ops G d n Q l H m i := by
  unfold BrG AOpG
  rw [ho]
  refine Or.inl ⟨hw, v, H', hs, hG, ?_⟩
  rw [putF_eq hp m]
  exact hk.out
theorem br_WF {i : Nat} {v : V} [hT : TabC P T] (ho : ops[i]? = some o) (hw : wantA ops ⟨l, H, m⟩ o = some true) (h : stepF T l H o.op = some (v, H')) (hG : G H') (hp : putF l H' o.dst v = some (l', K)) (hk : APerG P ops G (i :: d) n Q ⟨l', K, m⟩) : BrG P ops G d n Q l H m i := br_W ho hw (stepF_ok hT.ok h) hG hp hk
theorem perG_1 (i : Nat) (hr : (Region.ready .any ops (mkL ops.size d) == [i]) = true) (h : BrG P ops G d n Q l H m i) : APerG P ops G d (n + 1) Q ⟨l, H, m⟩ := by
  have hr' : Region.ready .any ops (mkL ops.size d) = [i] := by simpa using hr
  refine ⟨⟨fun h0 => (by rw [h0] at hr'; cases hr'), fun x hx => ?_⟩⟩
  rw [hr'] at hx
  simp at hx
  subst hx
  exact h
theorem perG_2 (i j : Nat) (hr : (Region.ready .any ops (mkL ops.size d) == [i, j]) = true) (hi : BrG P ops G d n Q l H m i) (hj : BrG P ops G d n Q l H m j) : APerG P ops G d (n + 1) Q ⟨l, H, m⟩ := by
  have hr' : Region.ready .any ops (mkL ops.size d) = [i, j] := by simpa using hr
  refine ⟨⟨fun h0 => (by rw [h0] at hr'; cases hr'), fun x hx => ?_⟩⟩
  rw [hr'] at hx
  simp at hx
  rcases hx with rfl | rfl
  · exact hi
  · exact hj
end

section
variable {P : Program} {l : List V} {H : List Reg}
/-- The contract of a function whose result lies in a cell. -/
theorem meets_ofCT {f : FuncId} {fn : Func} {c : Code} {cargs : List V} {hs : List Reg} {r : V} {hs' : List Reg} {al : Bool} (t : Tmp) (ty : TypeId) (us : List Tmp) {n : Nat} [ht : Ag P ty n]
    (hf : P.funcs[f]? = some fn) (hb : fn.body = some c) (hus : us.isEmpty = false) (hr : fn.results = (.cell t ty :: us.map ResultVar.tmp).toArray)
    (h : AW P c (fun e S => (e = .ret ∨ e = .normal) ∧ ∃ v, CellIs S.tmps S.H t n v ∧ Out al r hs' (.tup (v :: us.map fun u => (S.tmps[u]?).getD .any)) S) ⟨cargs ++ List.replicate (fn.ntmps - cargs.length) (.k undef), hs, hs.length⟩) : Meets P f cargs hs r hs' al := by
  intro A φ w xs hok hrel hsz
  refine calls_of_wp hf hb ?_
  have hI : Inv ⟨A, w, φ, hs⟩ φ ⟨cargs ++ List.replicate (fn.ntmps - cargs.length) (.k undef), hs, hs.length⟩ { tmps := xs ++ Array.replicate (fn.ntmps - xs.size) undef, defers := [] } w := by
    refine ⟨hok.len, ⟨A, ⟨hok, fun b hb => Or.inl hb, fun h b hl => Or.inr ⟨h, hl⟩, ⟨rfl, rfl, rfl, Nat.le_refl _, fun _ _ _ => rfl⟩, fun _ _ h => h⟩, ?_⟩, by simp [hsz], rfl⟩
    refine rels_append (rels_congr hrel fun i hi => ?_) (rels_iff.2 fun i c hc => ⟨undef, ?_, ?_⟩)
    · simp [Array.getElem?_append, hsz, hi]
    · have hlt := (List.getElem?_eq_some_iff.1 hc).1
      simp only [List.length_replicate] at hlt
      simp only [Array.getElem?_append, hsz, Nat.not_lt.2 (Nat.le_add_right _ _), if_false, Nat.add_sub_cancel_left]
      simp [hlt]
    · have := List.mem_of_getElem? hc
      obtain rfl := List.eq_of_mem_replicate this
      simp [Rel]
  refine wp_mono (h.out ⟨A, w, φ, hs⟩ φ _ w hI) ?_
  rintro e a' w' ⟨S', φ1, hI', he, v, hc, ho⟩
  obtain ⟨hm, ⟨A1, hA1, hr1⟩, hs1, hd1⟩ := hI'
  obtain ⟨⟨h, off, r0, c1, c2, c3, c4, c5⟩⟩ := hc
  obtain ⟨y, y1, y2⟩ := rels_get hr1 c1
  rw [Rel] at y2
  obtain ⟨hd, b, e1, e2, e3⟩ := y2
  obtain ⟨xs', h2, h3, h4⟩ := run_loadCells_rels (P := P) (rels_take (rels_drop (row_cells hA1.ok e1 c2 c3 e2) off) n)
  have hl : ((r0.cells.drop off).take n).length = n := by simp; omega
  rw [hl] at h2
  have hx : Rel A1 w' φ1 v (.agg xs') := by subst c5; rw [Rel]; exact ⟨xs', rfl, h3, h4⟩
  have hrun : (results fn a'.tmps).run P w' = .ok (.tuple ((Value.agg xs') :: us.map fun u => a'.tmps.getD u undef).toArray) w' := by
    have hg : a'.tmps.getD t undef = .pointer (some ⟨b, off, none⟩) := by
      rw [Array.getD_eq_getD_getElem?, show a'.tmps[t]? = some y from y1, e3]
      rfl
    unfold results
    rw [hr]
    simp only [List.mapM_toArray, List.mapM_cons, hg, Sem.run_bind, Sem.run_map, Sem.run_pure, Result.andThen_ok, asAddr, loadVar, ht.a, ht.s, h2, if_true]
    rw [run_mapM a'.tmps w' _ (fun t => rfl)]
    simp only [Result.andThen_ok, Sem.run_pure]
    cases us with
    | nil => cases hus
    | cons u us => simp
  have hxt : Rel A1 w' φ1 (.tup (v :: us.map fun u => (S'.tmps[u]?).getD .any)) (.tuple ((Value.agg xs') :: us.map fun u => a'.tmps.getD u undef).toArray) := by
    rw [Rel]
    refine ⟨_, rfl, by simp, ?_⟩
    rw [Rels]
    refine ⟨⟨.agg xs', rfl, hx⟩, rels_iff.2 fun i c hc => ?_⟩
    rw [List.getElem?_map] at hc
    cases hi : us[i]? with
    | none => rw [hi] at hc; simp at hc
    | some u =>
      rw [hi] at hc
      simp only [Option.map_some, Option.some.injEq] at hc
      subst hc
      exact ⟨a'.tmps.getD u undef, by simp [hi], ev_rel hr1 (.tmp u)⟩
  obtain ⟨φ', A', k1, k2, k3, k4, k5⟩ := ho ⟨A, w, φ, hs⟩ A1 φ1 w' _ hm hA1 hxt
  have key : a'.defers = [] ∧ ∃ v, (results fn a'.tmps).run P w' = .ok v w' ∧ ∃ x φ' A', (Ending.returned v) = .returned x ∧ HeapOk A' w' φ' hs' ∧ Rel A' w' φ' r x ∧ (∀ b, A' b → (al = true ∧ A b) ∨ w.heap.size ≤ b) ∧
      (∀ h b, LiveAt φ' hs' h b → w.heap.size ≤ b ∨ ∃ h0, LiveAt φ hs h0 b) ∧ Framed ⟨A, w, φ, hs⟩ w' ∧ (∀ (h : Nat) (hd : Hd), φ[h]? = some hd → φ'[h]? = some hd) :=
    ⟨hd1, _, hrun, _, φ', A', rfl, k1, k2, k3, k4, hA1.frame, k5⟩
  rcases he with rfl | rfl
  · exact key
  · exact key


theorem finCT {t : Tmp} {us : List Tmp} {n : Nat} {v r : V} (hv : CellIs l H t n v) (hp : Pur true H (.tup (v :: us.map fun u => (l[u]?).getD .any)) r) : (Exit.ret = .ret ∨ Exit.ret = .normal) ∧ ∃ v, CellIs l H t n v ∧ Out true r [] (.tup (v :: us.map fun u => (l[u]?).getD .any)) ⟨l, H, 0⟩ := ⟨Or.inl rfl, v, hv, out_pur rfl hp⟩
theorem finMCT {t : Tmp} {us : List Tmp} {n : Nat} {v r : V} {K : List Reg} (ψ : List Nat) (hnd : ψ.Nodup) (hv : CellIs l H t n v) (hr : Le ψ r (.tup (v :: us.map fun u => (l[u]?).getD .any))) (hH : HLes ψ H ψ K) :
    (Exit.ret = .ret ∨ Exit.ret = .normal) ∧ ∃ v, CellIs l H t n v ∧ Out true r K (.tup (v :: us.map fun u => (l[u]?).getD .any)) ⟨l, H, 0⟩ := ⟨Or.inl rfl, v, hv, out_of (S := ⟨l, H, 0⟩) ψ (fun i hi => absurd hi (Nat.not_lt_zero _)) (hle_of hnd hH) hr (Or.inl rfl)⟩
/-- As finMCT, al = false. -/
theorem finMCTf {t : Tmp} {us : List Tmp} {n : Nat} {v r : V} {K : List Reg} (ψ : List Nat) (hnd : ψ.Nodup) (hv : CellIs l H t n v) (hr : Le ψ r (.tup (v :: us.map fun u => (l[u]?).getD .any))) (hH : HLes ψ H ψ K) (hf : flatV r = true) (hK : ∀ q ∈ K, q.mode ≠ 1 ∧ (q.mode = 0 → FlatL q.cells)) :
    (Exit.ret = .ret ∨ Exit.ret = .normal) ∧ ∃ v, CellIs l H t n v ∧ Out false r K (.tup (v :: us.map fun u => (l[u]?).getD .any)) ⟨l, H, 0⟩ := ⟨Or.inl rfl, v, hv, out_of (S := ⟨l, H, 0⟩) ψ (fun i hi => absurd hi (Nat.not_lt_zero _)) (hle_of hnd hH) hr (Or.inr ⟨hf, hK⟩)⟩
end

theorem apn_l {P : Program} {o : Oper} {ρ : Operand → V} {K : List Reg} {α : Type} {T : Ty α} {s x : Operand} {t e n b : Nat} {xs : List α} [ht : Sl P t e n b] (ho : o.op = .call { callee := .builtin .append, args := #[s, x], argTypes := #[t, t] })
    (hs : ρ s = .k (.slice none 0 0)) (hx : ρ x = lstOf T xs) (hn : T.n = n) (hm : xs.length ≤ 1000000000) (hb : Nat.ble b 100000 = true) : Step P o ρ K (.sl K.length 0 xs.length) (K ++ [regOf T e xs]) := by
  have hb' := Nat.le_of_ble_eq_true hb
  have h := step_append_nil (P := P) (H := K) ho hs (m := xs.length) (src := T.flat xs) (by rw [hx]; exact Src.lst _ _) (by rw [flat_length, hn]) (flat_oneV T xs) (Nat.le_trans (Nat.mul_le_mul hm hb') (by decide)) (by simp only [maxLen]; omega)
  rw [← hn] at h
  exact h

section
variable {P : Program} {T : Tab} {ops : Array Oper} {Q : Exit → St → Prop} {l : List V} {H : List Reg} {m : Nat} {o : Oper} {ρ : Operand → V}
/-- The rows h1 and h2 stay. -/
theorem aw_perG2 {id : Nat} (h1 h2 n : Nat) (hn : ops.size = n) [hT : TabC P T] (h : APerG P ops (fun H' => H'[h1]? = H[h1]? ∧ H'[h2]? = H[h2]?) [] n Q ⟨l, H, m⟩) : AW P (.region id ops true) Q ⟨l, H, m⟩ := aw_perG _ n hn h
theorem rd_ag {t : TypeId} {x : Operand} {h off n : Nat} {r : Reg} {v : V} [ht : Ag P t n] (ho : o.op = .load t x) (hx : ρ x = .ptr h off) (hr : H[h]? = some r) (hm : Nat.ble r.mode 1 = true) (hn : Nat.ble (off + n) r.cells.length = true) (hv : V.agg ((r.cells.drop off).take n) = v) : Step P o ρ H v H := by
  subst hv
  exact step_load_ptrs ho hx hr (Nat.le_of_ble_eq_true hm) (Nat.le_of_ble_eq_true hn)
theorem rd_sc {t : TypeId} {x : Operand} {h off : Nat} {r : Reg} {c : V} [ht : Sc P t] (ho : o.op = .load t x) (hx : ρ x = .ptr h off) (hr : H[h]? = some r) (hm : Nat.ble r.mode 1 = true) (hc : r.cells[off]? = some c) : Step P o ρ H c H := step_load_ptr ho hx hr (Nat.le_of_ble_eq_true hm) hc
end
end Go.Proofs.Ytkcicbigpbdjpaa.Ab
