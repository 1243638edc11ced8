/- What the row FnExactRunSort leans on, part 2: a walk over abstract values, and contracts proved with it. -/
import Derived.WalkKit
import Derived.Laws.Rows
import Derived.RowKit
import Derived.OrdersHeld
import Derived.Deep.RegionHeld3
import Derived.Deep.Draws
import Derived.BigCall
import Derived.KernelRfl
import Derived.Deep.Slices
import Derived.ChangeArms
import Derived.ChangeShapes
import Derived.WideShapes
import Derived.Laws.StructEq
import Derived.Lib.Overlaps
import Derived.Test.YtojcojanokhnaaaProg
import Derived.Test.YtojcojanokhnaaaZy0
set_option linter.unusedVariables false
set_option linter.unusedSimpArgs false
set_option maxRecDepth 20000
set_option maxHeartbeats 8000000
namespace Go.Proofs.Ytojcojanokhnaaa.Ab
open Go.RowKit
section
variable {P : Program} {ops : Array Oper} {md : Region.Mode} {G : List Reg → Prop} {Q : Exit → St → Prop}
def uX (P : Program) (ops : Array Oper) (G : List Reg → Prop) (i : Nat) (K : St → Prop) (S : St) : Prop :=
  match ops[i]? with
  | none => K S
  | some o => (ye ops S o = some true ∧ ∃ v H', z8 P o S.ev S.H v H' ∧ G H' ∧ K (S.put o.dst v H')) ∨ (ye ops S o = some false ∧ K (S.put o.dst (.k undef) S.H))
def uL (P : Program) (md : Region.Mode) (ops : Array Oper) (G : List Reg → Prop) (Q : Exit → St → Prop) : Nat → Array Bool → St → Prop
  | 0, listed, S => Region.ready md ops listed = [] ∧ Q .normal S
  | n + 1, listed, S => (Region.ready md ops listed = [] → Q .normal S) ∧ ∀ i ∈ Region.ready md ops listed, uX P ops G i (uL P md ops G Q n (listed.setIfInBounds i true)) S
theorem uX.mono {i : Nat} {K K' : St → Prop} {S : St} (hk : ∀ S, K S → K' S) (h : uX P ops G i K S) : uX P ops G i K' S := by
  unfold uX at *
  split at h
  · exact hk _ h
  · rcases h with ⟨h1, v, H', h2, h3, h4⟩ | ⟨h1, h2⟩
    · exact Or.inl ⟨h1, v, H', h2, h3, hk _ h4⟩
    · exact Or.inr ⟨h1, hk _ h2⟩
theorem uL.plain : ∀ (n : Nat) (listed : Array Bool) (S : St), uL P md ops G Q n listed S → vr P md ops (List.range ops.size) Q n listed S
  | 0, listed, S, h => h
  | n + 1, listed, S, h => by
    refine ⟨h.1, fun i hi => ?_⟩
    have h1 := h.2 i hi
    unfold uX at h1
    unfold AOp
    cases ho : ops[i]? with
    | none => rw [ho] at h1; exact uL.plain n _ S h1
    | some o =>
      rw [ho] at h1
      rcases h1 with ⟨hw, v, H', hs, _, hk⟩ | ⟨hw, hk⟩
      · exact Or.inl ⟨hw, v, H', hs, fun hn => absurd (List.mem_range.2 (Array.getElem?_eq_some_iff.1 ho).1) hn, uL.plain n _ _ hk⟩
      · exact Or.inr ⟨hw, uL.plain n _ _ hk⟩
def vO (P : Program) (ops : Array Oper) (G : List Reg → Prop) (o : Oper) (v : V) (S : St) : Prop :=
  (ye ops S o = some true ∧ ∀ H, G H → z8 P o S.ev H v H) ∨ (ye ops S o = some false ∧ v = .k undef)
theorem vO.aop {i : Nat} {o : Oper} {v : V} {S : St} {K : St → Prop} (hG : G S.H) (hi : ops[i]? = some o) (h : vO P ops G o v S) (hk : K (S.put o.dst v S.H)) : uX P ops G i K S := by
  unfold uX
  rw [hi]
  rcases h with ⟨h1, h2⟩ | ⟨h1, rfl⟩
  · exact Or.inl ⟨h1, v, S.H, h2 _ hG, hG, hk⟩
  · exact Or.inr ⟨h1, hk⟩
theorem vO.keep {oi oj : Oper} {v u : V} {S : St} {H' : List Reg} (hap : ∀ d, oj.dst = some d → d ∉ oi.looksAt ops) (h : vO P ops G oi v S) : vO P ops G oi v (S.put oj.dst u H') := by
  unfold vO at *
  rw [vD hap]
  rcases h with ⟨h1, h2⟩ | h1
  · exact Or.inl ⟨h1, fun H hH => (h2 H hH).congr (xp hap)⟩
  · exact Or.inr h1
theorem uX.put {j : Nat} {oi oj : Oper} {v : V} {S : St} {K : St → Prop} (hG : G S.H) (hj : ops[j]? = some oj) (hap : oi.apart ops oj = true)
    (hy : vO P ops G oi v S) (h : uX P ops G j K (S.put oi.dst v S.H)) : uX P ops G j (fun S' => G S'.H ∧ vO P ops G oi v S' ∧ K (S'.put oi.dst v S'.H)) S := by
  obtain ⟨h1, h2, h3⟩ := Oper.apart_spec hap
  unfold uX at *
  rw [hj] at *
  simp only at h ⊢
  rw [vD h1, wD] at h
  rcases h with ⟨hw, u, H', hs, hH, hk⟩ | ⟨hw, hk⟩
  · refine Or.inl ⟨hw, u, H', hs.congr (fun x hx => (xp h1 x hx).symm), hH, by rw [wD]; exact hH, hy.keep h3, ?_⟩
    rw [wD, ← wq v u S.H H' h2]
    exact hk
  · refine Or.inr ⟨hw, by rw [wD]; exact hG, hy.keep h3, ?_⟩
    rw [wD, ← wq v (.k undef) S.H S.H h2]
    exact hk
theorem nq {i : Nat} {oi : Oper} {v : V} (hi : ops[i]? = some oi) :
    ∀ (n : Nat) (listed : Array Bool) (S : St), G S.H →
      (∀ j oj, ops[j]? = some oj → j ≠ i → listed.getD j true = false → (∀ e ∈ oj.after, Region.binds md e = true → e.on ≠ i) → oi.apart ops oj = true) →
      i ∈ Region.ready md ops listed → vO P ops G oi v S →
      uL P md ops G Q n (listed.setIfInBounds i true) (S.put oi.dst v S.H) → uL P md ops G Q (n + 1) listed S := by
  intro n
  induction n with
  | zero =>
    intro listed S hG _ hr hy H
    refine ⟨fun h => (by rw [h] at hr; cases hr), fun j hj => ?_⟩
    by_cases hji : j = i
    · subst hji; exact hy.aop hG hi H
    · have := ready_mono hj hji
      rw [H.1] at this
      cases this
  | succ n ih =>
    intro listed S hG hfree hr hy H
    refine ⟨fun h => (by rw [h] at hr; cases hr), fun j hj => ?_⟩
    by_cases hji : j = i
    · subst hji; exact hy.aop hG hi H
    · have h1 := H.2 j (ready_mono hj hji)
      obtain ⟨hjun, oj, hoj, hall⟩ := mem_ready.1 hj
      have hiun := (mem_ready.1 hr).1
      have hnot : ∀ e ∈ oj.after, Region.binds md e = true → e.on ≠ i := fun e he hb heq => by
        have h1 := hall e he hb
        rw [heq] at h1
        rcases Nat.lt_or_ge i listed.size with h' | h'
        · simp [h'] at hiun h1; rw [hiun] at h1; cases h1
        · simp [Array.getElem?_eq_none h'] at h1
      have h2 := uX.put hG hoj (hfree j oj hoj hji hjun hnot) hy h1
      have hfree' : ∀ k ok, ops[k]? = some ok → k ≠ i → (listed.setIfInBounds j true).getD k true = false →
          (∀ e ∈ ok.after, Region.binds md e = true → e.on ≠ i) → oi.apart ops ok = true := fun k ok hk hki hun hno => by
        refine hfree k ok hk hki ?_ hno
        by_cases hjk : j = k
        · subst hjk; exact hjun
        · rw [getD_set_ne true hjk] at hun; exact hun
      refine uX.mono (fun S' h3 => ih (listed.setIfInBounds j true) S' h3.1 hfree' (ready_mono hr (Ne.symm hji)) h3.2.1 ?_) h2
      rw [Array.setIfInBounds_comm _ _ hji]
      exact h3.2.2
end
section
variable {P : Program} {T : Tab} {ops : Array Oper} {G : List Reg → Prop} {Q : Exit → St → Prop} {l l' : List V} {H H' K : List Reg} {m : Nat} {o : Oper} {d : List Nat} {n : Nat}
structure APerG (P : Program) (ops : Array Oper) (G : List Reg → Prop) (d : List Nat) (n : Nat) (Q : Exit → St → Prop) (S : St) : Prop where
  out : uL P .any ops G Q n (mkL ops.size d) S
theorem tP {id : Nat} {S : St} (G : List Reg → Prop) (n : Nat) (hn : ops.size = n) [hT : TabC P T] (h : APerG P ops G [] n Q S) : AW P (.region id ops true) Q S := by
  subst hn
  exact vb _ hT.wide (uL.plain _ _ _ h.out)
theorem vG {S : St} (hr : (Region.ready .any ops (mkL ops.size d) == []) = true) (h : Q .normal S) : APerG P ops G d 0 Q S := ⟨⟨by simpa using hr, h⟩⟩
theorem xC (i : Nat) {v : V} (hG : G H) (ho : ops[i]? = some o) (hc : u9 ops d i = true) (hw : ye ops ⟨l, H, m⟩ o = some true) (hs : ∀ H, G H → z8 P o (St.ev ⟨l, H, m⟩) H v H) (hp : vK l H o.dst v = some (l', K)) (hk : APerG P ops G (i :: d) n Q ⟨l', K, m⟩) : APerG P ops G d (n + 1) Q ⟨l, H, m⟩ := by
  simp only [u9, Bool.and_eq_true] at hc
  refine ⟨nq ho n _ _ hG (Region.free_spec ho hc.1) (by simpa using hc.2) (Or.inl ⟨hw, fun H1 h1 => hs H1 h1⟩) ?_⟩
  rw [show (⟨l, H, m⟩ : St).put o.dst v (⟨l, H, m⟩ : St).H = ⟨l', K, m⟩ from yz hp m]
  exact hk.out
theorem yZ (i : Nat) {v : V} [hT : TabC P T] (hG : G H) (ho : ops[i]? = some o) (hc : u9 ops d i = true) (hw : ye ops ⟨l, H, m⟩ o = some true) (h : ∀ H, ud T l H o.op = some (v, H)) (hp : vK l H o.dst v = some (l', K)) (hk : APerG P ops G (i :: d) n Q ⟨l', K, m⟩) : APerG P ops G d (n + 1) Q ⟨l, H, m⟩ :=
  xC i hG ho hc hw (fun H1 _ => wk (m := m) hT.ok (h H1)) hp hk
def BrG (P : Program) (ops : Array Oper) (G : List Reg → Prop) (d : List Nat) (n : Nat) (Q : Exit → St → Prop) (l : List V) (H : List Reg) (m : Nat) (i : Nat) : Prop :=
  uX P ops G i (uL P .any ops G Q n ((mkL ops.size d).setIfInBounds i true)) ⟨l, H, m⟩
theorem qA {i : Nat} {v : V} (ho : ops[i]? = some o) (hw : ye ops ⟨l, H, m⟩ o = some true) (hs : z8 P o (St.ev ⟨l, H, m⟩) H v H') (hG : G H') (hp : vK l H' o.dst v = some (l', K)) (hk : APerG P ops G (i :: d) n Q ⟨l', K, m⟩) : BrG P ops G d n Q l H m i := by
  unfold BrG uX
  rw [ho]
  refine Or.inl ⟨hw, v, H', hs, hG, ?_⟩
  rw [yz hp m]
  exact hk.out
theorem fM {i : Nat} {v : V} [hT : TabC P T] (ho : ops[i]? = some o) (hw : ye ops ⟨l, H, m⟩ o = some true) (h : ud T l H o.op = some (v, H')) (hG : G H') (hp : vK l H' o.dst v = some (l', K)) (hk : APerG P ops G (i :: d) n Q ⟨l', K, m⟩) : BrG P ops G d n Q l H m i := qA ho hw (wk hT.ok h) hG hp hk
theorem wY (i : Nat) (hr : (Region.ready .any ops (mkL ops.size d) == [i]) = true) (h : BrG P ops G d n Q l H m i) : APerG P ops G d (n + 1) Q ⟨l, H, m⟩ := by
  have hr' : Region.ready .any ops (mkL ops.size d) = [i] := by simpa using hr
  refine ⟨⟨fun h0 => (by rw [h0] at hr'; cases hr'), fun x hx => ?_⟩⟩
  rw [hr'] at hx
  simp at hx
  subst hx
  exact h
end
section
variable {P : Program} {l : List V} {H : List Reg}
theorem yS {f : FuncId} {fn : Func} {c : Code} {cargs : List V} {hs : List Reg} {r : V} {hs' : List Reg} {al : Bool} (t : Tmp) (ty : TypeId) (us : List Tmp) {n : Nat} [ht : Ag P ty n]
    (hf : P.funcs[f]? = some fn) (hb : fn.body = some c) (hus : us.isEmpty = false) (hr : fn.results = (.cell t ty :: us.map ResultVar.tmp).toArray)
    (h : AW P c (fun e S => (e = .ret ∨ e = .normal) ∧ ∃ v, CellIs S.tmps S.H t n v ∧ Out al r hs' (.tup (v :: us.map fun u => (S.tmps[u]?).getD .any)) S) ⟨cargs ++ List.replicate (fn.ntmps - cargs.length) (.k undef), hs, hs.length⟩) : zy P f cargs hs r hs' al := by
  intro A φ w xs hok hrel hsz
  refine calls_of_wp hf hb ?_
  have hI : Inv ⟨A, w, φ, hs⟩ φ ⟨cargs ++ List.replicate (fn.ntmps - cargs.length) (.k undef), hs, hs.length⟩ { tmps := xs ++ Array.replicate (fn.ntmps - xs.size) undef, defers := [] } w := by
    refine ⟨hok.len, ⟨A, ⟨hok, fun b hb => Or.inl hb, fun h b hl => Or.inr ⟨h, hl⟩, ⟨rfl, rfl, rfl, Nat.le_refl _, fun _ _ _ => rfl⟩, fun _ _ h => h⟩, ?_⟩, by simp [hsz], rfl⟩
    refine yc (yF hrel fun i hi => ?_) (yQ.2 fun i c hc => ⟨undef, ?_, ?_⟩)
    · simp [Array.getElem?_append, hsz, hi]
    · have hlt := (List.getElem?_eq_some_iff.1 hc).1
      simp only [List.length_replicate] at hlt
      simp only [Array.getElem?_append, hsz, Nat.not_lt.2 (Nat.le_add_right _ _), if_false, Nat.add_sub_cancel_left]
      simp [hlt]
    · have := List.mem_of_getElem? hc
      obtain rfl := List.eq_of_mem_replicate this
      simp [Rel]
  refine wp_mono (h.out ⟨A, w, φ, hs⟩ φ _ w hI) ?_
  rintro e a' w' ⟨S', φ1, hI', he, v, hc, ho⟩
  obtain ⟨hm, ⟨A1, hA1, hr1⟩, hs1, hd1⟩ := hI'
  obtain ⟨⟨h, off, r0, c1, c2, c3, c4, c5⟩⟩ := hc
  obtain ⟨y, y1, y2⟩ := yn hr1 c1
  rw [Rel] at y2
  obtain ⟨hd, b, e1, e2, e3⟩ := y2
  obtain ⟨xs', h2, h3, h4⟩ := xB (P := P) (yx (yy (xt hA1.ok e1 c2 c3 e2) off) n)
  have hl : ((r0.cells.drop off).take n).length = n := by simp; omega
  rw [hl] at h2
  have hx : Rel A1 w' φ1 v (.agg xs') := by subst c5; rw [Rel]; exact ⟨xs', rfl, h3, h4⟩
  have hrun : (results fn a'.tmps).run P w' = .ok (.tuple ((Value.agg xs') :: us.map fun u => a'.tmps.getD u undef).toArray) w' := by
    have hg : a'.tmps.getD t undef = .pointer (some ⟨b, off, none⟩) := by
      rw [Array.getD_eq_getD_getElem?, show a'.tmps[t]? = some y from y1, e3]
      rfl
    unfold results
    rw [hr]
    simp only [List.mapM_toArray, List.mapM_cons, hg, Sem.run_bind, Sem.run_map, Sem.run_pure, Result.andThen_ok, asAddr, loadVar, ht.a, ht.s, h2, if_true]
    rw [u6 a'.tmps w' _ (fun t => rfl)]
    simp only [Result.andThen_ok, Sem.run_pure]
    cases us with
    | nil => cases hus
    | cons u us => simp
  have hxt : Rel A1 w' φ1 (.tup (v :: us.map fun u => (S'.tmps[u]?).getD .any)) (.tuple ((Value.agg xs') :: us.map fun u => a'.tmps.getD u undef).toArray) := by
    rw [Rel]
    refine ⟨_, rfl, by simp, ?_⟩
    rw [zx]
    refine ⟨⟨.agg xs', rfl, hx⟩, yQ.2 fun i c hc => ?_⟩
    rw [List.getElem?_map] at hc
    cases hi : us[i]? with
    | none => rw [hi] at hc; simp at hc
    | some u =>
      rw [hi] at hc
      simp only [Option.map_some, Option.some.injEq] at hc
      subst hc
      exact ⟨a'.tmps.getD u undef, by simp [hi], wz hr1 (.tmp u)⟩
  obtain ⟨φ', A', k1, k2, k3, k4, k5⟩ := ho ⟨A, w, φ, hs⟩ A1 φ1 w' _ hm hA1 hxt
  have key : a'.defers = [] ∧ ∃ v, (results fn a'.tmps).run P w' = .ok v w' ∧ ∃ x φ' A', (Ending.returned v) = .returned x ∧ HeapOk A' w' φ' hs' ∧ Rel A' w' φ' r x ∧ (∀ b, A' b → (al = true ∧ A b) ∨ w.heap.size ≤ b) ∧
      (∀ h b, z4 φ' hs' h b → w.heap.size ≤ b ∨ ∃ h0, z4 φ hs h0 b) ∧ Framed ⟨A, w, φ, hs⟩ w' ∧ (∀ (h : Nat) (hd : Hd), φ[h]? = some hd → φ'[h]? = some hd) :=
    ⟨hd1, _, hrun, _, φ', A', rfl, k1, k2, k3, k4, hA1.frame, k5⟩
  rcases he with rfl | rfl
  · exact key
  · exact key
theorem nY {t : Tmp} {us : List Tmp} {n : Nat} {v r : V} (hv : CellIs l H t n v) (hp : Pur true H (.tup (v :: us.map fun u => (l[u]?).getD .any)) r) : (Exit.ret = .ret ∨ Exit.ret = .normal) ∧ ∃ v, CellIs l H t n v ∧ Out true r [] (.tup (v :: us.map fun u => (l[u]?).getD .any)) ⟨l, H, 0⟩ := ⟨Or.inl rfl, v, hv, pC rfl hp⟩
theorem sE {t : Tmp} {us : List Tmp} {n : Nat} {v r : V} {K : List Reg} (ψ : List Nat) (hnd : ψ.Nodup) (hv : CellIs l H t n v) (hr : Le ψ r (.tup (v :: us.map fun u => (l[u]?).getD .any))) (hH : HLes ψ H ψ K) (hf : tJ r = true) (hK : ∀ q ∈ K, q.mode ≠ 1 ∧ (q.mode = 0 → qC q.cells)) :
    (Exit.ret = .ret ∨ Exit.ret = .normal) ∧ ∃ v, CellIs l H t n v ∧ Out false r K (.tup (v :: us.map fun u => (l[u]?).getD .any)) ⟨l, H, 0⟩ := ⟨Or.inl rfl, v, hv, uC (S := ⟨l, H, 0⟩) ψ (fun i hi => absurd hi (Nat.not_lt_zero _)) (wb hnd hH) hr (Or.inr ⟨hf, hK⟩)⟩
end
theorem db {P : Program} {o : Oper} {ρ : Operand → V} {K : List Reg} {α : Type} {T : Ty α} {s x : Operand} {t e n b : Nat} {xs : List α} [ht : Sl P t e n b] (ho : o.op = .call { callee := .builtin .append, args := #[s, x], argTypes := #[t, t] })
    (hs : ρ s = .k (.slice none 0 0)) (hx : ρ x = xf T xs) (hn : T.n = n) (hm : xs.length ≤ 1000000000) (hb : Nat.ble b 100000 = true) : z8 P o ρ K (.sl K.length 0 xs.length) (K ++ [yV T e xs]) := by
  have hb' := Nat.le_of_ble_eq_true hb
  have h := t0 (P := P) (H := K) ho hs (m := xs.length) (src := T.flat xs) (by rw [hx]; exact Src.lst _ _) (by rw [yL, hn]) (qc T xs) (Nat.le_trans (Nat.mul_le_mul hm hb') (by decide)) (by simp only [maxLen]; omega)
  rw [← hn] at h
  exact h
section
variable {P : Program} {T : Tab} {ops : Array Oper} {Q : Exit → St → Prop} {l : List V} {H : List Reg} {m : Nat} {o : Oper} {ρ : Operand → V}
theorem nl {id : Nat} (h1 h2 n : Nat) (hn : ops.size = n) [hT : TabC P T] (h : APerG P ops (fun H' => H'[h1]? = H[h1]? ∧ H'[h2]? = H[h2]?) [] n Q ⟨l, H, m⟩) : AW P (.region id ops true) Q ⟨l, H, m⟩ := tP _ n hn h
theorem mp {t : TypeId} {x : Operand} {h off n : Nat} {r : Reg} {v : V} [ht : Ag P t n] (ho : o.op = .load t x) (hx : ρ x = .ptr h off) (hr : H[h]? = some r) (hm : Nat.ble r.mode 1 = true) (hn : Nat.ble (off + n) r.cells.length = true) (hv : V.agg ((r.cells.drop off).take n) = v) : z8 P o ρ H v H := by
  subst hv
  exact wL ho hx hr (Nat.le_of_ble_eq_true hm) (Nat.le_of_ble_eq_true hn)
theorem xv {t : TypeId} {x : Operand} {h off : Nat} {r : Reg} {c : V} [ht : Sc P t] (ho : o.op = .load t x) (hx : ρ x = .ptr h off) (hr : H[h]? = some r) (hm : Nat.ble r.mode 1 = true) (hc : r.cells[off]? = some c) : z8 P o ρ H c H := vW ho hx hr (Nat.le_of_ble_eq_true hm) hc
end
end Go.Proofs.Ytojcojanokhnaaa.Ab
namespace Go.Proofs.Ytojcojanokhnaaa.Ab
open Go.RowKit
def bAnd (k : IntKind) (a b : Int) : Int := k.wrap ((BitVec.ofInt k.bits a &&& BitVec.ofInt k.bits b).toNat : Nat)
def bXor (k : IntKind) (a b : Int) : Int := k.wrap ((BitVec.ofInt k.bits a ^^^ BitVec.ofInt k.bits b).toNat : Nat)
def uJ (k : IntKind) (a : Int) (n : Nat) : Int := a.fdiv (2 ^ (min n k.bits))
section
variable {P : Program} {o : Oper} {ρ : Operand → V} {H : List Reg}
theorem wj {t t' : TypeId} {x y : Operand} {k k' : IntKind} {a : Int} {n : Nat} (ho : o.op = .binOp .shr t x y t') (hx : ρ x = .k (.int k a)) (hy : ρ y = .k (.int k' n)) : z8 P o ρ H (.k (.int k (uJ k a n))) H :=
  y5 ho hx hy fun w => by rw [Sem.run_bind, xJ]; simp [binOp, Op.shift, uJ, show ¬ ((n : Int) < 0) by omega]
end
end Go.Proofs.Ytojcojanokhnaaa.Ab
namespace Go.Proofs.Ytojcojanokhnaaa.Ab
open Go.RowKit
section
variable {P : Program} {o : Oper} {ρ : Operand → V} {H : List Reg} {C : Cx} {A : Nat → Prop} {φ : List Hd} {w : World}
theorem gq (w : World) (c : Array Value) (e : TypeId) (i : Nat) : ((w.drewN 0).alloc (.cells c e)).cell? ⟨w.heap.size, i, none⟩ = c[i]? := by
  have h : ((w.drewN 0).alloc (.cells c e)).heap[w.heap.size]? = some (.cells c e (0, 0)) := Go.heap_alloc_new (w.drewN 0) _
  unfold World.cell?
  rw [h]
  rfl
theorem InvA.alloc_read (hA : InvA C A φ H w) (ob : Obj) : InvA C (fun b => A b ∨ b = w.heap.size) φ H ((w.drewN 0).alloc ob) := by
  have hheap : ∀ b, b < w.heap.size → ((w.drewN 0).alloc ob).heap[b]? = w.heap[b]? := fun b hb => Below.heap_alloc (w.drewN 0) ob b hb
  have hsz : ((w.drewN 0).alloc ob).heap.size = w.heap.size + 1 := by show (Array.push _ _).size = _; rw [Array.size_push]; rfl
  have hlow : ∀ h b, z4 φ H h b → b < w.heap.size := fun h b ⟨hd, r, h1, h2, h3, h4⟩ => wU hA.ok h1 h2 (by omega) h4
  refine ⟨⟨hA.ok.len, fun h hd r h1 h2 h3 => ?_, hA.ok.inj, fun h b h1 hb => ?_, fun h hd r b h1 h2 h3 h4 => Or.inl (hA.ok.frz h hd r b h1 h2 h3 h4), fun b hb => ?_⟩, fun b hb => ?_, hA.own, ?_, hA.pre⟩
  · obtain ⟨e1, e2⟩ := hA.ok.regs h hd r h1 h2 h3
    refine ⟨e1, ?_⟩
    cases hk : hd.blk with
    | none => rw [hk] at e2; exact e2
    | some b =>
      rw [hk] at e2
      obtain ⟨c, k1, k2, k3, k4⟩ := e2
      exact ⟨c, (hheap b (Array.getElem?_eq_some_iff.1 k1).1).trans k1, k2, k3, zx.mono (fun b hb => ⟨Or.inl hb, hheap b (hA.ok.low b hb)⟩) (fun _ _ h => h) k4⟩
  · rcases hb with hb | rfl
    · exact hA.ok.apart _ _ h1 hb
    · exact absurd (hlow _ _ h1) (Nat.lt_irrefl _)
  · rcases hb with hb | rfl
    · rw [hsz]; exact Nat.lt_succ_of_lt (hA.ok.low b hb)
    · rw [hsz]; exact Nat.lt_succ_self _
  · rcases hb with hb | rfl
    · exact hA.old b hb
    · exact Or.inr hA.frame.size
  · obtain ⟨f1, f2, f3, f4, f5⟩ := hA.frame
    exact ⟨f1, f2, f3, by rw [hsz]; omega, fun i hi hno => (hheap i (by omega)).trans (f5 i hi hno)⟩
theorem km {t e n b len : Nat} {ps : List (Nat × Operand)} {cs : List V} [ht : Sl P t e n b] (ho : o.op = .buildSlice t len ps.toArray) (hlen : len * n ≤ 16777216)
    (hf : ug (fun i => some (i * n, n)) (List.replicate (len * n) V.any) (ps.map fun p => (p.1, ρ p.2)) = some cs) (hcs : cs.length = len * n) (hN : NoH cs) : z8 P o ρ H (.lst len cs) H := xm fun C A φ a w hA hh => by
  have hx : ∀ p ∈ ps, Rel A w φ (ρ p.2) (a.eval p.2) := fun p hm => hh p.2 (by simp only [ho, Op.operands]; simpa using ⟨p.1, hm⟩)
  obtain ⟨i, z, i1, i2, i3, i4, i5⟩ := ht.i
  have hpos := ht.pos
  have e1 : (List.map (fun p : Nat × Operand => (p.1, a.eval p.2)) ps) = (ps.toArray.map fun (i, x) => (i, a.eval x)).toList := by simp
  have key : ∀ c0 : Array Value, c0.size = len * n → ∃ c', Instr.fill (fun i => some (i * n, n)) c0 (ps.toArray.map fun (i, x) => (i, a.eval x)).toList = some c' ∧ c'.size = cs.length ∧ zx A w φ cs (fun i => c'[i]?) := fun c0 h0 => by
    rw [← e1]
    exact tL hx hf (by simp [h0]) (qi _ c0 h0)
  have hle : ¬ (len * n > 2 ^ 24) := by omega
  have fin : ∀ c' : Array Value, c'.size = cs.length → zx A w φ cs (fun i => c'[i]?) → ((execOp a.eval o).run P w = .ok (.value (.slice (some ⟨w.heap.size, 0, none⟩) len len)) (w.alloc (.cells c' e))) → _ := fun c' k2 k3 hrun =>
    (⟨.slice (some ⟨w.heap.size, 0, none⟩) len len, (w.drewN 0).alloc (.cells c' e), (fun b => A b ∨ b = w.heap.size), φ, Or.inl hrun, hA.alloc_read _, fun b hb => ⟨Or.inl hb, (wG hA _ 0 b hb).2⟩, fun h hd hh => hh, by
      rw [Rel]
      refine ⟨_, len, rfl, Nat.le_refl _, by rw [hcs]; exact Nat.le_mul_of_pos_right len hpos, Or.inr ⟨w.heap.size, 0, rfl, Or.inr rfl, ?_⟩⟩
      refine yF (zx.mono (fun b hb => ⟨Or.inl hb, (wG hA (.cells c' e) 0 b hb).2⟩) (fun _ _ h => h) (wP (φ' := []) hN k3)) fun i hi => ?_
      rw [Nat.zero_add]
      exact gq w c' e i⟩ : ∃ x w' A' φ', ((execOp a.eval o).run P w = .ok (.value x) w' ∨ ((execOp a.eval o).run P w = .ok .skip w' ∧ x = undef)) ∧ InvA C A' φ' H w' ∧ (∀ b, A b → A' b ∧ w'.heap[b]? = w.heap[b]?) ∧ (∀ (h : Nat) (hd : Hd), φ[h]? = some hd → φ'[h]? = some hd) ∧ Rel A' w' φ' (.lst len cs) x)
  by_cases h0 : len * n = 0
  · obtain ⟨c', k1, k2, k3⟩ := key ((Array.range (len * n)).map (fun i => (#[] : Array Value)[i % (#[] : Array Value).size]!)) (by simp)
    refine fin c' k2 k3 ?_
    simp only [execOp, ho, Instr.buildSlice, Sem.run_bind, run_underlying ht.u, Result.andThen_ok, sizeOf, typeInfo, run_program, i1, Sem.run_pure, i2, if_neg hle]
    rw [if_pos h0]
    rw [Sem.run_bind, Sem.run_pure, Result.andThen_ok, k1]
    simp [newRow]
  · obtain ⟨c', k1, k2, k3⟩ := key ((Array.range (len * n)).map (fun i => z.cells[i % z.cells.size]!)) (by simp)
    refine fin c' k2 k3 ?_
    simp only [execOp, ho, Instr.buildSlice, Sem.run_bind, run_underlying ht.u, Result.andThen_ok, sizeOf, typeInfo, run_program, i1, Sem.run_pure, i2, if_neg hle]
    rw [if_neg h0]
    simp only [zeroValue, Sem.run_bind, typeInfo, run_program, i1, i4, Sem.run_pure, Result.andThen_ok, k1]
    simp [newRow]
theorem yh {t e n b len : Nat} {ps : List (Nat × Operand)} {cs : List V} [ht : Sl P t e n b] (ho : o.op = .buildSlice t len ps.toArray) (hlen : Nat.ble (len * n) 16777216 = true)
    (hf : ug (fun i => some (i * n, n)) (List.replicate (len * n) V.any) (ps.map fun p => (p.1, ρ p.2)) = some cs) (hcs : Nat.beq cs.length (len * n) = true) (hN : noHs cs = true) : z8 P o ρ H (.lst len cs) H :=
  km ho (Nat.le_of_ble_eq_true hlen) hf (Nat.eq_of_beq_eq_true hcs) (nE hN)
end
end Go.Proofs.Ytojcojanokhnaaa.Ab
namespace Go.Proofs.Ytojcojanokhnaaa.Ab
open Go.RowKit
section
variable {P : Program} {o : Oper} {ρ : Operand → V} {H : List Reg}
structure IntFs (P : Program) (t : TypeId) (fs : Array Field) : Prop where
  u : P.underlying t = some (.struct fs)
  held : P.stoodInHeld t = false
  guard : P.eqGuardType P.depth t = false
  fs : ∀ (i : Nat) (f : Field), fs.toList[i]? = some f → (f.name == "_") = false ∧ f.offset = i ∧ P.underlying f.type = some (.int .i64)
theorem na {d : Nat} {xs ys : Array Value} {w : World} : ∀ (fs : List Field) (us bs : List Int), us.length = fs.length → bs.length = fs.length →
    (∀ (j : Nat) (f : Field) (a b : Int), fs[j]? = some f → us[j]? = some a → bs[j]? = some b → (f.name == "_") = false ∧ P.underlying f.type = some (.int .i64) ∧ xs[f.offset]? = some (.int .i64 a) ∧ ys[f.offset]? = some (.int .i64 b)) → (Op.eqFields (d + 1) xs ys fs).run P w = .ok (decide (us = bs)) w
  | [], [], [], _, _, _ => by simp [Op.eqFields]
  | f :: fs, a :: us, b :: bs, h1, h2, h => by
    obtain ⟨g1, g2, g3, g4⟩ := h 0 f a b rfl rfl rfl
    have hn' : f.name ≠ "_" := by simpa using g1
    have ha : (part f.type xs f.offset).run P w = .ok (.int .i64 a) w := by simp [part, isAgg, run_underlying g2, g3]
    have hb : (part f.type ys f.offset).run P w = .ok (.int .i64 b) w := by simp [part, isAgg, run_underlying g2, g4]
    have ih := na (d := d) (xs := xs) (ys := ys) (w := w) fs us bs (by simpa using h1) (by simpa using h2) (fun j f' a' b' q1 q2 q3 => h (j + 1) f' a' b' q1 q2 q3)
    rw [Op.eqFields]
    simp only [if_pos hn', Sem.run_bind, ha, hb, run_equalIn_int w d f.type .i64 .i64 a b g2, Result.andThen_ok]
    by_cases hab : a = b
    · subst hab
      simpa using ih
    · simp [hab]
  | [], _ :: _, _, h1, _, _ => by simp at h1
  | [], [], _ :: _, _, h2, _ => by simp at h2
  | _ :: _, [], _, h1, _, _ => by simp at h1
  | _ :: _, _ :: _, [], _, h2, _ => by simp at h2
theorem lB {A : Nat → Prop} {w : World} {φ : List Hd} {us : List Int} {xs : Array Value} (h : zx A w φ (us.map I) (fun i => xs[i]?)) {j : Nat} {a : Int} (ha : us[j]? = some a) : xs[j]? = some (.int .i64 a) := by
  obtain ⟨y, h1, h2⟩ := yn h (i := j) (c := I a) (by rw [List.getElem?_map, ha]; rfl)
  simp only [Rel] at h2
  subst h2
  exact h1
theorem fj {fs : Array Field} {t : TypeId} (hf : IntFs P t fs) {A : Nat → Prop} {w : World} {φ : List Hd} {us bs : List Int} {xs ys : Array Value} (ha : us.length = fs.size) (hb : bs.length = fs.size) (hx : zx A w φ (us.map I) (fun i => xs[i]?)) (hy : zx A w φ (bs.map I) (fun i => ys[i]?)) :
    (Op.equalIn 10000 t (.agg xs) (.agg ys)).run P w = .ok (decide (us = bs)) w := by
  have he : P.fieldsOf t = fs := by simp [Program.fieldsOf, hf.u]
  rw [show (10000 : Nat) = 9999 + 1 from rfl, run_equalIn_struct (P := P) w 9999 t xs ys (by rw [he]; exact hf.u) hf.held, he]
  refine na (d := 9998) fs.toList us bs (by simpa using ha) (by simpa using hb) fun j f a b q1 q2 q3 => ?_
  obtain ⟨g1, g2, g3⟩ := hf.fs j f q1
  rw [g2]
  exact ⟨g1, g3, lB hx q2, lB hy q3⟩
theorem ln {t t' : TypeId} {x y : Operand} {us bs : List Int} (fs : Array Field) (hf : IntFs P t fs) (ho : o.op = .binOp .neq t x y t') (hx : ρ x = .agg (us.map I)) (hy : ρ y = .agg (bs.map I)) (ha : us.length = fs.size) (hb : bs.length = fs.size) : z8 P o ρ H (.k (.bool (!decide (us = bs)))) H := yE fun A φ a w _ h => by
  have h1 := h x (by simp [ho, Op.operands])
  have h2 := h y (by simp [ho, Op.operands])
  rw [hx, Rel] at h1
  rw [hy, Rel] at h2
  obtain ⟨xs, e1, _, r1⟩ := h1
  obtain ⟨ys, e2, _, r2⟩ := h2
  refine ⟨.bool (!decide (us = bs)), ?_, by simp [Rel]⟩
  have hr : ((do eqGuard .neq t x y (.agg xs) (.agg ys); binOp .neq t (.agg xs) (.agg ys) : Sem Value)).run P w = .ok (.bool (!decide (us = bs))) w := by
    rw [Sem.run_bind, run_eqGuard_agg w .neq t x y xs ys hf.guard]
    simp only [Result.andThen_ok, run_neq_struct, fj hf ha hb r1 r2]
  simp only [execOp, ho, e1, e2]
  rw [Sem.run_bind, hr]
  rfl
end
end Go.Proofs.Ytojcojanokhnaaa.Ab
namespace Go.Proofs.Ytojcojanokhnaaa.Ab
open Go.RowKit
section
variable {C : Cx} {A A' : Nat → Prop} {φ φ' : List Hd} {H : List Reg} {w w' : World} {P : Program} {o : Oper} {ρ : Operand → V}
end
end Go.Proofs.Ytojcojanokhnaaa.Ab
namespace Go.Proofs.Ytojcojanokhnaaa.Ab
open Go.RowKit
section
variable {C : Cx} {A A' : Nat → Prop} {φ φ' : List Hd} {H : List Reg} {w w' : World} {P : Program} {o : Oper} {ρ : Operand → V} {ops : Array Oper} {rest : List Oper} {Q : Exit → St → Prop} {S T : St}
mutual
inductive Nz (k : Nat) : V → V → Prop where
  | same (v : V) : Nz k v v
  | nil : Nz k (.k (.slice none 0 0)) (.sl k 0 0)
  | agg {cs ds : List V} (h : NzS k cs ds) : Nz k (.agg cs) (.agg ds)
  | tup {cs ds : List V} (h : NzS k cs ds) : Nz k (.tup cs) (.tup ds)
inductive NzS (k : Nat) : List V → List V → Prop where
  | rest (cs : List V) : NzS k cs cs
  | cons {c d : V} {cs ds : List V} (h : Nz k c d) (hs : NzS k cs ds) : NzS k (c :: cs) (d :: ds)
end
theorem NzS.length {k : Nat} : ∀ {cs ds : List V}, NzS k cs ds → ds.length = cs.length
  | _, _, .rest _ => rfl
  | _, _, .cons h hs => by simp [NzS.length hs]
inductive NzR (k : Nat) : List Reg → List Reg → Prop where
  | rest (H : List Reg) : NzR k H H
  | cons {r : Reg} {cs : List V} {H K : List Reg} (h : NzS k r.cells cs) (hs : NzR k H K) : NzR k (r :: H) ({ r with cells := cs } :: K)
theorem NzR.get {k : Nat} : ∀ {H K : List Reg}, NzR k H K → K.length = H.length ∧ ∀ (i : Nat) (r' : Reg), K[i]? = some r' → ∃ r, H[i]? = some r ∧ r'.mode = r.mode ∧ r'.esz = r.esz ∧ r'.e = r.e ∧ NzS k r.cells r'.cells
  | _, _, .rest H => ⟨rfl, fun i r h => ⟨r, h, rfl, rfl, rfl, .rest _⟩⟩
  | _, _, .cons h hs => by
    obtain ⟨e1, e2⟩ := hs.get
    refine ⟨by simp [e1], fun i r' hi => ?_⟩
    cases i with
    | zero => simp at hi; subst hi; exact ⟨_, rfl, rfl, rfl, rfl, h⟩
    | succ i => simp only [List.getElem?_cons_succ] at hi ⊢; exact e2 i r' hi
mutual
theorem Nz.rel {k : Nat} {hd : Hd} (hφ : φ[k]? = some hd) (hb : hd.blk = none) (hc : hd.cap = 0) : ∀ {v v' : V} {x : Value}, Nz k v v' → Rel A w φ v x → Rel A w φ v' x
  | _, _, x, .same v, h => h
  | _, _, x, .nil, h => by
    rw [Rel] at h
    rw [Rel]
    exact ⟨hd, hφ, Or.inl ⟨by rw [h, hb, hc]; rfl, by omega⟩⟩
  | _, _, x, .agg hs, h => by
    rw [Rel] at h ⊢
    obtain ⟨xs, e1, e2, h1⟩ := h
    exact ⟨xs, e1, e2.trans (NzS.length hs).symm, NzS.rels hφ hb hc hs h1⟩
  | _, _, x, .tup hs, h => by
    rw [Rel] at h ⊢
    obtain ⟨xs, e1, e2, h1⟩ := h
    exact ⟨xs, e1, e2.trans (NzS.length hs).symm, NzS.rels hφ hb hc hs h1⟩
theorem NzS.rels {k : Nat} {hd : Hd} (hφ : φ[k]? = some hd) (hb : hd.blk = none) (hc : hd.cap = 0) : ∀ {cs ds : List V} {g : Nat → Option Value}, NzS k cs ds → zx A w φ cs g → zx A w φ ds g
  | _, _, g, .rest _, h => h
  | _, _, g, .cons h hs, hr => by
    rw [zx] at hr ⊢
    obtain ⟨⟨y, h1, h2⟩, h3⟩ := hr
    exact ⟨⟨y, h1, Nz.rel hφ hb hc h h2⟩, NzS.rels hφ hb hc hs h3⟩
end
theorem vi {l l' : List V} {H K : List Reg} {m : Nat} (e n : Nat) (ht : NzS H.length l l') (hH : NzR H.length H K) : Sub ⟨l', K ++ [⟨e, n, [], 0⟩], m⟩ ⟨l, H, m⟩ := fun C φ a w hI => by
  obtain ⟨hm0, ⟨A, hA, hr⟩, hs, hd⟩ := hI
  obtain ⟨k1, k2⟩ := hH.get
  have hA1 := hA.addNil e n
  have hφ : (φ ++ [(⟨none, 0, n, e⟩ : Hd)])[H.length]? = some ⟨none, 0, n, e⟩ := by
    rw [← hA.ok.len]; simp
  have hup : ∀ (i : Nat) (d : Hd), φ[i]? = some d → (φ ++ [(⟨none, 0, n, e⟩ : Hd)])[i]? = some d := fun i d h => zb h
  have hcell : ∀ (i : Nat) (r' : Reg), (K ++ [(⟨e, n, [], 0⟩ : Reg)])[i]? = some r' → ∃ r, (H ++ [(⟨e, n, [], 0⟩ : Reg)])[i]? = some r ∧ r'.mode = r.mode ∧ r'.esz = r.esz ∧ r'.e = r.e ∧ NzS H.length r.cells r'.cells := fun i r' hi => by
    rcases Nat.lt_or_ge i K.length with hlt | hge
    · rw [List.getElem?_append_left hlt] at hi
      obtain ⟨r, q1, q2, q3, q4, q5⟩ := k2 i r' hi
      exact ⟨r, zb q1, q2, q3, q4, q5⟩
    · rw [List.getElem?_append_right hge, k1] at hi
      exact ⟨r', by rw [List.getElem?_append_right (by omega)]; exact hi, rfl, rfl, rfl, .rest _⟩
  have hlive : ∀ i b, z4 (φ ++ [(⟨none, 0, n, e⟩ : Hd)]) (K ++ [(⟨e, n, [], 0⟩ : Reg)]) i b → z4 (φ ++ [(⟨none, 0, n, e⟩ : Hd)]) (H ++ [(⟨e, n, [], 0⟩ : Reg)]) i b := fun i b ⟨d, r', q1, q2, q3, q4⟩ => by
    obtain ⟨r, p1, p2, _⟩ := hcell i r' q2
    exact ⟨d, r, q1, p1, by omega, q4⟩
  refine ⟨φ ++ [⟨none, 0, n, e⟩], hm0, ⟨A, ⟨⟨?_, fun i d r' q1 q2 q3 => ?_, fun i j b q1 q2 => hA1.ok.inj i j b (hlive i b q1) (hlive j b q2), fun i b q1 => hA1.ok.apart i b (hlive i b q1), fun i d r' b q1 q2 q3 q4 => ?_, hA1.ok.low⟩, hA1.old, fun i b q1 => hA1.own i b (hlive i b q1), hA1.frame, hA1.pre⟩, ?_⟩, hs.trans (NzS.length ht).symm, hd⟩
  · have := hA1.ok.len
    simp only [List.length_append] at this ⊢
    omega
  · obtain ⟨r, p1, p2, p3, p4, p5⟩ := hcell i r' q2
    obtain ⟨f1, f2⟩ := hA1.ok.regs i d r q1 p1 (by omega)
    refine ⟨⟨f1.1.trans p3.symm, f1.2.1.trans p4.symm, f1.2.2⟩, ?_⟩
    cases hb : d.blk with
    | none =>
      rw [hb] at f2
      have := NzS.length p5
      rw [f2.1] at this
      exact ⟨List.length_eq_zero_iff.1 this, f2.2⟩
    | some b =>
      rw [hb] at f2
      obtain ⟨c, c1, c2, c3, c4⟩ := f2
      exact ⟨c, c1, c2, by rw [NzS.length p5]; exact c3, NzS.rels hφ rfl rfl p5 c4⟩
  · obtain ⟨r, p1, p2, _⟩ := hcell i r' q2
    exact hA1.ok.frz i d r b q1 p1 (by omega) q4
  · exact NzS.rels hφ rfl rfl ht (zx.mono (fun b hb => ⟨hb, rfl⟩) hup hr)
theorem pg {l : List V} {H : List Reg} {m h : Nat} {r : Reg} (hh : H[h]? = some r) (hm : r.mode = 0) (hge : m ≤ h) (hlive : ∀ i, i < m → ∃ q, H[i]? = some q ∧ q.mode = 0) : Sub ⟨l, H.set h { r with mode := 1 }, m⟩ ⟨l, H, m⟩ := fun C φ a w hI => by
  obtain ⟨hm0, ⟨A, hA, hr⟩, hs, hd⟩ := hI
  have hlt : h < H.length := (List.getElem?_eq_some_iff.1 hh).1
  have wI : ∀ i b, z4 φ (H.set h { r with mode := 1 }) i b → i ≠ h ∧ z4 φ H i b := fun i b ⟨d, q, q1, q2, q3, q4⟩ => by
    rcases getElem?_set' q2 with ⟨rfl, rfl⟩ | ⟨hne, q2⟩
    · cases q3
    · exact ⟨hne, d, q, q1, q2, q3, q4⟩
  let B : Nat → Prop := fun b => ∃ d, φ[h]? = some d ∧ d.blk = some b
  have hB : ∀ b, B b → z4 φ H h b := fun b ⟨d, q1, q2⟩ => ⟨d, r, q1, hh, hm, q2⟩
  refine ⟨φ, hm0, ⟨fun b => A b ∨ B b, ⟨⟨by rw [List.length_set]; exact hA.ok.len, fun i d q q1 q2 q3 => ?_, fun i j b q1 q2 => hA.ok.inj i j b (wI i b q1).2 (wI j b q2).2, fun i b q1 hb => ?_, fun i d q b q1 q2 q3 q4 => ?_, fun b hb => ?_⟩, fun b hb => ?_, fun i b q1 => hA.own i b (wI i b q1).2, hA.frame, hA.pre⟩, zx.mono (fun b hb => ⟨Or.inl hb, rfl⟩) (fun _ _ h => h) hr⟩, hs, hd⟩
  · obtain ⟨q', p1, p2⟩ : ∃ q', H[i]? = some q' ∧ q'.mode ≤ 1 ∧ q.esz = q'.esz ∧ q.e = q'.e ∧ q.cells = q'.cells := by
      rcases getElem?_set' q2 with ⟨rfl, rfl⟩ | ⟨hne, q2⟩
      · exact ⟨r, hh, by omega, rfl, rfl, rfl⟩
      · exact ⟨q, q2, q3, rfl, rfl, rfl⟩
    obtain ⟨f1, f2⟩ := hA.ok.regs i d q' q1 p1 p2.1
    refine ⟨⟨f1.1.trans p2.2.1.symm, f1.2.1.trans p2.2.2.1.symm, f1.2.2⟩, ?_⟩
    cases hb : d.blk with
    | none => rw [hb] at f2; rw [p2.2.2.2]; exact f2
    | some b =>
      rw [hb] at f2
      obtain ⟨c, c1, c2, c3, c4⟩ := f2
      exact ⟨c, c1, c2, by rw [p2.2.2.2]; exact c3, by rw [p2.2.2.2]; exact zx.mono (fun b hb => ⟨Or.inl hb, rfl⟩) (fun _ _ h => h) c4⟩
  · obtain ⟨hne, hl⟩ := wI i b q1
    rcases hb with hb | hb
    · exact hA.ok.apart i b hl hb
    · exact hne (hA.ok.inj _ _ _ hl (hB b hb))
  · rcases getElem?_set' q2 with ⟨rfl, rfl⟩ | ⟨hne, q2⟩
    · exact Or.inr ⟨d, q1, q4⟩
    · exact Or.inl (hA.ok.frz i d q b q1 q2 q3 q4)
  · rcases hb with hb | ⟨d, q1, q2⟩
    · exact hA.ok.low b hb
    · exact wU hA.ok q1 hh (by omega) q2
  · rcases hb with hb | hb
    · exact hA.old b hb
    · rcases hA.own h b (hB b hb) with h1 | ⟨h0, d0, q0, p1, p2, p3, p4⟩
      · exact Or.inr h1
      · exfalso
        have hlt0 : h0 < m := by
          have := (List.getElem?_eq_some_iff.1 p1).1
          have e : C.φ0.length = m := hm0
          omega
        obtain ⟨q, k1, k2⟩ := hlive h0 hlt0
        have := hA.ok.inj h0 h b ⟨d0, q, hA.pre h0 d0 p1, k1, k2, p4⟩ (hB b hb)
        omega
mutual
inductive Vw (H : List Reg) : V → V → Prop where
  | same (v : V) : Vw H v v
  | pur {v v' : V} (h : Pur false H v v') : Vw H v v'
  | agg {cs ds : List V} (h : VwS H cs ds) : Vw H (.agg cs) (.agg ds)
  | tup {cs ds : List V} (h : VwS H cs ds) : Vw H (.tup cs) (.tup ds)
inductive VwS (H : List Reg) : List V → List V → Prop where
  | rest (cs : List V) : VwS H cs cs
  | cons {c d : V} {cs ds : List V} (h : Vw H c d) (hs : VwS H cs ds) : VwS H (c :: cs) (d :: ds)
end
theorem VwS.length : ∀ {cs ds : List V}, VwS H cs ds → ds.length = cs.length
  | _, _, .rest _ => rfl
  | _, _, .cons h hs => by simp [VwS.length hs]
theorem VwS.all {f : V → V} (hf : ∀ c, Vw H c (f c)) : ∀ cs : List V, VwS H cs (cs.map f)
  | [] => .rest _
  | c :: cs => .cons (hf c) (VwS.all hf cs)
mutual
theorem Vw.rel (hok : HeapOk A w φ H) : ∀ {v v' : V} {x : Value}, Vw H v v' → Rel A w φ v x → Rel A w φ v' x
  | _, _, x, .same _, h => h
  | _, _, x, .pur hp, h => vQ (Pur.noH hp) (Pur.rel hok (fun b hb => hb) (fun h => by cases h) hp h)
  | _, _, x, .agg hs, h => by
    rw [Rel] at h ⊢
    obtain ⟨xs, e1, e2, h1⟩ := h
    exact ⟨xs, e1, e2.trans (VwS.length hs).symm, VwS.rels hok hs h1⟩
  | _, _, x, .tup hs, h => by
    rw [Rel] at h ⊢
    obtain ⟨xs, e1, e2, h1⟩ := h
    exact ⟨xs, e1, e2.trans (VwS.length hs).symm, VwS.rels hok hs h1⟩
theorem VwS.rels (hok : HeapOk A w φ H) : ∀ {cs ds : List V} {g : Nat → Option Value}, VwS H cs ds → zx A w φ cs g → zx A w φ ds g
  | _, _, g, .rest _, h => h
  | _, _, g, .cons h hs, hr => by
    rw [zx] at hr ⊢
    obtain ⟨⟨y, h1, h2⟩, h3⟩ := hr
    exact ⟨⟨y, h1, Vw.rel hok h h2⟩, VwS.rels hok hs h3⟩
end
inductive VwR (H : List Reg) : List Reg → List Reg → Prop where
  | rest (L : List Reg) : VwR H L L
  | cons {r : Reg} {cs : List V} {L K : List Reg} (h : VwS H r.cells cs) (hs : VwR H L K) : VwR H (r :: L) ({ r with cells := cs } :: K)
theorem VwR.get {G : List Reg} : ∀ {H K : List Reg}, VwR G H K → K.length = H.length ∧ ∀ (i : Nat) (r' : Reg), K[i]? = some r' → ∃ r, H[i]? = some r ∧ r'.mode = r.mode ∧ r'.esz = r.esz ∧ r'.e = r.e ∧ VwS G r.cells r'.cells
  | _, _, .rest H => ⟨rfl, fun i r h => ⟨r, h, rfl, rfl, rfl, .rest _⟩⟩
  | _, _, .cons h hs => by
    obtain ⟨e1, e2⟩ := hs.get
    refine ⟨by simp [e1], fun i r' hi => ?_⟩
    cases i with
    | zero => simp at hi; subst hi; exact ⟨_, rfl, rfl, rfl, rfl, h⟩
    | succ i => simp only [List.getElem?_cons_succ] at hi ⊢; exact e2 i r' hi
theorem kU {l l' : List V} {H K : List Reg} {m : Nat} (ht : VwS H l l') (hH : VwR H H K) : Sub ⟨l', K, m⟩ ⟨l, H, m⟩ := fun C φ a w hI => by
  obtain ⟨hm0, ⟨A, hA, hr⟩, hs, hd⟩ := hI
  obtain ⟨k1, k2⟩ := hH.get
  have hlive : ∀ i b, z4 φ K i b → z4 φ H i b := fun i b ⟨d, r', q1, q2, q3, q4⟩ => by
    obtain ⟨r, p1, p2, _⟩ := k2 i r' q2
    exact ⟨d, r, q1, p1, by omega, q4⟩
  refine ⟨φ, hm0, ⟨A, ⟨⟨by rw [k1]; exact hA.ok.len, fun i d r' q1 q2 q3 => ?_, fun i j b q1 q2 => hA.ok.inj i j b (hlive i b q1) (hlive j b q2), fun i b q1 => hA.ok.apart i b (hlive i b q1), fun i d r' b q1 q2 q3 q4 => ?_, hA.ok.low⟩, hA.old, fun i b q1 => hA.own i b (hlive i b q1), hA.frame, hA.pre⟩, VwS.rels hA.ok ht hr⟩, hs.trans (VwS.length ht).symm, hd⟩
  · obtain ⟨r, p1, p2, p3, p4, p5⟩ := k2 i r' q2
    obtain ⟨f1, f2⟩ := hA.ok.regs i d r q1 p1 (by omega)
    refine ⟨⟨f1.1.trans p3.symm, f1.2.1.trans p4.symm, f1.2.2⟩, ?_⟩
    cases hb : d.blk with
    | none =>
      rw [hb] at f2
      have := VwS.length p5
      rw [f2.1] at this
      exact ⟨List.length_eq_zero_iff.1 this, f2.2⟩
    | some b =>
      rw [hb] at f2
      obtain ⟨c, c1, c2, c3, c4⟩ := f2
      exact ⟨c, c1, c2, by rw [VwS.length p5]; exact c3, VwS.rels hA.ok p5 c4⟩
  · obtain ⟨r, p1, p2, _⟩ := k2 i r' q2
    exact hA.ok.frz i d r b q1 p1 (by omega) q4
theorem fQ {l : List Oper} {T S : St} (hs : Sub T S) (h : AOps P ops l Q T) : AOps P ops l Q S := ⟨fun C φ a w hI => let ⟨φ', h'⟩ := hs C φ a w hI; h.out C φ' a w h'⟩
end
end Go.Proofs.Ytojcojanokhnaaa.Ab
namespace Go.Proofs.Ytojcojanokhnaaa.Ab
open Go.RowKit
def bkI (hs : List Nat) (n i : Nat) : Nat := (hs[i]?).getD (n + (i - hs.length))
mutual
inductive Bk (hs : List Nat) (n : Nat) : V → V → Prop where
  | same {v : V} (h : noH v = true) : Bk hs n v v
  | sl {i h off m : Nat} (h1 : bkI hs n i = h) : Bk hs n (.sl i off m) (.sl h off m)
  | ptr {i h off : Nat} (h1 : bkI hs n i = h) : Bk hs n (.ptr i off) (.ptr h off)
  | agg {cs ds : List V} (h : BkS hs n cs ds) : Bk hs n (.agg cs) (.agg ds)
  | tup {cs ds : List V} (h : BkS hs n cs ds) : Bk hs n (.tup cs) (.tup ds)
inductive BkS (hs : List Nat) (n : Nat) : List V → List V → Prop where
  | rest {cs : List V} (h : NoH cs) : BkS hs n cs cs
  | cons {c d : V} {cs ds : List V} (h : Bk hs n c d) (ht : BkS hs n cs ds) : BkS hs n (c :: cs) (d :: ds)
end
theorem BkS.nil {hs : List Nat} {n : Nat} : BkS hs n [] [] := .rest fun c hc => by cases hc
theorem BkS.length {hs : List Nat} {n : Nat} : ∀ {cs ds : List V}, BkS hs n cs ds → ds.length = cs.length
  | _, _, .rest _ => rfl
  | _, _, .cons h ht => by simp [BkS.length ht]
theorem BkS.map {α : Type} {hs : List Nat} {n : Nat} {f g : α → V} : ∀ (l : List α), (∀ x ∈ l, Bk hs n (f x) (g x)) → BkS hs n (l.map f) (l.map g)
  | [], _ => .nil
  | x :: l, h => .cons (h x (List.mem_cons_self ..)) (BkS.map l fun y hy => h y (List.mem_cons_of_mem _ hy))
section
variable {A : Nat → Prop} {w : World} {φ φ' : List Hd} {hs : List Nat} {n : Nat}
mutual
theorem Bk.rel (hg : ∀ (i : Nat) hd, φ'[i]? = some hd → φ[bkI hs n i]? = some hd) : ∀ {v v' : V} {x : Value}, Bk hs n v v' → Rel A w φ' v x → Rel A w φ v' x
  | v, _, x, .same h, hr => vQ h hr
  | _, _, x, .sl h1, hr => by
    rw [Rel] at hr ⊢
    obtain ⟨hd, h2, h3⟩ := hr
    exact ⟨hd, h1 ▸ hg _ _ h2, h3⟩
  | _, _, x, .ptr h1, hr => by
    rw [Rel] at hr ⊢
    obtain ⟨hd, b, h2, h3⟩ := hr
    exact ⟨hd, b, h1 ▸ hg _ _ h2, h3⟩
  | .agg cs, .agg ds, x, .agg h, hr => by
    rw [Rel] at hr ⊢
    obtain ⟨xs, e1, e2, h2⟩ := hr
    exact ⟨xs, e1, e2.trans (BkS.length h).symm, BkS.rels hg h h2⟩
  | .tup cs, .tup ds, x, .tup h, hr => by
    rw [Rel] at hr ⊢
    obtain ⟨xs, e1, e2, h2⟩ := hr
    exact ⟨xs, e1, e2.trans (BkS.length h).symm, BkS.rels hg h h2⟩
theorem BkS.rels (hg : ∀ (i : Nat) hd, φ'[i]? = some hd → φ[bkI hs n i]? = some hd) : ∀ {cs ds : List V} {g : Nat → Option Value}, BkS hs n cs ds → zx A w φ' cs g → zx A w φ ds g
  | _, _, g, .rest h, hr => wP h hr
  | c :: cs, _, g, .cons h ht, hr => by
    rw [zx] at hr ⊢
    obtain ⟨⟨y, h1, h2⟩, h3⟩ := hr
    exact ⟨⟨y, h1, Bk.rel hg h h2⟩, BkS.rels hg ht h3⟩
end
end
theorem qU {hs : List Nat} : ∀ {cs : List V}, NoH cs → PassS hs cs cs
  | [], _ => .nil
  | c :: cs, h => .cons (.same (h c (List.mem_cons_self ..))) (qU fun d hd => h d (List.mem_cons_of_mem _ hd))
inductive BkR (hs : List Nat) (n : Nat) : List Reg → List Reg → Prop where
  | nil : BkR hs n [] []
  | cons {R : Reg} {cs : List V} {K K2 : List Reg} (h : BkS hs n R.cells cs) (ht : BkR hs n K K2) : BkR hs n (R :: K) ({ R with cells := cs } :: K2)
theorem BkR.get {hs : List Nat} {n : Nat} : ∀ {K K2 : List Reg}, BkR hs n K K2 → K2.length = K.length ∧ ∀ (i : Nat) (r : Reg), K2[i]? = some r → ∃ R, K[i]? = some R ∧ r.mode = R.mode ∧ r.esz = R.esz ∧ r.e = R.e ∧ BkS hs n R.cells r.cells
  | _, _, .nil => ⟨rfl, fun i r h => by simp at h⟩
  | _, _, .cons h ht => by
    obtain ⟨e1, e2⟩ := ht.get
    refine ⟨by simp [e1], fun i r hi => ?_⟩
    cases i with
    | zero => simp at hi; subst hi; exact ⟨_, rfl, rfl, rfl, rfl, h⟩
    | succ i => simp only [List.getElem?_cons_succ] at hi ⊢; exact e2 i r hi
inductive GiveN (H : List Reg) (hs0 : List Nat) (n : Nat) : List Nat → List Reg → List Reg → List Reg → Prop where
  | nil : GiveN H hs0 n [] [] [] []
  | cons {h : Nat} {R0 R' : Reg} {cs cs2 : List V} {hs : List Nat} {Rs Rs' R2 : List Reg} (hH : H[h]? = some R0) (hm : R0.mode = 0) (hp : PassS hs0 R0.cells cs) (hm' : R'.mode ≠ 1) (hb : BkS hs0 n R'.cells cs2) (ht : GiveN H hs0 n hs Rs Rs' R2) :
      GiveN H hs0 n (h :: hs) ({ R0 with cells := cs } :: Rs) (R' :: Rs') ({ R' with cells := cs2 } :: R2)
theorem GiveN.spec {H : List Reg} {hs0 : List Nat} {n : Nat} : ∀ {hs : List Nat} {Rs Rs' R2 : List Reg}, GiveN H hs0 n hs Rs Rs' R2 → Rs.length = hs.length ∧ Rs'.length = hs.length ∧ R2.length = hs.length ∧ ∀ (i h : Nat), hs[i]? = some h →
    ∃ R0 R R' RR, H[h]? = some R0 ∧ R0.mode = 0 ∧ Rs[i]? = some R ∧ R.mode = 0 ∧ R.esz = R0.esz ∧ R.e = R0.e ∧ PassS hs0 R0.cells R.cells ∧ Rs'[i]? = some R' ∧ R'.mode ≠ 1 ∧ R2[i]? = some RR ∧ RR.mode = R'.mode ∧ RR.esz = R'.esz ∧ RR.e = R'.e ∧ BkS hs0 n R'.cells RR.cells
  | _, _, _, _, .nil => ⟨rfl, rfl, rfl, fun i h hi => by simp at hi⟩
  | _, _, _, _, .cons hH hm hp hm' hb ht => by
    obtain ⟨e1, e2, e3, e4⟩ := ht.spec
    refine ⟨by simp [e1], by simp [e2], by simp [e3], fun i h hi => ?_⟩
    cases i with
    | zero =>
      simp at hi
      subst hi
      exact ⟨_, _, _, _, hH, hm, rfl, hm, rfl, rfl, hp, rfl, hm', rfl, rfl, rfl, rfl, hb⟩
    | succ i =>
      simp only [List.getElem?_cons_succ] at hi ⊢
      exact e4 i h hi
section
variable {P : Program} {o : Oper} {ρ : Operand → V} {H : List Reg}
end
end Go.Proofs.Ytojcojanokhnaaa.Ab
namespace Go.Proofs.Ytojcojanokhnaaa.Ab
open Go.RowKit
section
variable {P : Program} {o : Oper} {ρ : Operand → V} {H : List Reg} {l : List V}
theorem jW {t : TypeId} {fs : Array Field} (hu : P.underlying t = some (.struct fs)) (hh : P.stoodInHeld t = false) (hg : P.eqGuardType P.depth t = false)
    (h : fs.toList.zipIdx.all (fun p => !(p.1.name == "_") && Nat.beq p.1.offset p.2 && (match P.underlying p.1.type with | some (.int .i64) => true | _ => false)) = true) : IntFs P t fs := ⟨hu, hh, hg, fun i f hf => by
  rw [List.all_eq_true] at h
  have := h (f, i) (List.mem_of_getElem? (i := i) (by rw [List.getElem?_zipIdx, hf]; simp))
  simp only [Bool.and_eq_true, Bool.not_eq_true', Nat.beq_eq] at this
  refine ⟨this.1.1, this.1.2, ?_⟩
  have h2 := this.2
  split at h2
  · assumption
  · cases h2⟩
theorem vH {t t' : TypeId} {x y : Operand} {b : Bool} (ho : o.op = .binOp .neq t x y t') (hx : ρ x = B b) (hy : ρ y = B b) (ht : P.underlying t = some .bool) : z8 P o ρ H (B false) H := by
  have := qL (P := P) (H := H) ho hx hy ht
  simpa using this
theorem wZ {t t' : TypeId} {x y : Operand} {k : IntKind} {a : Int} (ho : o.op = .binOp .neq t x y t') (hx : ρ x = .k (.int k a)) (hy : ρ y = .k (.int k a)) : z8 P o ρ H (B false) H := by
  have := pi (P := P) (H := H) ho hx hy
  simpa using this
end
section
variable {P : Program} {T : Tab} {ops : Array Oper} {ds d : List Nat} {n : Nat} {Q : Exit → St → Prop} {o : Oper} {l l' : List V} {H K : List Reg} {m : Nat}
end
section
variable {P : Program} {o : Oper} {ρ : Operand → V} {K : List Reg}
theorem ja {α : Type} (T : Ty α) {xs : List α} {i off : Nat} {z : α} {v : V} (hz : xs[i]? = some z) (hv : (T.enc z)[off]? = some v) : (T.flat xs)[i * T.n + off]? = some v := by
  rw [← List.getElem?_drop, sD T hz]
  exact zb hv
theorem nN {α : Type} {T : Ty α} {t e h i off : Nat} {x : Operand} {xs : List α} {z : α} {v : V} [ht : Sc P t] (ho : o.op = .load t x) (hx : ρ x = .ptr h (i * T.n + off)) (hH : K[h]? = some (yV T e xs)) (hz : xs[i]? = some z) (hv : (T.enc z)[off]? = some v) : z8 P o ρ K v K :=
  vW ho hx hH (Nat.zero_le _) (ja T hz hv)
theorem yv {α : Type} {T : Ty α} {t e h i : Nat} {x : Operand} {xs : List α} {z : α} [ht : Ag P t T.n] (ho : o.op = .load t x) (hx : ρ x = .ptr h (i * T.n)) (hH : K[h]? = some (yV T e xs)) (hz : xs[i]? = some z) : z8 P o ρ K (.agg (T.enc z)) K := by
  have hlt := (List.getElem?_eq_some_iff.1 hz).1
  have := wL (P := P) (o := o) (ρ := ρ) (H := K) (n := T.n) ho hx hH (Nat.zero_le _) (by
    show i * T.n + T.n ≤ (T.flat xs).length
    rw [yL, ← Nat.succ_mul]
    exact Nat.mul_le_mul_right _ hlt)
  have e : ((yV T e xs).cells.drop (i * T.n)).take T.n = T.enc z := by
    show ((T.flat xs).drop (i * T.n)).take T.n = _
    rw [sD T hz, ← T.len z, List.take_left']
    rfl
  rw [e] at this
  exact this
end
theorem GiveN.flat {H : List Reg} {hs0 : List Nat} {n h : Nat} {R R' : Reg} {hs : List Nat} {Rs Rs' R2 : List Reg} (hH : H[h]? = some R) (hm : R.mode = 0) (hm' : R'.mode = 0) (hN : NoH R.cells) (hN' : NoH R'.cells) (ht : GiveN H hs0 n hs Rs Rs' R2) : GiveN H hs0 n (h :: hs) (R :: Rs) (R' :: Rs') (R' :: R2) :=
  .cons (R0 := R) (R' := R') (cs := R.cells) (cs2 := R'.cells) hH hm (qU hN) (by omega) (.rest hN') ht
end Go.Proofs.Ytojcojanokhnaaa.Ab
namespace Go.Proofs.Ytojcojanokhnaaa.Ab
open Go.RowKit
theorem yi : ∀ {cs : List V}, NoH cs → noHs cs = true
  | [], _ => rfl
  | c :: cs, h => by simp only [noHs, h c (List.mem_cons_self ..), yi fun d hd => h d (List.mem_cons_of_mem _ hd), Bool.and_self]
def shR (k : Nat) (r : Reg) : Reg := { r with cells := vx k r.cells }
section
variable {A A' : Nat → Prop} {w w' : World} {φ φ' : List Hd} {H : List Reg}
theorem InvA.joinN {C : Cx} (hA : InvA C A φ H w) {K : List Reg} (hK : HeapOk A' w' φ' K) (hA' : ∀ b, A' b → A b ∨ w.heap.size ≤ b) (hl : ∀ h b, z4 φ' K h b → w.heap.size ≤ b) (hoth : ∀ b, b < w.heap.size → w'.heap[b]? = w.heap[b]?)
    (hsz : w.heap.size ≤ w'.heap.size) (hos : w'.os = w.os) (htape : w'.tape = w.tape) (hout : w'.output = w.output) :
    InvA C (fun b => A b ∨ A' b) (φ ++ φ') (H ++ K.map (shR H.length)) w' := by
  have hlen := hA.ok.len
  have hφ : ∀ (h : Nat) (hd : Hd), φ[h]? = some hd → (φ ++ φ')[h]? = some hd := fun h hd hh => zb hh
  have hAm : ∀ b, A b → (A b ∨ A' b) ∧ w'.heap[b]? = w.heap[b]? := fun b hb => ⟨Or.inl hb, hoth b (hA.ok.low b hb)⟩
  have hsplit : ∀ (h : Nat) (hd : Hd) (r : Reg), (φ ++ φ')[h]? = some hd → (H ++ K.map (shR H.length))[h]? = some r → (φ[h]? = some hd ∧ H[h]? = some r) ∨ (∃ j r0, h = φ.length + j ∧ φ'[j]? = some hd ∧ K[j]? = some r0 ∧ r = shR H.length r0) := fun h hd r h1 h2 => by
    rcases Nat.lt_or_ge h φ.length with hh | hh
    · rw [List.getElem?_append_left hh] at h1
      rw [List.getElem?_append_left (by omega)] at h2
      exact Or.inl ⟨h1, h2⟩
    · rw [List.getElem?_append_right hh] at h1
      rw [List.getElem?_append_right (by omega), ← hlen] at h2
      rw [List.getElem?_map] at h2
      cases hq : K[h - φ.length]? with
      | none => rw [hq] at h2; cases h2
      | some r0 =>
        rw [hq] at h2
        simp only [Option.map_some, Option.some.injEq] at h2
        exact Or.inr ⟨h - φ.length, r0, by omega, h1, hq, by rw [← hlen]; exact h2.symm⟩
  have hlive : ∀ h b, z4 (φ ++ φ') (H ++ K.map (shR H.length)) h b → z4 φ H h b ∨ ∃ j, h = φ.length + j ∧ z4 φ' K j b := by
    rintro h b ⟨hd, r, h1, h2, h3, h4⟩
    rcases hsplit h hd r h1 h2 with ⟨p1, p2⟩ | ⟨j, r0, p0, p1, p2, rfl⟩
    · exact Or.inl ⟨hd, r, p1, p2, h3, h4⟩
    · exact Or.inr ⟨j, p0, hd, r0, p1, p2, h3, h4⟩
  have hlow : ∀ h b, z4 φ H h b → b < w.heap.size := fun h b ⟨hd, r, h1, h2, h3, h4⟩ => wU hA.ok h1 h2 (by omega) h4
  refine ⟨⟨by simp [hlen, hK.len], fun h hd r h1 h2 h3 => ?_, fun h h' b h1 h2 => ?_, fun h b h1 => ?_, fun h hd r b h1 h2 h3 h4 => ?_, fun b hb => ?_⟩, fun b hb => ?_, fun h b h1 => ?_, ?_, fun h hd hh => hφ h hd (hA.pre h hd hh)⟩
  · rcases hsplit h hd r h1 h2 with ⟨p1, p2⟩ | ⟨j, r0, p0, p1, p2, rfl⟩
    · obtain ⟨e1, e2⟩ := hA.ok.regs h hd r p1 p2 h3
      refine ⟨e1, ?_⟩
      cases hk : hd.blk with
      | none => rw [hk] at e2; exact e2
      | some b =>
        rw [hk] at e2
        obtain ⟨c, k1, k2, k3, k4⟩ := e2
        exact ⟨c, (hoth b (wU hA.ok p1 p2 h3 hk)).trans k1, k2, k3, zx.mono hAm hφ k4⟩
    · obtain ⟨e1, e2⟩ := hK.regs j hd r0 p1 p2 h3
      refine ⟨e1, ?_⟩
      cases hk : hd.blk with
      | none => rw [hk] at e2; refine ⟨?_, e2.2⟩; show vx H.length r0.cells = []; rw [e2.1]; rfl
      | some b =>
        rw [hk] at e2
        obtain ⟨c, k1, k2, k3, k4⟩ := e2
        exact ⟨c, k1, k2, by show (vx H.length r0.cells).length ≤ _; rw [wn]; exact k3, zx.mono (fun b hb => ⟨Or.inr hb, rfl⟩) (fun _ _ h => h) (by rw [← hlen]; exact v8 k4)⟩
  · rcases hlive h b h1 with q1 | ⟨j, p1, q1⟩
    · rcases hlive h' b h2 with q2 | ⟨j', p2, q2⟩
      · exact hA.ok.inj _ _ _ q1 q2
      · have := hlow _ _ q1
        have := hl _ _ q2
        omega
    · rcases hlive h' b h2 with q2 | ⟨j', p2, q2⟩
      · have := hlow _ _ q2
        have := hl _ _ q1
        omega
      · rw [p1, p2, hK.inj _ _ _ q1 q2]
  · rcases hlive h b h1 with q1 | ⟨j, p1, q1⟩
    · rintro (hb | hb)
      · exact hA.ok.apart _ _ q1 hb
      · rcases hA' b hb with hb | hb
        · exact hA.ok.apart _ _ q1 hb
        · have := hlow _ _ q1
          omega
    · rintro (hb | hb)
      · have := hA.ok.low b hb
        have := hl _ _ q1
        omega
      · exact hK.apart _ _ q1 hb
  · rcases hsplit h hd r h1 h2 with ⟨p1, p2⟩ | ⟨j, r0, p0, p1, p2, rfl⟩
    · exact Or.inl (hA.ok.frz h hd r b p1 p2 h3 h4)
    · exact Or.inr (hK.frz j hd r0 b p1 p2 h3 h4)
  · rcases hb with hb | hb
    · exact Nat.lt_of_lt_of_le (hA.ok.low b hb) hsz
    · exact hK.low b hb
  · rcases hb with hb | hb
    · exact hA.old b hb
    · rcases hA' b hb with hb | hb
      · exact hA.old b hb
      · exact Or.inr (Nat.le_trans hA.frame.size hb)
  · rcases hlive h b h1 with q1 | ⟨j, p1, q1⟩
    · exact hA.own _ _ q1
    · exact Or.inl (Nat.le_trans hA.frame.size (hl _ _ q1))
  · obtain ⟨f1, f2, f3, f4, f5⟩ := hA.frame
    exact ⟨hos.trans f1, htape.trans f2, hout.trans f3, Nat.le_trans f4 hsz, fun i hi hno => (hoth i (Nat.lt_of_lt_of_le hi f4)).trans (f5 i hi hno)⟩
end
section
variable {P : Program} {o : Oper} {ρ : Operand → V} {H : List Reg}
theorem sV {f : FuncId} {vs cargs : List V} {r : V} {K : List Reg} {al : Bool}
    (hrun : ∀ (A : Nat → Prop) (φ : List Hd) (a : Act) (w : World), HeapOk A w φ H → (∀ x ∈ o.op.operands, Rel A w φ (ρ x) (a.eval x)) → ∃ xs : Array Value, (execOp a.eval o).run P w = .ok (.enter f xs) w ∧ xs.size = vs.length ∧ zx A w φ vs (fun i => xs[i]?))
    (hm : zy P f cargs [] r K al) (hargs : Purs (!al) H vs cargs) : z8 P o ρ H (shV H.length r) (H ++ K.map (shR H.length)) := by
  intro S hS hρ C φ a w hI next Q hn
  obtain ⟨hm0, ⟨A, hA, hr⟩, hs, hd⟩ := hI
  subst hS
  obtain ⟨xs, hexec, hxl, hargr⟩ := hrun A φ a w hA.ok (fun x hx => by rw [← hρ x hx]; exact wz hr x)
  let A1 : Nat → Prop := fun b => A b ∨ (al = false ∧ b < w.heap.size)
  have hok1 : HeapOk A1 w [] [] := ⟨rfl, fun h hd r h1 => by simp at h1, fun h h' b ⟨hd, r, h1, _⟩ => by simp at h1, fun h b ⟨hd, r, h1, _⟩ => by simp at h1, fun h hd r b h1 => by simp at h1, fun b hb => by
    rcases hb with hb | hb
    · exact hA.ok.low b hb
    · exact hb.2⟩
  have hargs1 : zx A1 w [] cargs (fun i => xs[i]?) := Purs.rels hA.ok (fun b hb => Or.inl hb) (fun hl h b hb => Or.inr ⟨by cases al <;> simp_all, by obtain ⟨hd, r, q1, q2, q3, q4⟩ := hb; exact wU hA.ok q1 q2 (by omega) q4⟩) hargs hargr
  have hcall := hm A1 [] w xs hok1 hargs1 (hxl.trans (Purs.length hargs))
  unfold Oper.wp
  rw [hexec, Oper.upon_enter]
  refine hcall.mono ?_
  rintro e w' ⟨x, φ', A', rfl, k1, k2, k3, k4, k5, k6⟩
  have hfr : ∀ b, b < w.heap.size → w'.heap[b]? = w.heap[b]? := fun b hb => k5.block b hb (fun h ⟨hd, r, h1, _⟩ => by simp at h1)
  have hJ : InvA C (fun b => A b ∨ A' b) (φ ++ φ') (S.H ++ K.map (shR S.H.length)) w' := hA.joinN k1 (fun b hb => by
      rcases k3 b hb with ⟨ha, hb | hb⟩ | hb
      · exact Or.inl hb
      · rw [ha] at hb; cases hb.1
      · exact Or.inr hb)
    (fun h b hl => by
      rcases k4 h b hl with h1 | ⟨h0, hd, r, h1, _⟩
      · exact h1
      · simp at h1) hfr k5.size k5.os k5.tape k5.output
  have hr' : zx (fun b => A b ∨ A' b) w' (φ ++ φ') S.tmps (fun i => a.tmps[i]?) := zx.mono (fun b hb => ⟨Or.inl hb, hfr b (hA.ok.low b hb)⟩) (fun h hd hh => zb hh) hr
  have hx : Rel (fun b => A b ∨ A' b) w' (φ ++ φ') (shV S.H.length r) x := by
    rw [← hA.ok.len]
    exact qu (Rel.mono (fun b hb => ⟨Or.inr hb, rfl⟩) (fun _ _ h => h) k2)
  obtain ⟨h7, h8⟩ := vA (H := S.H ++ K.map (shR S.H.length)) hs hr' hx o.dst
  refine hn x w' (φ ++ φ') ⟨by cases o.dst <;> exact hm0, ⟨_, ?_, h7⟩, h8, by cases o.dst <;> exact hd⟩
  rw [wD]
  exact hJ
theorem yO {K H' : List Reg} {f : FuncId} {args : List Operand} {ats : Array TypeId} {cargs : List V} {r r' : V} {al : Bool} [he : Ent P f] (ho : o.op = .call { callee := .value (.func f), args := args.toArray, argTypes := ats })
    (hm : zy P f cargs [] r K al) (hargs : Purs (!al) H (args.map ρ) cargs) (hr : shV H.length r = r') (hH : H ++ K.map (shR H.length) = H') : z8 P o ρ H r' H' := by
  subst hr
  subst hH
  exact sV (fun A φ a w hok hh => ⟨_, uA ho, by simp, wo fun x hx => hh x (by rw [ho]; simp only [Op.operands, Call.operands]; simp [hx])⟩) hm hargs
end
section
variable {α : Type} {T : Ty α} {e : TypeId}
def nC (b : Nat) : List (List α) → List V
  | [] => []
  | x :: xs => .sl b 0 x.length :: nC (b + 1) xs
def nR (T : Ty α) (e : TypeId) (rs : List (List α)) : List Reg := rs.map (yV T e)
theorem xM : ∀ (b : Nat) (rs : List (List α)), (nC b rs).length = rs.length
  | _, [] => rfl
  | b, x :: xs => by simp [nC, xM (b + 1) xs]
theorem qX : ∀ (b : Nat) (rs ss : List (List α)), nC b (rs ++ ss) = nC b rs ++ nC (b + rs.length) ss
  | _, [], ss => by simp [nC]
  | b, x :: xs, ss => by
    simp only [List.cons_append, nC, List.length_cons]
    rw [qX (b + 1) xs ss]
    congr 3
    omega
theorem qt (n : Nat) : ∀ (b : Nat) (rs : List (List α)), vx n (nC b rs) = nC (b + n) rs
  | _, [] => rfl
  | b, x :: xs => by
    simp only [nC, vx, shV]
    rw [qt n (b + 1) xs]
    congr 2
    omega
theorem zn (rs : List (List α)) : (nR T e rs).length = rs.length := by simp [nR]
theorem xQ {rs : List (List α)} {j : Nat} {x : List α} (h : rs[j]? = some x) : (nR T e rs)[j]? = some (yV T e x) := by simp [nR, h]
theorem dL (n : Nat) (rs : List (List α)) : (nR T e rs).map (shR n) = nR T e rs := by
  rw [nR, List.map_map]
  refine List.map_congr_left fun x hx => ?_
  simp only [Function.comp, shR, yT n (yi (zE T x))]
def lsT (T : Ty α) : Ty (List α) := ⟨1, fun xs => [xf T xs], fun _ => rfl, by decide, fun r c hc => by
  simp only [List.mem_cons, List.not_mem_nil, or_false] at hc
  subst hc
  exact ⟨rfl, rfl⟩⟩
theorem zk {H : List Reg} {h : Nat} {x : List α} (hH : H[h]? = some (yV T e x)) : Pur true H (.sl h 0 x.length) (xf T x) := dF hH rfl rfl rfl
theorem n9 {H : List Reg} : ∀ {b : Nat} {rs : List (List α)}, (∀ j x, rs[j]? = some x → H[b + j]? = some (yV T e x)) → Purs true H (nC b rs) ((lsT T).flat rs)
  | _, [], _ => .nil
  | b, x :: xs, h => by
    rw [wc]
    exact .cons (zk (h 0 x rfl)) (n9 fun j y hj => by have := h (j + 1) y (by simpa using hj); rw [show b + 1 + j = b + (j + 1) by omega]; exact this)
theorem jJ {H : List Reg} {h b ty : Nat} {rs : List (List α)} (hH : H[h]? = some ⟨ty, 1, nC b rs, 0⟩) (hR : ∀ j x, rs[j]? = some x → H[b + j]? = some (yV T e x)) : Pur true H (.sl h 0 rs.length) (xf (lsT T) rs) :=
  .slN hH (Or.inr ⟨rfl, rfl⟩) (Nat.succ_pos 0) (by simp [xM]) (by
    have := n9 (H := H) hR
    simpa [xM, List.take_of_length_le] using this)
theorem wB {ψ : List Nat} : ∀ {b b' : Nat} {rs : List (List α)}, (∀ j, j < rs.length → ψ[b + j]? = some (b' + j)) → Les ψ (nC b rs) (nC b' rs)
  | _, _, [], _ => zj
  | b, b', x :: xs, h => zZ (zm (h 0 (by simp)) rfl) (wB fun j hj => by
      have := h (j + 1) (by simp; omega)
      rw [show b + 1 + j = b + (j + 1) by omega, show b' + 1 + j = b' + (j + 1) by omega]
      exact this)
theorem wQ (hs : List Nat) (b n j : Nat) (h : j < n) : (hs ++ List.range' b n)[hs.length + j]? = some (b + j) := by
  rw [List.getElem?_append_right (Nat.le_add_right _ _), Nat.add_sub_cancel_left]
  simp [h]
theorem xI {hs : List Nat} {b n : Nat} (h1 : hs.Nodup) (h2 : ∀ h ∈ hs, h < b ∨ b + n ≤ h) : (hs ++ List.range' b n).Nodup := by
  rw [List.nodup_append]
  refine ⟨h1, List.nodup_range', fun x hx y hy => ?_⟩
  rw [List.mem_range'_1] at hy
  have := h2 x hx
  omega
theorem sx {H : List Reg} {hs : List Nat} {K1 : List Reg} {rs : List (List α)} {b : Nat} (hn : (hs ++ List.range' b rs.length).Nodup) (h1 : HLes (hs ++ List.range' b rs.length) H hs K1) (h2 : ∀ j x, rs[j]? = some x → H[b + j]? = some (yV T e x)) :
    HLe (hs ++ List.range' b rs.length) (K1 ++ nR T e rs) H := by
  obtain ⟨e1, e2⟩ := h1.get
  refine ⟨by simp [e1, nR], hn, fun i h hi => ?_⟩
  rcases Nat.lt_or_ge i hs.length with hlt | hge
  · rw [List.getElem?_append_left hlt] at hi
    obtain ⟨r, r', q1, q2, q3⟩ := e2 i h hi
    exact ⟨r, r', zb q1, q2, q3⟩
  · rw [List.getElem?_append_right hge] at hi
    have hlt : i - hs.length < rs.length := by
      have := (List.getElem?_eq_some_iff.1 hi).1
      simpa using this
    have hx := List.getElem?_eq_getElem hlt
    have hh : h = b + (i - hs.length) := by
      obtain ⟨_, q⟩ := List.getElem?_eq_some_iff.1 hi
      simp at q
      omega
    subst hh
    refine ⟨_, _, ?_, h2 _ _ hx, fun _ => ⟨rfl, rfl, rfl, zY (zE T _)⟩⟩
    rw [List.getElem?_append_right (by omega), ← e1]
    exact xQ hx
end
def vw (cs : List V) : Prop := ∀ c ∈ cs, (match c with | .k _ | .sl _ _ _ | .ptr _ _ | .any => true | _ => false) = true
theorem qC.flatS {cs : List V} (h : qC cs) : vw cs := fun c hc => by obtain ⟨v, rfl⟩ := h c hc; rfl
theorem tA {α : Type} : ∀ (b : Nat) (rs : List (List α)), vw (nC b rs)
  | _, [] => fun c hc => by cases hc
  | b, x :: xs => fun c hc => by
    rcases List.mem_cons.1 hc with rfl | hc
    · rfl
    · exact tA (b + 1) xs c hc
theorem t9 {al : Bool} {r v : V} {K : List Reg} {S : St} (ψ : List Nat) (hfix : ∀ i, i < S.m → ψ[i]? = some i) (hH : HLe ψ K S.H) (hr : Le ψ r v)
    (hal : al = true ∨ (tJ r = true ∧ ∀ q ∈ K, q.mode ≠ 1 ∧ (q.mode = 0 → vw q.cells))) : Out al r K v S := by
  intro C A φ w x hm hA hv
  obtain ⟨φ', h1, h2, h3, h4⟩ := hH.ok hA.ok
  have hown : ∀ h b, z4 φ' K h b → C.w0.heap.size ≤ b ∨ ∃ h0, z4 C.φ0 C.H0 h0 b := fun h b hl => by
    obtain ⟨h', hl'⟩ := h4 h b hl
    exact hA.own h' b hl'
  have hpre : ∀ (h : Nat) (hd : Hd), C.φ0[h]? = some hd → φ'[h]? = some hd := fun i hd hi =>
    h2 i i (hfix i (by rw [← hm]; exact (List.getElem?_eq_some_iff.1 hi).1)) hd (hA.pre i hd hi)
  rcases hal with hal | ⟨hf, hK⟩
  · exact ⟨φ', A, h3, Le.rel h2 hr hv, fun b hb => (hA.old b hb).imp (fun h => ⟨hal, h⟩) id, hown, hpre⟩
  · refine ⟨φ', fun _ => False, ⟨h3.len, fun h hd q q1 q2 q3 => ?_, h3.inj, fun _ _ _ h => h, fun h hd q b q1 q2 q3 q4 => absurd q3 (hK q (List.mem_of_getElem? q2)).1, fun _ h => h.elim⟩, nV hf (Le.rel h2 hr hv), fun _ h => h.elim, hown, hpre⟩
    obtain ⟨e1, e2⟩ := h3.regs h hd q q1 q2 q3
    have hq := hK q (List.mem_of_getElem? q2)
    refine ⟨e1, ?_⟩
    cases hb : hd.blk with
    | none => rw [hb] at e2; exact e2
    | some b =>
      rw [hb] at e2
      obtain ⟨c, k1, k2, k3, k4⟩ := e2
      have hs := hq.2 (by have := hq.1; omega)
      exact ⟨c, k1, k2, k3, uR (fun c hc x hx => wt hx (by have := hs c hc; cases c <;> first | rfl | exact this)) k4⟩
section
variable {l : List V} {H : List Reg}
theorem jb {al : Bool} {t : Tmp} {v r : V} {K : List Reg} (ψ : List Nat) (hv : evO l (.tmp t) = some v) (hH : HLe ψ K H) (hr : Le ψ r v) (hal : al = true ∨ (tJ r = true ∧ ∀ q ∈ K, q.mode ≠ 1 ∧ (q.mode = 0 → vw q.cells))) :
    (Exit.ret = .ret ∨ Exit.ret = .normal) ∧ Out al r K (uB ⟨l, H, 0⟩ [t]) ⟨l, H, 0⟩ := by
  have : uB ⟨l, H, 0⟩ [t] = v := uH (H := H) (m := 0) (x := .tmp t) hv
  rw [this]
  exact ⟨Or.inl rfl, t9 ψ (fun i hi => absurd hi (Nat.not_lt_zero _)) hH hr hal⟩
inductive EqS : List V → List V → Prop where
  | nil : EqS [] []
  | any {d : V} {cs ds : List V} (h : EqS cs ds) : EqS (.any :: cs) (d :: ds)
  | same {c d : V} {cs ds : List V} (hc : d = c) (h : EqS cs ds) : EqS (c :: cs) (d :: ds)
theorem EqS.length : ∀ {cs ds : List V}, EqS cs ds → ds.length = cs.length
  | _, _, .nil => rfl
  | _, _, .any h => by simp [EqS.length h]
  | _, _, .same _ h => by simp [EqS.length h]
theorem EqS.rels {A : Nat → Prop} {w : World} {φ : List Hd} : ∀ {cs ds : List V} {g : Nat → Option Value}, EqS cs ds → zx A w φ ds g → zx A w φ cs g
  | _, _, g, .nil, h => h
  | _, _, g, .any hs, h => by
    rw [zx] at h ⊢
    obtain ⟨⟨y, h1, h2⟩, h3⟩ := h
    exact ⟨⟨y, h1, by simp [Rel]⟩, EqS.rels hs h3⟩
  | _, _, g, .same hc hs, h => by
    subst hc
    rw [zx] at h ⊢
    obtain ⟨h1, h3⟩ := h
    exact ⟨h1, EqS.rels hs h3⟩
theorem xl {l' : List V} {H H' : List Reg} {m : Nat} (hH : H' = H) (ht : EqS l' l) : Sub ⟨l', H', m⟩ ⟨l, H, m⟩ := fun C φ a w hI => by
  subst hH
  obtain ⟨hm0, ⟨A, hA, hr⟩, hs, hd⟩ := hI
  exact ⟨φ, hm0, ⟨A, hA, EqS.rels ht hr⟩, hs.trans (EqS.length ht), hd⟩
end
theorem mG {i n : Nat} (h : i < n) (hn : n ≤ 1000000000000) : I (IntKind.i64.wrap ((i : Int) + 1)) = I ((i + 1 : Nat) : Int) := congrArg I (qI h hn)
section
variable {P : Program} {o : Oper} {ρ : Operand → V} {H : List Reg}
end
end Go.Proofs.Ytojcojanokhnaaa.Ab
namespace Go.Proofs.Ytojcojanokhnaaa.Ab
open Go.RowKit
section
variable {α : Type} {T : Ty α} {e : TypeId}
theorem fw (n ty : Nat) (rs : List (List α)) : ((⟨ty, 1, nC 1 rs, 0⟩ :: nR T e rs : List Reg)).map (shR n) = ⟨ty, 1, nC (1 + n) rs, 0⟩ :: nR T e rs := by
  rw [List.map_cons, dL]
  simp only [shR, qt]
theorem jG {H D : List Reg} {rs : List (List α)} {b : Nat} {K0 : List Reg} (hb : b = K0.length) (hH : H = K0 ++ nR T e rs ++ D) : ∀ j x, rs[j]? = some x → H[b + j]? = some (yV T e x) := fun j x hx => by
  subst hb
  subst hH
  rw [List.append_assoc, List.getElem?_append_right (Nat.le_add_right _ _), Nat.add_sub_cancel_left]
  exact zb (xQ hx)
end
section
variable {P : Program} {o : Oper} {ρ : Operand → V} {H : List Reg}
end
end Go.Proofs.Ytojcojanokhnaaa.Ab
namespace Go.Proofs.Ytojcojanokhnaaa.Ab
theorem sc2 : Sc Go.Proofs.Try.prog 2 := wO Go.Proofs.Try.underlying2 rfl (by kernel_rfl)
instance : Sc Go.Proofs.Try.prog 2 := sc2
theorem ze2 : Ze Go.Proofs.Try.prog 2 [.int .i64 (0)] := yr (z := .int .i64 (0)) (by kernel_rfl) rfl
instance : Ze Go.Proofs.Try.prog 2 [.int .i64 (0)] := ze2
theorem ik2 : Ik Go.Proofs.Try.prog 2 .i64 := ⟨Go.Proofs.Try.underlying2⟩
instance : Ik Go.Proofs.Try.prog 2 .i64 := ik2
theorem sc3 : Sc Go.Proofs.Try.prog 3 := wO Go.Proofs.Try.underlying3 rfl (by kernel_rfl)
instance : Sc Go.Proofs.Try.prog 3 := sc3
theorem ze3 : Ze Go.Proofs.Try.prog 3 [.int .i64 (0)] := yr (z := .int .i64 (0)) (by kernel_rfl) rfl
instance : Ze Go.Proofs.Try.prog 3 [.int .i64 (0)] := ze3
theorem ik3 : Ik Go.Proofs.Try.prog 3 .i64 := ⟨Go.Proofs.Try.underlying3⟩
instance : Ik Go.Proofs.Try.prog 3 .i64 := ik3
theorem sc4 : Sc Go.Proofs.Try.prog 4 := wO Go.Proofs.Try.underlying4 rfl (by kernel_rfl)
instance : Sc Go.Proofs.Try.prog 4 := sc4
theorem ze4 : Ze Go.Proofs.Try.prog 4 [.bool false] := yr (z := .bool false) (by kernel_rfl) rfl
instance : Ze Go.Proofs.Try.prog 4 [.bool false] := ze4
theorem bl4 : Go.Proofs.Try.prog.underlying 4 = some .bool := Go.Proofs.Try.underlying4
theorem sc5 : Sc Go.Proofs.Try.prog 5 := wO Go.Proofs.Try.underlying5 rfl (by kernel_rfl)
instance : Sc Go.Proofs.Try.prog 5 := sc5
theorem ze5 : Ze Go.Proofs.Try.prog 5 [.int .u8 (0)] := yr (z := .int .u8 (0)) (by kernel_rfl) rfl
instance : Ze Go.Proofs.Try.prog 5 [.int .u8 (0)] := ze5
theorem ik5 : Ik Go.Proofs.Try.prog 5 .u8 := ⟨Go.Proofs.Try.underlying5⟩
instance : Ik Go.Proofs.Try.prog 5 .u8 := ik5
theorem sc9 : Sc Go.Proofs.Try.prog 9 := wO Go.Proofs.Try.underlying9 rfl (by kernel_rfl)
instance : Sc Go.Proofs.Try.prog 9 := sc9
theorem ze9 : Ze Go.Proofs.Try.prog 9 [.string .empty] := yr (z := .string .empty) (by kernel_rfl) rfl
instance : Ze Go.Proofs.Try.prog 9 [.string .empty] := ze9
theorem str9 : Str Go.Proofs.Try.prog 9 := ⟨Go.Proofs.Try.underlying9⟩
instance : Str Go.Proofs.Try.prog 9 := str9
theorem sc12 : Sc Go.Proofs.Try.prog 12 := wO Go.Proofs.Try.underlying12 rfl (by kernel_rfl)
instance : Sc Go.Proofs.Try.prog 12 := sc12
theorem ze12 : Ze Go.Proofs.Try.prog 12 [.int .u64 (0)] := yr (z := .int .u64 (0)) (by kernel_rfl) rfl
instance : Ze Go.Proofs.Try.prog 12 [.int .u64 (0)] := ze12
theorem ik12 : Ik Go.Proofs.Try.prog 12 .u64 := ⟨Go.Proofs.Try.underlying12⟩
instance : Ik Go.Proofs.Try.prog 12 .u64 := ik12
theorem ag13 : Ag Go.Proofs.Try.prog 13 2 := w8 Go.Proofs.Try.underlying13 (by kernel_rfl)
instance : Ag Go.Proofs.Try.prog 13 2 := ag13
theorem gk : Fd Go.Proofs.Try.prog 13 0 0 1 false := yH Go.Proofs.Try.underlying13 (off := 0) (ft := 9) rfl Go.Proofs.Try.underlying9 (n := 1) (by kernel_rfl) rfl (by decide)
instance : Fd Go.Proofs.Try.prog 13 0 0 1 false := gk
theorem gj : Fd Go.Proofs.Try.prog 13 1 1 1 false := yH Go.Proofs.Try.underlying13 (off := 1) (ft := 12) rfl Go.Proofs.Try.underlying12 (n := 1) (by kernel_rfl) rfl (by decide)
instance : Fd Go.Proofs.Try.prog 13 1 1 1 false := gj
theorem pl13 : Pl Go.Proofs.Try.prog 13 [(0, 1), (1, 1)] := w4 Go.Proofs.Try.underlying13 (by kernel_rfl)
instance : Pl Go.Proofs.Try.prog 13 [(0, 1), (1, 1)] := pl13
theorem ze13 : Ze Go.Proofs.Try.prog 13 [.string .empty, .int .u64 (0)] := yr (z := .agg #[.string .empty, .int .u64 (0)]) (by kernel_rfl) rfl
instance : Ze Go.Proofs.Try.prog 13 [.string .empty, .int .u64 (0)] := ze13
theorem sc21 : Sc Go.Proofs.Try.prog 21 := wO Go.Proofs.Try.underlying21 rfl (by kernel_rfl)
instance : Sc Go.Proofs.Try.prog 21 := sc21
theorem ze21 : Ze Go.Proofs.Try.prog 21 [.int .i32 (0)] := yr (z := .int .i32 (0)) (by kernel_rfl) rfl
instance : Ze Go.Proofs.Try.prog 21 [.int .i32 (0)] := ze21
theorem ik21 : Ik Go.Proofs.Try.prog 21 .i32 := ⟨Go.Proofs.Try.underlying21⟩
instance : Ik Go.Proofs.Try.prog 21 .i32 := ik21
theorem sc22 : Sc Go.Proofs.Try.prog 22 := wO Go.Proofs.Try.underlying22 rfl (by kernel_rfl)
instance : Sc Go.Proofs.Try.prog 22 := sc22
theorem ze22 : Ze Go.Proofs.Try.prog 22 [.slice none 0 0] := yr (z := .slice none 0 0) (by kernel_rfl) rfl
instance : Ze Go.Proofs.Try.prog 22 [.slice none 0 0] := ze22
theorem sl22 : Sl Go.Proofs.Try.prog 22 5 1 1 := se (z := .int .u8 (0)) Go.Proofs.Try.underlying22 (by kernel_rfl) rfl (by decide)
instance : Sl Go.Proofs.Try.prog 22 5 1 1 := sl22
theorem sc24 : Sc Go.Proofs.Try.prog 24 := wO Go.Proofs.Try.underlying24 rfl (by kernel_rfl)
instance : Sc Go.Proofs.Try.prog 24 := sc24
theorem ze24 : Ze Go.Proofs.Try.prog 24 [.slice none 0 0] := yr (z := .slice none 0 0) (by kernel_rfl) rfl
instance : Ze Go.Proofs.Try.prog 24 [.slice none 0 0] := ze24
theorem sl24 : Sl Go.Proofs.Try.prog 24 78 3 24 := se (z := .agg #[.int .i64 (0), .int .i64 (0), .int .i64 (0)]) Go.Proofs.Try.underlying24 (by kernel_rfl) rfl (by decide)
instance : Sl Go.Proofs.Try.prog 24 78 3 24 := sl24
theorem sc25 : Sc Go.Proofs.Try.prog 25 := wO Go.Proofs.Try.underlying25 rfl (by kernel_rfl)
instance : Sc Go.Proofs.Try.prog 25 := sc25
theorem ze25 : Ze Go.Proofs.Try.prog 25 [.slice none 0 0] := yr (z := .slice none 0 0) (by kernel_rfl) rfl
instance : Ze Go.Proofs.Try.prog 25 [.slice none 0 0] := ze25
theorem sl25 : Sl Go.Proofs.Try.prog 25 84 1 24 := se (z := .agg #[.slice none 0 0]) Go.Proofs.Try.underlying25 (by kernel_rfl) rfl (by decide)
instance : Sl Go.Proofs.Try.prog 25 84 1 24 := sl25
theorem ag26 : Ag Go.Proofs.Try.prog 26 10 := w8 Go.Proofs.Try.underlying26 (by kernel_rfl)
instance : Ag Go.Proofs.Try.prog 26 10 := ag26
theorem gi : Fd Go.Proofs.Try.prog 26 0 0 1 false := yH Go.Proofs.Try.underlying26 (off := 0) (ft := 24) rfl Go.Proofs.Try.underlying24 (n := 1) (by kernel_rfl) rfl (by decide)
instance : Fd Go.Proofs.Try.prog 26 0 0 1 false := gi
theorem gh : Fd Go.Proofs.Try.prog 26 1 1 1 false := yH Go.Proofs.Try.underlying26 (off := 1) (ft := 3) rfl Go.Proofs.Try.underlying3 (n := 1) (by kernel_rfl) rfl (by decide)
instance : Fd Go.Proofs.Try.prog 26 1 1 1 false := gh
theorem gg : Fd Go.Proofs.Try.prog 26 2 2 1 false := yH Go.Proofs.Try.underlying26 (off := 2) (ft := 24) rfl Go.Proofs.Try.underlying24 (n := 1) (by kernel_rfl) rfl (by decide)
instance : Fd Go.Proofs.Try.prog 26 2 2 1 false := gg
theorem gf : Fd Go.Proofs.Try.prog 26 3 3 1 false := yH Go.Proofs.Try.underlying26 (off := 3) (ft := 24) rfl Go.Proofs.Try.underlying24 (n := 1) (by kernel_rfl) rfl (by decide)
instance : Fd Go.Proofs.Try.prog 26 3 3 1 false := gf
theorem ge : Fd Go.Proofs.Try.prog 26 4 4 1 false := yH Go.Proofs.Try.underlying26 (off := 4) (ft := 24) rfl Go.Proofs.Try.underlying24 (n := 1) (by kernel_rfl) rfl (by decide)
instance : Fd Go.Proofs.Try.prog 26 4 4 1 false := ge
theorem gd : Fd Go.Proofs.Try.prog 26 5 5 1 false := yH Go.Proofs.Try.underlying26 (off := 5) (ft := 25) rfl Go.Proofs.Try.underlying25 (n := 1) (by kernel_rfl) rfl (by decide)
instance : Fd Go.Proofs.Try.prog 26 5 5 1 false := gd
theorem gc : Fd Go.Proofs.Try.prog 26 6 6 1 false := yH Go.Proofs.Try.underlying26 (off := 6) (ft := 3) rfl Go.Proofs.Try.underlying3 (n := 1) (by kernel_rfl) rfl (by decide)
instance : Fd Go.Proofs.Try.prog 26 6 6 1 false := gc
theorem gb : Fd Go.Proofs.Try.prog 26 7 7 1 false := yH Go.Proofs.Try.underlying26 (off := 7) (ft := 3) rfl Go.Proofs.Try.underlying3 (n := 1) (by kernel_rfl) rfl (by decide)
instance : Fd Go.Proofs.Try.prog 26 7 7 1 false := gb
theorem ga : Fd Go.Proofs.Try.prog 26 8 8 1 false := yH Go.Proofs.Try.underlying26 (off := 8) (ft := 3) rfl Go.Proofs.Try.underlying3 (n := 1) (by kernel_rfl) rfl (by decide)
instance : Fd Go.Proofs.Try.prog 26 8 8 1 false := ga
theorem gZ : Fd Go.Proofs.Try.prog 26 9 9 1 false := yH Go.Proofs.Try.underlying26 (off := 9) (ft := 3) rfl Go.Proofs.Try.underlying3 (n := 1) (by kernel_rfl) rfl (by decide)
instance : Fd Go.Proofs.Try.prog 26 9 9 1 false := gZ
theorem pl26 : Pl Go.Proofs.Try.prog 26 [(0, 1), (1, 1), (2, 1), (3, 1), (4, 1), (5, 1), (6, 1), (7, 1), (8, 1), (9, 1)] := w4 Go.Proofs.Try.underlying26 (by kernel_rfl)
instance : Pl Go.Proofs.Try.prog 26 [(0, 1), (1, 1), (2, 1), (3, 1), (4, 1), (5, 1), (6, 1), (7, 1), (8, 1), (9, 1)] := pl26
theorem ze26 : Ze Go.Proofs.Try.prog 26 [.slice none 0 0, .int .i64 (0), .slice none 0 0, .slice none 0 0, .slice none 0 0, .slice none 0 0, .int .i64 (0), .int .i64 (0), .int .i64 (0), .int .i64 (0)] := yr (z := .agg #[.slice none 0 0, .int .i64 (0), .slice none 0 0, .slice none 0 0, .slice none 0 0, .slice none 0 0, .int .i64 (0), .int .i64 (0), .int .i64 (0), .int .i64 (0)]) (by kernel_rfl) rfl
instance : Ze Go.Proofs.Try.prog 26 [.slice none 0 0, .int .i64 (0), .slice none 0 0, .slice none 0 0, .slice none 0 0, .slice none 0 0, .int .i64 (0), .int .i64 (0), .int .i64 (0), .int .i64 (0)] := ze26
theorem ag27 : Ag Go.Proofs.Try.prog 27 10 := w8 Go.Proofs.Try.underlying27 (by kernel_rfl)
instance : Ag Go.Proofs.Try.prog 27 10 := ag27
theorem gY : Fd Go.Proofs.Try.prog 27 0 0 1 false := yH Go.Proofs.Try.underlying27 (off := 0) (ft := 24) rfl Go.Proofs.Try.underlying24 (n := 1) (by kernel_rfl) rfl (by decide)
instance : Fd Go.Proofs.Try.prog 27 0 0 1 false := gY
theorem gX : Fd Go.Proofs.Try.prog 27 1 1 1 false := yH Go.Proofs.Try.underlying27 (off := 1) (ft := 3) rfl Go.Proofs.Try.underlying3 (n := 1) (by kernel_rfl) rfl (by decide)
instance : Fd Go.Proofs.Try.prog 27 1 1 1 false := gX
theorem gW : Fd Go.Proofs.Try.prog 27 2 2 1 false := yH Go.Proofs.Try.underlying27 (off := 2) (ft := 24) rfl Go.Proofs.Try.underlying24 (n := 1) (by kernel_rfl) rfl (by decide)
instance : Fd Go.Proofs.Try.prog 27 2 2 1 false := gW
theorem gV : Fd Go.Proofs.Try.prog 27 3 3 1 false := yH Go.Proofs.Try.underlying27 (off := 3) (ft := 24) rfl Go.Proofs.Try.underlying24 (n := 1) (by kernel_rfl) rfl (by decide)
instance : Fd Go.Proofs.Try.prog 27 3 3 1 false := gV
theorem gU : Fd Go.Proofs.Try.prog 27 4 4 1 false := yH Go.Proofs.Try.underlying27 (off := 4) (ft := 24) rfl Go.Proofs.Try.underlying24 (n := 1) (by kernel_rfl) rfl (by decide)
instance : Fd Go.Proofs.Try.prog 27 4 4 1 false := gU
theorem gT : Fd Go.Proofs.Try.prog 27 5 5 1 false := yH Go.Proofs.Try.underlying27 (off := 5) (ft := 25) rfl Go.Proofs.Try.underlying25 (n := 1) (by kernel_rfl) rfl (by decide)
instance : Fd Go.Proofs.Try.prog 27 5 5 1 false := gT
theorem gS : Fd Go.Proofs.Try.prog 27 6 6 1 false := yH Go.Proofs.Try.underlying27 (off := 6) (ft := 3) rfl Go.Proofs.Try.underlying3 (n := 1) (by kernel_rfl) rfl (by decide)
instance : Fd Go.Proofs.Try.prog 27 6 6 1 false := gS
theorem gR : Fd Go.Proofs.Try.prog 27 7 7 1 false := yH Go.Proofs.Try.underlying27 (off := 7) (ft := 3) rfl Go.Proofs.Try.underlying3 (n := 1) (by kernel_rfl) rfl (by decide)
instance : Fd Go.Proofs.Try.prog 27 7 7 1 false := gR
theorem gQ : Fd Go.Proofs.Try.prog 27 8 8 1 false := yH Go.Proofs.Try.underlying27 (off := 8) (ft := 3) rfl Go.Proofs.Try.underlying3 (n := 1) (by kernel_rfl) rfl (by decide)
instance : Fd Go.Proofs.Try.prog 27 8 8 1 false := gQ
theorem gP : Fd Go.Proofs.Try.prog 27 9 9 1 false := yH Go.Proofs.Try.underlying27 (off := 9) (ft := 3) rfl Go.Proofs.Try.underlying3 (n := 1) (by kernel_rfl) rfl (by decide)
instance : Fd Go.Proofs.Try.prog 27 9 9 1 false := gP
theorem pl27 : Pl Go.Proofs.Try.prog 27 [(0, 1), (1, 1), (2, 1), (3, 1), (4, 1), (5, 1), (6, 1), (7, 1), (8, 1), (9, 1)] := w4 Go.Proofs.Try.underlying27 (by kernel_rfl)
instance : Pl Go.Proofs.Try.prog 27 [(0, 1), (1, 1), (2, 1), (3, 1), (4, 1), (5, 1), (6, 1), (7, 1), (8, 1), (9, 1)] := pl27
theorem ze27 : Ze Go.Proofs.Try.prog 27 [.slice none 0 0, .int .i64 (0), .slice none 0 0, .slice none 0 0, .slice none 0 0, .slice none 0 0, .int .i64 (0), .int .i64 (0), .int .i64 (0), .int .i64 (0)] := yr (z := .agg #[.slice none 0 0, .int .i64 (0), .slice none 0 0, .slice none 0 0, .slice none 0 0, .slice none 0 0, .int .i64 (0), .int .i64 (0), .int .i64 (0), .int .i64 (0)]) (by kernel_rfl) rfl
instance : Ze Go.Proofs.Try.prog 27 [.slice none 0 0, .int .i64 (0), .slice none 0 0, .slice none 0 0, .slice none 0 0, .slice none 0 0, .int .i64 (0), .int .i64 (0), .int .i64 (0), .int .i64 (0)] := ze27
theorem sc36 : Sc Go.Proofs.Try.prog 36 := wO Go.Proofs.Try.underlying36 rfl (by kernel_rfl)
instance : Sc Go.Proofs.Try.prog 36 := sc36
theorem ze36 : Ze Go.Proofs.Try.prog 36 [.slice none 0 0] := yr (z := .slice none 0 0) (by kernel_rfl) rfl
instance : Ze Go.Proofs.Try.prog 36 [.slice none 0 0] := ze36
theorem sl36 : Sl Go.Proofs.Try.prog 36 3 1 8 := se (z := .int .i64 (0)) Go.Proofs.Try.underlying36 (by kernel_rfl) rfl (by decide)
instance : Sl Go.Proofs.Try.prog 36 3 1 8 := sl36
theorem ag39 : Ag Go.Proofs.Try.prog 39 4 := w8 Go.Proofs.Try.underlying39 (by kernel_rfl)
instance : Ag Go.Proofs.Try.prog 39 4 := ag39
theorem gO : Fd Go.Proofs.Try.prog 39 0 0 1 false := yH Go.Proofs.Try.underlying39 (off := 0) (ft := 24) rfl Go.Proofs.Try.underlying24 (n := 1) (by kernel_rfl) rfl (by decide)
instance : Fd Go.Proofs.Try.prog 39 0 0 1 false := gO
theorem gN : Fd Go.Proofs.Try.prog 39 1 1 1 false := yH Go.Proofs.Try.underlying39 (off := 1) (ft := 3) rfl Go.Proofs.Try.underlying3 (n := 1) (by kernel_rfl) rfl (by decide)
instance : Fd Go.Proofs.Try.prog 39 1 1 1 false := gN
theorem gL : Fd Go.Proofs.Try.prog 39 2 2 1 false := yH Go.Proofs.Try.underlying39 (off := 2) (ft := 3) rfl Go.Proofs.Try.underlying3 (n := 1) (by kernel_rfl) rfl (by decide)
instance : Fd Go.Proofs.Try.prog 39 2 2 1 false := gL
theorem gK : Fd Go.Proofs.Try.prog 39 3 3 1 false := yH Go.Proofs.Try.underlying39 (off := 3) (ft := 3) rfl Go.Proofs.Try.underlying3 (n := 1) (by kernel_rfl) rfl (by decide)
instance : Fd Go.Proofs.Try.prog 39 3 3 1 false := gK
theorem pl39 : Pl Go.Proofs.Try.prog 39 [(0, 1), (1, 1), (2, 1), (3, 1)] := w4 Go.Proofs.Try.underlying39 (by kernel_rfl)
instance : Pl Go.Proofs.Try.prog 39 [(0, 1), (1, 1), (2, 1), (3, 1)] := pl39
theorem ze39 : Ze Go.Proofs.Try.prog 39 [.slice none 0 0, .int .i64 (0), .int .i64 (0), .int .i64 (0)] := yr (z := .agg #[.slice none 0 0, .int .i64 (0), .int .i64 (0), .int .i64 (0)]) (by kernel_rfl) rfl
instance : Ze Go.Proofs.Try.prog 39 [.slice none 0 0, .int .i64 (0), .int .i64 (0), .int .i64 (0)] := ze39
theorem ag40 : Ag Go.Proofs.Try.prog 40 4 := w8 Go.Proofs.Try.underlying40 (by kernel_rfl)
instance : Ag Go.Proofs.Try.prog 40 4 := ag40
theorem gJ : Fd Go.Proofs.Try.prog 40 0 0 1 false := yH Go.Proofs.Try.underlying40 (off := 0) (ft := 24) rfl Go.Proofs.Try.underlying24 (n := 1) (by kernel_rfl) rfl (by decide)
instance : Fd Go.Proofs.Try.prog 40 0 0 1 false := gJ
theorem gI : Fd Go.Proofs.Try.prog 40 1 1 1 false := yH Go.Proofs.Try.underlying40 (off := 1) (ft := 3) rfl Go.Proofs.Try.underlying3 (n := 1) (by kernel_rfl) rfl (by decide)
instance : Fd Go.Proofs.Try.prog 40 1 1 1 false := gI
theorem gH : Fd Go.Proofs.Try.prog 40 2 2 1 false := yH Go.Proofs.Try.underlying40 (off := 2) (ft := 3) rfl Go.Proofs.Try.underlying3 (n := 1) (by kernel_rfl) rfl (by decide)
instance : Fd Go.Proofs.Try.prog 40 2 2 1 false := gH
theorem gG : Fd Go.Proofs.Try.prog 40 3 3 1 false := yH Go.Proofs.Try.underlying40 (off := 3) (ft := 3) rfl Go.Proofs.Try.underlying3 (n := 1) (by kernel_rfl) rfl (by decide)
instance : Fd Go.Proofs.Try.prog 40 3 3 1 false := gG
theorem pl40 : Pl Go.Proofs.Try.prog 40 [(0, 1), (1, 1), (2, 1), (3, 1)] := w4 Go.Proofs.Try.underlying40 (by kernel_rfl)
instance : Pl Go.Proofs.Try.prog 40 [(0, 1), (1, 1), (2, 1), (3, 1)] := pl40
theorem ze40 : Ze Go.Proofs.Try.prog 40 [.slice none 0 0, .int .i64 (0), .int .i64 (0), .int .i64 (0)] := yr (z := .agg #[.slice none 0 0, .int .i64 (0), .int .i64 (0), .int .i64 (0)]) (by kernel_rfl) rfl
instance : Ze Go.Proofs.Try.prog 40 [.slice none 0 0, .int .i64 (0), .int .i64 (0), .int .i64 (0)] := ze40
theorem sc50 : Sc Go.Proofs.Try.prog 50 := wO Go.Proofs.Try.underlying50 rfl (by kernel_rfl)
instance : Sc Go.Proofs.Try.prog 50 := sc50
theorem ze50 : Ze Go.Proofs.Try.prog 50 [.slice none 0 0] := yr (z := .slice none 0 0) (by kernel_rfl) rfl
instance : Ze Go.Proofs.Try.prog 50 [.slice none 0 0] := ze50
theorem sl50 : Sl Go.Proofs.Try.prog 50 105 3 24 := se (z := .agg #[.int .i64 (0), .int .i64 (0), .int .i64 (0)]) Go.Proofs.Try.underlying50 (by kernel_rfl) rfl (by decide)
instance : Sl Go.Proofs.Try.prog 50 105 3 24 := sl50
theorem sc51 : Sc Go.Proofs.Try.prog 51 := wO Go.Proofs.Try.underlying51 rfl (by kernel_rfl)
instance : Sc Go.Proofs.Try.prog 51 := sc51
theorem ze51 : Ze Go.Proofs.Try.prog 51 [.slice none 0 0] := yr (z := .slice none 0 0) (by kernel_rfl) rfl
instance : Ze Go.Proofs.Try.prog 51 [.slice none 0 0] := ze51
theorem sl51 : Sl Go.Proofs.Try.prog 51 119 1 24 := se (z := .agg #[.slice none 0 0]) Go.Proofs.Try.underlying51 (by kernel_rfl) rfl (by decide)
instance : Sl Go.Proofs.Try.prog 51 119 1 24 := sl51
theorem ag52 : Ag Go.Proofs.Try.prog 52 10 := w8 Go.Proofs.Try.underlying52 (by kernel_rfl)
instance : Ag Go.Proofs.Try.prog 52 10 := ag52
theorem gF : Fd Go.Proofs.Try.prog 52 0 0 1 false := yH Go.Proofs.Try.underlying52 (off := 0) (ft := 50) rfl Go.Proofs.Try.underlying50 (n := 1) (by kernel_rfl) rfl (by decide)
instance : Fd Go.Proofs.Try.prog 52 0 0 1 false := gF
theorem gE : Fd Go.Proofs.Try.prog 52 1 1 1 false := yH Go.Proofs.Try.underlying52 (off := 1) (ft := 3) rfl Go.Proofs.Try.underlying3 (n := 1) (by kernel_rfl) rfl (by decide)
instance : Fd Go.Proofs.Try.prog 52 1 1 1 false := gE
theorem gD : Fd Go.Proofs.Try.prog 52 2 2 1 false := yH Go.Proofs.Try.underlying52 (off := 2) (ft := 50) rfl Go.Proofs.Try.underlying50 (n := 1) (by kernel_rfl) rfl (by decide)
instance : Fd Go.Proofs.Try.prog 52 2 2 1 false := gD
theorem gC : Fd Go.Proofs.Try.prog 52 3 3 1 false := yH Go.Proofs.Try.underlying52 (off := 3) (ft := 50) rfl Go.Proofs.Try.underlying50 (n := 1) (by kernel_rfl) rfl (by decide)
instance : Fd Go.Proofs.Try.prog 52 3 3 1 false := gC
theorem gB : Fd Go.Proofs.Try.prog 52 4 4 1 false := yH Go.Proofs.Try.underlying52 (off := 4) (ft := 50) rfl Go.Proofs.Try.underlying50 (n := 1) (by kernel_rfl) rfl (by decide)
instance : Fd Go.Proofs.Try.prog 52 4 4 1 false := gB
theorem gA : Fd Go.Proofs.Try.prog 52 5 5 1 false := yH Go.Proofs.Try.underlying52 (off := 5) (ft := 51) rfl Go.Proofs.Try.underlying51 (n := 1) (by kernel_rfl) rfl (by decide)
instance : Fd Go.Proofs.Try.prog 52 5 5 1 false := gA
theorem hQ : Fd Go.Proofs.Try.prog 52 6 6 1 false := yH Go.Proofs.Try.underlying52 (off := 6) (ft := 3) rfl Go.Proofs.Try.underlying3 (n := 1) (by kernel_rfl) rfl (by decide)
instance : Fd Go.Proofs.Try.prog 52 6 6 1 false := hQ
theorem hM : Fd Go.Proofs.Try.prog 52 7 7 1 false := yH Go.Proofs.Try.underlying52 (off := 7) (ft := 3) rfl Go.Proofs.Try.underlying3 (n := 1) (by kernel_rfl) rfl (by decide)
instance : Fd Go.Proofs.Try.prog 52 7 7 1 false := hM
theorem hF : Fd Go.Proofs.Try.prog 52 8 8 1 false := yH Go.Proofs.Try.underlying52 (off := 8) (ft := 3) rfl Go.Proofs.Try.underlying3 (n := 1) (by kernel_rfl) rfl (by decide)
instance : Fd Go.Proofs.Try.prog 52 8 8 1 false := hF
theorem j9 : Fd Go.Proofs.Try.prog 52 9 9 1 false := yH Go.Proofs.Try.underlying52 (off := 9) (ft := 3) rfl Go.Proofs.Try.underlying3 (n := 1) (by kernel_rfl) rfl (by decide)
instance : Fd Go.Proofs.Try.prog 52 9 9 1 false := j9
theorem pl52 : Pl Go.Proofs.Try.prog 52 [(0, 1), (1, 1), (2, 1), (3, 1), (4, 1), (5, 1), (6, 1), (7, 1), (8, 1), (9, 1)] := w4 Go.Proofs.Try.underlying52 (by kernel_rfl)
instance : Pl Go.Proofs.Try.prog 52 [(0, 1), (1, 1), (2, 1), (3, 1), (4, 1), (5, 1), (6, 1), (7, 1), (8, 1), (9, 1)] := pl52
theorem ze52 : Ze Go.Proofs.Try.prog 52 [.slice none 0 0, .int .i64 (0), .slice none 0 0, .slice none 0 0, .slice none 0 0, .slice none 0 0, .int .i64 (0), .int .i64 (0), .int .i64 (0), .int .i64 (0)] := yr (z := .agg #[.slice none 0 0, .int .i64 (0), .slice none 0 0, .slice none 0 0, .slice none 0 0, .slice none 0 0, .int .i64 (0), .int .i64 (0), .int .i64 (0), .int .i64 (0)]) (by kernel_rfl) rfl
instance : Ze Go.Proofs.Try.prog 52 [.slice none 0 0, .int .i64 (0), .slice none 0 0, .slice none 0 0, .slice none 0 0, .slice none 0 0, .int .i64 (0), .int .i64 (0), .int .i64 (0), .int .i64 (0)] := ze52
theorem ag53 : Ag Go.Proofs.Try.prog 53 10 := w8 Go.Proofs.Try.underlying53 (by kernel_rfl)
instance : Ag Go.Proofs.Try.prog 53 10 := ag53
theorem j8 : Fd Go.Proofs.Try.prog 53 0 0 1 false := yH Go.Proofs.Try.underlying53 (off := 0) (ft := 50) rfl Go.Proofs.Try.underlying50 (n := 1) (by kernel_rfl) rfl (by decide)
instance : Fd Go.Proofs.Try.prog 53 0 0 1 false := j8
theorem j7 : Fd Go.Proofs.Try.prog 53 1 1 1 false := yH Go.Proofs.Try.underlying53 (off := 1) (ft := 3) rfl Go.Proofs.Try.underlying3 (n := 1) (by kernel_rfl) rfl (by decide)
instance : Fd Go.Proofs.Try.prog 53 1 1 1 false := j7
theorem jz : Fd Go.Proofs.Try.prog 53 2 2 1 false := yH Go.Proofs.Try.underlying53 (off := 2) (ft := 50) rfl Go.Proofs.Try.underlying50 (n := 1) (by kernel_rfl) rfl (by decide)
instance : Fd Go.Proofs.Try.prog 53 2 2 1 false := jz
theorem jy : Fd Go.Proofs.Try.prog 53 3 3 1 false := yH Go.Proofs.Try.underlying53 (off := 3) (ft := 50) rfl Go.Proofs.Try.underlying50 (n := 1) (by kernel_rfl) rfl (by decide)
instance : Fd Go.Proofs.Try.prog 53 3 3 1 false := jy
theorem ju : Fd Go.Proofs.Try.prog 53 4 4 1 false := yH Go.Proofs.Try.underlying53 (off := 4) (ft := 50) rfl Go.Proofs.Try.underlying50 (n := 1) (by kernel_rfl) rfl (by decide)
instance : Fd Go.Proofs.Try.prog 53 4 4 1 false := ju
theorem jt : Fd Go.Proofs.Try.prog 53 5 5 1 false := yH Go.Proofs.Try.underlying53 (off := 5) (ft := 51) rfl Go.Proofs.Try.underlying51 (n := 1) (by kernel_rfl) rfl (by decide)
instance : Fd Go.Proofs.Try.prog 53 5 5 1 false := jt
theorem js : Fd Go.Proofs.Try.prog 53 6 6 1 false := yH Go.Proofs.Try.underlying53 (off := 6) (ft := 3) rfl Go.Proofs.Try.underlying3 (n := 1) (by kernel_rfl) rfl (by decide)
instance : Fd Go.Proofs.Try.prog 53 6 6 1 false := js
theorem jq : Fd Go.Proofs.Try.prog 53 7 7 1 false := yH Go.Proofs.Try.underlying53 (off := 7) (ft := 3) rfl Go.Proofs.Try.underlying3 (n := 1) (by kernel_rfl) rfl (by decide)
instance : Fd Go.Proofs.Try.prog 53 7 7 1 false := jq
theorem jp : Fd Go.Proofs.Try.prog 53 8 8 1 false := yH Go.Proofs.Try.underlying53 (off := 8) (ft := 3) rfl Go.Proofs.Try.underlying3 (n := 1) (by kernel_rfl) rfl (by decide)
instance : Fd Go.Proofs.Try.prog 53 8 8 1 false := jp
theorem jo : Fd Go.Proofs.Try.prog 53 9 9 1 false := yH Go.Proofs.Try.underlying53 (off := 9) (ft := 3) rfl Go.Proofs.Try.underlying3 (n := 1) (by kernel_rfl) rfl (by decide)
instance : Fd Go.Proofs.Try.prog 53 9 9 1 false := jo
theorem pl53 : Pl Go.Proofs.Try.prog 53 [(0, 1), (1, 1), (2, 1), (3, 1), (4, 1), (5, 1), (6, 1), (7, 1), (8, 1), (9, 1)] := w4 Go.Proofs.Try.underlying53 (by kernel_rfl)
instance : Pl Go.Proofs.Try.prog 53 [(0, 1), (1, 1), (2, 1), (3, 1), (4, 1), (5, 1), (6, 1), (7, 1), (8, 1), (9, 1)] := pl53
theorem ze53 : Ze Go.Proofs.Try.prog 53 [.slice none 0 0, .int .i64 (0), .slice none 0 0, .slice none 0 0, .slice none 0 0, .slice none 0 0, .int .i64 (0), .int .i64 (0), .int .i64 (0), .int .i64 (0)] := yr (z := .agg #[.slice none 0 0, .int .i64 (0), .slice none 0 0, .slice none 0 0, .slice none 0 0, .slice none 0 0, .int .i64 (0), .int .i64 (0), .int .i64 (0), .int .i64 (0)]) (by kernel_rfl) rfl
instance : Ze Go.Proofs.Try.prog 53 [.slice none 0 0, .int .i64 (0), .slice none 0 0, .slice none 0 0, .slice none 0 0, .slice none 0 0, .int .i64 (0), .int .i64 (0), .int .i64 (0), .int .i64 (0)] := ze53
theorem sc70 : Sc Go.Proofs.Try.prog 70 := wO Go.Proofs.Try.underlying70 rfl (by kernel_rfl)
instance : Sc Go.Proofs.Try.prog 70 := sc70
theorem ze70 : Ze Go.Proofs.Try.prog 70 [.pointer none] := yr (z := .pointer none) (by kernel_rfl) rfl
instance : Ze Go.Proofs.Try.prog 70 [.pointer none] := ze70
theorem ag77 : Ag Go.Proofs.Try.prog 77 3 := w8 Go.Proofs.Try.underlying77 (by kernel_rfl)
instance : Ag Go.Proofs.Try.prog 77 3 := ag77
theorem jn : Fd Go.Proofs.Try.prog 77 0 0 1 false := yH Go.Proofs.Try.underlying77 (off := 0) (ft := 3) rfl Go.Proofs.Try.underlying3 (n := 1) (by kernel_rfl) rfl (by decide)
instance : Fd Go.Proofs.Try.prog 77 0 0 1 false := jn
theorem jm : Fd Go.Proofs.Try.prog 77 1 1 1 false := yH Go.Proofs.Try.underlying77 (off := 1) (ft := 3) rfl Go.Proofs.Try.underlying3 (n := 1) (by kernel_rfl) rfl (by decide)
instance : Fd Go.Proofs.Try.prog 77 1 1 1 false := jm
theorem jj : Fd Go.Proofs.Try.prog 77 2 2 1 false := yH Go.Proofs.Try.underlying77 (off := 2) (ft := 3) rfl Go.Proofs.Try.underlying3 (n := 1) (by kernel_rfl) rfl (by decide)
instance : Fd Go.Proofs.Try.prog 77 2 2 1 false := jj
theorem pl77 : Pl Go.Proofs.Try.prog 77 [(0, 1), (1, 1), (2, 1)] := w4 Go.Proofs.Try.underlying77 (by kernel_rfl)
instance : Pl Go.Proofs.Try.prog 77 [(0, 1), (1, 1), (2, 1)] := pl77
theorem ze77 : Ze Go.Proofs.Try.prog 77 [.int .i64 (0), .int .i64 (0), .int .i64 (0)] := yr (z := .agg #[.int .i64 (0), .int .i64 (0), .int .i64 (0)]) (by kernel_rfl) rfl
instance : Ze Go.Proofs.Try.prog 77 [.int .i64 (0), .int .i64 (0), .int .i64 (0)] := ze77
theorem ag78 : Ag Go.Proofs.Try.prog 78 3 := w8 Go.Proofs.Try.underlying78 (by kernel_rfl)
instance : Ag Go.Proofs.Try.prog 78 3 := ag78
theorem ji : Fd Go.Proofs.Try.prog 78 0 0 1 false := yH Go.Proofs.Try.underlying78 (off := 0) (ft := 3) rfl Go.Proofs.Try.underlying3 (n := 1) (by kernel_rfl) rfl (by decide)
instance : Fd Go.Proofs.Try.prog 78 0 0 1 false := ji
theorem jh : Fd Go.Proofs.Try.prog 78 1 1 1 false := yH Go.Proofs.Try.underlying78 (off := 1) (ft := 3) rfl Go.Proofs.Try.underlying3 (n := 1) (by kernel_rfl) rfl (by decide)
instance : Fd Go.Proofs.Try.prog 78 1 1 1 false := jh
theorem jg : Fd Go.Proofs.Try.prog 78 2 2 1 false := yH Go.Proofs.Try.underlying78 (off := 2) (ft := 3) rfl Go.Proofs.Try.underlying3 (n := 1) (by kernel_rfl) rfl (by decide)
instance : Fd Go.Proofs.Try.prog 78 2 2 1 false := jg
theorem pl78 : Pl Go.Proofs.Try.prog 78 [(0, 1), (1, 1), (2, 1)] := w4 Go.Proofs.Try.underlying78 (by kernel_rfl)
instance : Pl Go.Proofs.Try.prog 78 [(0, 1), (1, 1), (2, 1)] := pl78
theorem ze78 : Ze Go.Proofs.Try.prog 78 [.int .i64 (0), .int .i64 (0), .int .i64 (0)] := yr (z := .agg #[.int .i64 (0), .int .i64 (0), .int .i64 (0)]) (by kernel_rfl) rfl
instance : Ze Go.Proofs.Try.prog 78 [.int .i64 (0), .int .i64 (0), .int .i64 (0)] := ze78
theorem sc81 : Sc Go.Proofs.Try.prog 81 := wO Go.Proofs.Try.underlying81 rfl (by kernel_rfl)
instance : Sc Go.Proofs.Try.prog 81 := sc81
theorem ze81 : Ze Go.Proofs.Try.prog 81 [.pointer none] := yr (z := .pointer none) (by kernel_rfl) rfl
instance : Ze Go.Proofs.Try.prog 81 [.pointer none] := ze81
theorem ag83 : Ag Go.Proofs.Try.prog 83 1 := w8 Go.Proofs.Try.underlying83 (by kernel_rfl)
instance : Ag Go.Proofs.Try.prog 83 1 := ag83
theorem jf : Fd Go.Proofs.Try.prog 83 0 0 1 false := yH Go.Proofs.Try.underlying83 (off := 0) (ft := 24) rfl Go.Proofs.Try.underlying24 (n := 1) (by kernel_rfl) rfl (by decide)
instance : Fd Go.Proofs.Try.prog 83 0 0 1 false := jf
theorem pl83 : Pl Go.Proofs.Try.prog 83 [(0, 1)] := w4 Go.Proofs.Try.underlying83 (by kernel_rfl)
instance : Pl Go.Proofs.Try.prog 83 [(0, 1)] := pl83
theorem ze83 : Ze Go.Proofs.Try.prog 83 [.slice none 0 0] := yr (z := .agg #[.slice none 0 0]) (by kernel_rfl) rfl
instance : Ze Go.Proofs.Try.prog 83 [.slice none 0 0] := ze83
theorem ag84 : Ag Go.Proofs.Try.prog 84 1 := w8 Go.Proofs.Try.underlying84 (by kernel_rfl)
instance : Ag Go.Proofs.Try.prog 84 1 := ag84
theorem je : Fd Go.Proofs.Try.prog 84 0 0 1 false := yH Go.Proofs.Try.underlying84 (off := 0) (ft := 24) rfl Go.Proofs.Try.underlying24 (n := 1) (by kernel_rfl) rfl (by decide)
instance : Fd Go.Proofs.Try.prog 84 0 0 1 false := je
theorem pl84 : Pl Go.Proofs.Try.prog 84 [(0, 1)] := w4 Go.Proofs.Try.underlying84 (by kernel_rfl)
instance : Pl Go.Proofs.Try.prog 84 [(0, 1)] := pl84
theorem ze84 : Ze Go.Proofs.Try.prog 84 [.slice none 0 0] := yr (z := .agg #[.slice none 0 0]) (by kernel_rfl) rfl
instance : Ze Go.Proofs.Try.prog 84 [.slice none 0 0] := ze84
theorem dh : Ag Go.Proofs.Try.prog 105 3 := w8 Go.Proofs.Try.underlying105 (by kernel_rfl)
instance : Ag Go.Proofs.Try.prog 105 3 := dh
theorem lO : Fd Go.Proofs.Try.prog 105 0 0 1 false := yH Go.Proofs.Try.underlying105 (off := 0) (ft := 3) rfl Go.Proofs.Try.underlying3 (n := 1) (by kernel_rfl) rfl (by decide)
instance : Fd Go.Proofs.Try.prog 105 0 0 1 false := lO
theorem lN : Fd Go.Proofs.Try.prog 105 1 1 1 false := yH Go.Proofs.Try.underlying105 (off := 1) (ft := 3) rfl Go.Proofs.Try.underlying3 (n := 1) (by kernel_rfl) rfl (by decide)
instance : Fd Go.Proofs.Try.prog 105 1 1 1 false := lN
theorem lM : Fd Go.Proofs.Try.prog 105 2 2 1 false := yH Go.Proofs.Try.underlying105 (off := 2) (ft := 3) rfl Go.Proofs.Try.underlying3 (n := 1) (by kernel_rfl) rfl (by decide)
instance : Fd Go.Proofs.Try.prog 105 2 2 1 false := lM
theorem dK : Pl Go.Proofs.Try.prog 105 [(0, 1), (1, 1), (2, 1)] := w4 Go.Proofs.Try.underlying105 (by kernel_rfl)
instance : Pl Go.Proofs.Try.prog 105 [(0, 1), (1, 1), (2, 1)] := dK
theorem eu : Ze Go.Proofs.Try.prog 105 [.int .i64 (0), .int .i64 (0), .int .i64 (0)] := yr (z := .agg #[.int .i64 (0), .int .i64 (0), .int .i64 (0)]) (by kernel_rfl) rfl
instance : Ze Go.Proofs.Try.prog 105 [.int .i64 (0), .int .i64 (0), .int .i64 (0)] := eu
theorem dg : Ag Go.Proofs.Try.prog 108 3 := w8 Go.Proofs.Try.underlying108 (by kernel_rfl)
instance : Ag Go.Proofs.Try.prog 108 3 := dg
theorem lL : Fd Go.Proofs.Try.prog 108 0 0 1 false := yH Go.Proofs.Try.underlying108 (off := 0) (ft := 22) rfl Go.Proofs.Try.underlying22 (n := 1) (by kernel_rfl) rfl (by decide)
instance : Fd Go.Proofs.Try.prog 108 0 0 1 false := lL
theorem lK : Fd Go.Proofs.Try.prog 108 1 1 1 false := yH Go.Proofs.Try.underlying108 (off := 1) (ft := 3) rfl Go.Proofs.Try.underlying3 (n := 1) (by kernel_rfl) rfl (by decide)
instance : Fd Go.Proofs.Try.prog 108 1 1 1 false := lK
theorem lJ : Fd Go.Proofs.Try.prog 108 2 2 1 false := yH Go.Proofs.Try.underlying108 (off := 2) (ft := 3) rfl Go.Proofs.Try.underlying3 (n := 1) (by kernel_rfl) rfl (by decide)
instance : Fd Go.Proofs.Try.prog 108 2 2 1 false := lJ
theorem dJ : Pl Go.Proofs.Try.prog 108 [(0, 1), (1, 1), (2, 1)] := w4 Go.Proofs.Try.underlying108 (by kernel_rfl)
instance : Pl Go.Proofs.Try.prog 108 [(0, 1), (1, 1), (2, 1)] := dJ
theorem et : Ze Go.Proofs.Try.prog 108 [.slice none 0 0, .int .i64 (0), .int .i64 (0)] := yr (z := .agg #[.slice none 0 0, .int .i64 (0), .int .i64 (0)]) (by kernel_rfl) rfl
instance : Ze Go.Proofs.Try.prog 108 [.slice none 0 0, .int .i64 (0), .int .i64 (0)] := et
theorem df : Ag Go.Proofs.Try.prog 109 3 := w8 Go.Proofs.Try.underlying109 (by kernel_rfl)
instance : Ag Go.Proofs.Try.prog 109 3 := df
theorem lI : Fd Go.Proofs.Try.prog 109 0 0 1 false := yH Go.Proofs.Try.underlying109 (off := 0) (ft := 22) rfl Go.Proofs.Try.underlying22 (n := 1) (by kernel_rfl) rfl (by decide)
instance : Fd Go.Proofs.Try.prog 109 0 0 1 false := lI
theorem lH : Fd Go.Proofs.Try.prog 109 1 1 1 false := yH Go.Proofs.Try.underlying109 (off := 1) (ft := 3) rfl Go.Proofs.Try.underlying3 (n := 1) (by kernel_rfl) rfl (by decide)
instance : Fd Go.Proofs.Try.prog 109 1 1 1 false := lH
theorem lG : Fd Go.Proofs.Try.prog 109 2 2 1 false := yH Go.Proofs.Try.underlying109 (off := 2) (ft := 3) rfl Go.Proofs.Try.underlying3 (n := 1) (by kernel_rfl) rfl (by decide)
instance : Fd Go.Proofs.Try.prog 109 2 2 1 false := lG
theorem dI : Pl Go.Proofs.Try.prog 109 [(0, 1), (1, 1), (2, 1)] := w4 Go.Proofs.Try.underlying109 (by kernel_rfl)
instance : Pl Go.Proofs.Try.prog 109 [(0, 1), (1, 1), (2, 1)] := dI
theorem eq : Ze Go.Proofs.Try.prog 109 [.slice none 0 0, .int .i64 (0), .int .i64 (0)] := yr (z := .agg #[.slice none 0 0, .int .i64 (0), .int .i64 (0)]) (by kernel_rfl) rfl
instance : Ze Go.Proofs.Try.prog 109 [.slice none 0 0, .int .i64 (0), .int .i64 (0)] := eq
theorem dE : Sc Go.Proofs.Try.prog 115 := wO Go.Proofs.Try.underlying115 rfl (by kernel_rfl)
instance : Sc Go.Proofs.Try.prog 115 := dE
theorem eo : Ze Go.Proofs.Try.prog 115 [.slice none 0 0] := yr (z := .slice none 0 0) (by kernel_rfl) rfl
instance : Ze Go.Proofs.Try.prog 115 [.slice none 0 0] := eo
theorem dA : Sl Go.Proofs.Try.prog 115 24 1 24 := se (z := .slice none 0 0) Go.Proofs.Try.underlying115 (by kernel_rfl) rfl (by decide)
instance : Sl Go.Proofs.Try.prog 115 24 1 24 := dA
theorem de : Ag Go.Proofs.Try.prog 118 1 := w8 Go.Proofs.Try.underlying118 (by kernel_rfl)
instance : Ag Go.Proofs.Try.prog 118 1 := de
theorem lF : Fd Go.Proofs.Try.prog 118 0 0 1 false := yH Go.Proofs.Try.underlying118 (off := 0) (ft := 50) rfl Go.Proofs.Try.underlying50 (n := 1) (by kernel_rfl) rfl (by decide)
instance : Fd Go.Proofs.Try.prog 118 0 0 1 false := lF
theorem dH : Pl Go.Proofs.Try.prog 118 [(0, 1)] := w4 Go.Proofs.Try.underlying118 (by kernel_rfl)
instance : Pl Go.Proofs.Try.prog 118 [(0, 1)] := dH
theorem el : Ze Go.Proofs.Try.prog 118 [.slice none 0 0] := yr (z := .agg #[.slice none 0 0]) (by kernel_rfl) rfl
instance : Ze Go.Proofs.Try.prog 118 [.slice none 0 0] := el
theorem dd : Ag Go.Proofs.Try.prog 119 1 := w8 Go.Proofs.Try.underlying119 (by kernel_rfl)
instance : Ag Go.Proofs.Try.prog 119 1 := dd
theorem lE : Fd Go.Proofs.Try.prog 119 0 0 1 false := yH Go.Proofs.Try.underlying119 (off := 0) (ft := 50) rfl Go.Proofs.Try.underlying50 (n := 1) (by kernel_rfl) rfl (by decide)
instance : Fd Go.Proofs.Try.prog 119 0 0 1 false := lE
theorem dG : Pl Go.Proofs.Try.prog 119 [(0, 1)] := w4 Go.Proofs.Try.underlying119 (by kernel_rfl)
instance : Pl Go.Proofs.Try.prog 119 [(0, 1)] := dG
theorem ek : Ze Go.Proofs.Try.prog 119 [.slice none 0 0] := yr (z := .agg #[.slice none 0 0]) (by kernel_rfl) rfl
instance : Ze Go.Proofs.Try.prog 119 [.slice none 0 0] := ek
theorem dD : Sc Go.Proofs.Try.prog 123 := wO Go.Proofs.Try.underlying123 rfl (by kernel_rfl)
instance : Sc Go.Proofs.Try.prog 123 := dD
theorem eg : Ze Go.Proofs.Try.prog 123 [.int .u64 (0)] := yr (z := .int .u64 (0)) (by kernel_rfl) rfl
instance : Ze Go.Proofs.Try.prog 123 [.int .u64 (0)] := eg
theorem dS : Ik Go.Proofs.Try.prog 123 .u64 := ⟨Go.Proofs.Try.underlying123⟩
instance : Ik Go.Proofs.Try.prog 123 .u64 := dS
theorem dC : Sc Go.Proofs.Try.prog 134 := wO Go.Proofs.Try.underlying134 rfl (by kernel_rfl)
instance : Sc Go.Proofs.Try.prog 134 := dC
theorem ef : Ze Go.Proofs.Try.prog 134 [.int .u32 (0)] := yr (z := .int .u32 (0)) (by kernel_rfl) rfl
instance : Ze Go.Proofs.Try.prog 134 [.int .u32 (0)] := ef
theorem dR : Ik Go.Proofs.Try.prog 134 .u32 := ⟨Go.Proofs.Try.underlying134⟩
instance : Ik Go.Proofs.Try.prog 134 .u32 := dR
theorem dB : Sc Go.Proofs.Try.prog 138 := wO Go.Proofs.Try.underlying138 rfl (by kernel_rfl)
instance : Sc Go.Proofs.Try.prog 138 := dB
theorem eZ : Ze Go.Proofs.Try.prog 138 [.pointer none] := yr (z := .pointer none) (by kernel_rfl) rfl
instance : Ze Go.Proofs.Try.prog 138 [.pointer none] := eZ
def tab : Tab where
  ag := [(13, 2), (26, 10), (27, 10), (39, 4), (40, 4), (52, 10), (53, 10), (77, 3), (78, 3), (83, 1), (84, 1), (105, 3), (108, 3), (109, 3), (118, 1), (119, 1)]
  sc := [2, 3, 4, 5, 9, 12, 21, 22, 24, 25, 36, 50, 51, 70, 81, 115, 123, 134, 138]
  fd := [((13, 0), (0, 1, false)), ((13, 1), (1, 1, false)), ((26, 0), (0, 1, false)), ((26, 1), (1, 1, false)), ((26, 2), (2, 1, false)), ((26, 3), (3, 1, false)), ((26, 4), (4, 1, false)), ((26, 5), (5, 1, false)), ((26, 6), (6, 1, false)), ((26, 7), (7, 1, false)), ((26, 8), (8, 1, false)), ((26, 9), (9, 1, false)), ((27, 0), (0, 1, false)), ((27, 1), (1, 1, false)), ((27, 2), (2, 1, false)), ((27, 3), (3, 1, false)), ((27, 4), (4, 1, false)), ((27, 5), (5, 1, false)), ((27, 6), (6, 1, false)), ((27, 7), (7, 1, false)), ((27, 8), (8, 1, false)), ((27, 9), (9, 1, false)), ((39, 0), (0, 1, false)), ((39, 1), (1, 1, false)), ((39, 2), (2, 1, false)), ((39, 3), (3, 1, false)), ((40, 0), (0, 1, false)), ((40, 1), (1, 1, false)), ((40, 2), (2, 1, false)), ((40, 3), (3, 1, false)), ((52, 0), (0, 1, false)), ((52, 1), (1, 1, false)), ((52, 2), (2, 1, false)), ((52, 3), (3, 1, false)), ((52, 4), (4, 1, false)), ((52, 5), (5, 1, false)), ((52, 6), (6, 1, false)), ((52, 7), (7, 1, false)), ((52, 8), (8, 1, false)), ((52, 9), (9, 1, false)), ((53, 0), (0, 1, false)), ((53, 1), (1, 1, false)), ((53, 2), (2, 1, false)), ((53, 3), (3, 1, false)), ((53, 4), (4, 1, false)), ((53, 5), (5, 1, false)), ((53, 6), (6, 1, false)), ((53, 7), (7, 1, false)), ((53, 8), (8, 1, false)), ((53, 9), (9, 1, false)), ((77, 0), (0, 1, false)), ((77, 1), (1, 1, false)), ((77, 2), (2, 1, false)), ((78, 0), (0, 1, false)), ((78, 1), (1, 1, false)), ((78, 2), (2, 1, false)), ((83, 0), (0, 1, false)), ((84, 0), (0, 1, false)), ((105, 0), (0, 1, false)), ((105, 1), (1, 1, false)), ((105, 2), (2, 1, false)), ((108, 0), (0, 1, false)), ((108, 1), (1, 1, false)), ((108, 2), (2, 1, false)), ((109, 0), (0, 1, false)), ((109, 1), (1, 1, false)), ((109, 2), (2, 1, false)), ((118, 0), (0, 1, false)), ((119, 0), (0, 1, false))]
  ze := [(2, [.int .i64 (0)]), (3, [.int .i64 (0)]), (4, [.bool false]), (5, [.int .u8 (0)]), (9, [.string .empty]), (12, [.int .u64 (0)]), (13, [.string .empty, .int .u64 (0)]), (21, [.int .i32 (0)]), (22, [.slice none 0 0]), (24, [.slice none 0 0]), (25, [.slice none 0 0]), (26, [.slice none 0 0, .int .i64 (0), .slice none 0 0, .slice none 0 0, .slice none 0 0, .slice none 0 0, .int .i64 (0), .int .i64 (0), .int .i64 (0), .int .i64 (0)]), (27, [.slice none 0 0, .int .i64 (0), .slice none 0 0, .slice none 0 0, .slice none 0 0, .slice none 0 0, .int .i64 (0), .int .i64 (0), .int .i64 (0), .int .i64 (0)]), (36, [.slice none 0 0]), (39, [.slice none 0 0, .int .i64 (0), .int .i64 (0), .int .i64 (0)]), (40, [.slice none 0 0, .int .i64 (0), .int .i64 (0), .int .i64 (0)]), (50, [.slice none 0 0]), (51, [.slice none 0 0]), (52, [.slice none 0 0, .int .i64 (0), .slice none 0 0, .slice none 0 0, .slice none 0 0, .slice none 0 0, .int .i64 (0), .int .i64 (0), .int .i64 (0), .int .i64 (0)]), (53, [.slice none 0 0, .int .i64 (0), .slice none 0 0, .slice none 0 0, .slice none 0 0, .slice none 0 0, .int .i64 (0), .int .i64 (0), .int .i64 (0), .int .i64 (0)]), (70, [.pointer none]), (77, [.int .i64 (0), .int .i64 (0), .int .i64 (0)]), (78, [.int .i64 (0), .int .i64 (0), .int .i64 (0)]), (81, [.pointer none]), (83, [.slice none 0 0]), (84, [.slice none 0 0]), (105, [.int .i64 (0), .int .i64 (0), .int .i64 (0)]), (108, [.slice none 0 0, .int .i64 (0), .int .i64 (0)]), (109, [.slice none 0 0, .int .i64 (0), .int .i64 (0)]), (115, [.slice none 0 0]), (118, [.slice none 0 0]), (119, [.slice none 0 0]), (123, [.int .u64 (0)]), (134, [.int .u32 (0)]), (138, [.pointer none])]
  pl := [(13, [(0, 1), (1, 1)]), (26, [(0, 1), (1, 1), (2, 1), (3, 1), (4, 1), (5, 1), (6, 1), (7, 1), (8, 1), (9, 1)]), (27, [(0, 1), (1, 1), (2, 1), (3, 1), (4, 1), (5, 1), (6, 1), (7, 1), (8, 1), (9, 1)]), (39, [(0, 1), (1, 1), (2, 1), (3, 1)]), (40, [(0, 1), (1, 1), (2, 1), (3, 1)]), (52, [(0, 1), (1, 1), (2, 1), (3, 1), (4, 1), (5, 1), (6, 1), (7, 1), (8, 1), (9, 1)]), (53, [(0, 1), (1, 1), (2, 1), (3, 1), (4, 1), (5, 1), (6, 1), (7, 1), (8, 1), (9, 1)]), (77, [(0, 1), (1, 1), (2, 1)]), (78, [(0, 1), (1, 1), (2, 1)]), (83, [(0, 1)]), (84, [(0, 1)]), (105, [(0, 1), (1, 1), (2, 1)]), (108, [(0, 1), (1, 1), (2, 1)]), (109, [(0, 1), (1, 1), (2, 1)]), (118, [(0, 1)]), (119, [(0, 1)])]
  sl := [(22, (5, 1, 1)), (24, (78, 3, 24)), (25, (84, 1, 24)), (36, (3, 1, 8)), (50, (105, 3, 24)), (51, (119, 1, 24)), (115, (24, 1, 24))]
  ik := [(2, .i64), (3, .i64), (5, .u8), (12, .u64), (21, .i32), (123, .u64), (134, .u32)]
  str := [9]
  bl := [4]
instance : TabC Go.Proofs.Try.prog tab := ⟨{ ag := zd ag13 (zd ag26 (zd ag27 (zd ag39 (zd ag40 (zd ag52 (zd ag53 (zd ag77 (zd ag78 (zd ag83 (zd ag84 (zd dh (zd dg (zd df (zd de (zd dd (vC)))))))))))))))), sc := zd sc2 (zd sc3 (zd sc4 (zd sc5 (zd sc9 (zd sc12 (zd sc21 (zd sc22 (zd sc24 (zd sc25 (zd sc36 (zd sc50 (zd sc51 (zd sc70 (zd sc81 (zd dE (zd dD (zd dC (zd dB (vC))))))))))))))))))), fd := zd gk (zd gj (zd gi (zd gh (zd gg (zd gf (zd ge (zd gd (zd gc (zd gb (zd ga (zd gZ (zd gY (zd gX (zd gW (zd gV (zd gU (zd gT (zd gS (zd gR (zd gQ (zd gP (zd gO (zd gN (zd gL (zd gK (zd gJ (zd gI (zd gH (zd gG (zd gF (zd gE (zd gD (zd gC (zd gB (zd gA (zd hQ (zd hM (zd hF (zd j9 (zd j8 (zd j7 (zd jz (zd jy (zd ju (zd jt (zd js (zd jq (zd jp (zd jo (zd jn (zd jm (zd jj (zd ji (zd jh (zd jg (zd jf (zd je (zd lO (zd lN (zd lM (zd lL (zd lK (zd lJ (zd lI (zd lH (zd lG (zd lF (zd lE (vC))))))))))))))))))))))))))))))))))))))))))))))))))))))))))))))))))))), ze := zd ze2 (zd ze3 (zd ze4 (zd ze5 (zd ze9 (zd ze12 (zd ze13 (zd ze21 (zd ze22 (zd ze24 (zd ze25 (zd ze26 (zd ze27 (zd ze36 (zd ze39 (zd ze40 (zd ze50 (zd ze51 (zd ze52 (zd ze53 (zd ze70 (zd ze77 (zd ze78 (zd ze81 (zd ze83 (zd ze84 (zd eu (zd et (zd eq (zd eo (zd el (zd ek (zd eg (zd ef (zd eZ (vC))))))))))))))))))))))))))))))))))), pl := zd pl13 (zd pl26 (zd pl27 (zd pl39 (zd pl40 (zd pl52 (zd pl53 (zd pl77 (zd pl78 (zd pl83 (zd pl84 (zd dK (zd dJ (zd dI (zd dH (zd dG (vC)))))))))))))))), sl := zd sl22 (zd sl24 (zd sl25 (zd sl36 (zd sl50 (zd sl51 (zd dA (vC))))))), ik := zd ik2 (zd ik3 (zd ik5 (zd ik12 (zd ik21 (zd dS (zd dR (vC))))))), str := zd str9 (vC), bl := zd bl4 (vC) }, by kernel_rfl⟩
instance : Ent Go.Proofs.Try.prog 3 := zt Go.Proofs.Try.func3 rfl (by decide)
instance : Ent Go.Proofs.Try.prog 4 := zt Go.Proofs.Try.func4 rfl (by decide)
instance : Ent Go.Proofs.Try.prog 5 := zt Go.Proofs.Try.func5 rfl (by decide)
instance : Ent Go.Proofs.Try.prog 6 := zt Go.Proofs.Try.func6 rfl (by decide)
instance : Ent Go.Proofs.Try.prog 7 := zt Go.Proofs.Try.func7 rfl (by decide)
instance : Ent Go.Proofs.Try.prog 8 := zt Go.Proofs.Try.func8 rfl (by decide)
instance : Ent Go.Proofs.Try.prog 9 := zt Go.Proofs.Try.func9 rfl (by decide)
instance : Ent Go.Proofs.Try.prog 10 := zt Go.Proofs.Try.func10 rfl (by decide)
instance : Ent Go.Proofs.Try.prog 11 := zt Go.Proofs.Try.func11 rfl (by decide)
instance : Ent Go.Proofs.Try.prog 12 := zt Go.Proofs.Try.func12 rfl (by decide)
instance : Ent Go.Proofs.Try.prog 13 := zt Go.Proofs.Try.func13 rfl (by decide)
instance : Ent Go.Proofs.Try.prog 14 := zt Go.Proofs.Try.func14 rfl (by decide)
instance : Ent Go.Proofs.Try.prog 15 := zt Go.Proofs.Try.func15 rfl (by decide)
instance : Ent Go.Proofs.Try.prog 16 := zt Go.Proofs.Try.func16 rfl (by decide)
instance : Ent Go.Proofs.Try.prog 17 := zt Go.Proofs.Try.func17 rfl (by decide)
instance : Ent Go.Proofs.Try.prog 18 := zt Go.Proofs.Try.func18 rfl (by decide)
instance : Ent Go.Proofs.Try.prog 19 := zt Go.Proofs.Try.func19 rfl (by decide)
instance : Ent Go.Proofs.Try.prog 20 := zt Go.Proofs.Try.func20 rfl (by decide)
instance : Ent Go.Proofs.Try.prog 21 := zt Go.Proofs.Try.func21 rfl (by decide)
instance : Ent Go.Proofs.Try.prog 22 := zt Go.Proofs.Try.func22 rfl (by decide)
instance : Ent Go.Proofs.Try.prog 23 := zt Go.Proofs.Try.func23 rfl (by decide)
instance : Ent Go.Proofs.Try.prog 24 := zt Go.Proofs.Try.func24 rfl (by decide)
instance : Ent Go.Proofs.Try.prog 25 := zt Go.Proofs.Try.func25 rfl (by decide)
instance : Ent Go.Proofs.Try.prog 26 := zt Go.Proofs.Try.func26 rfl (by decide)
instance : Ent Go.Proofs.Try.prog 27 := zt Go.Proofs.Try.func27 rfl (by decide)
instance : Ent Go.Proofs.Try.prog 28 := zt Go.Proofs.Try.func28 rfl (by decide)
instance : Ent Go.Proofs.Try.prog 29 := zt Go.Proofs.Try.func29 rfl (by decide)
instance : Ent Go.Proofs.Try.prog 30 := zt Go.Proofs.Try.func30 rfl (by decide)
instance : Ent Go.Proofs.Try.prog 31 := zt Go.Proofs.Try.func31 rfl (by decide)
instance : Ent Go.Proofs.Try.prog 32 := zt Go.Proofs.Try.func32 rfl (by decide)
instance : Ent Go.Proofs.Try.prog 33 := zt Go.Proofs.Try.func33 rfl (by decide)
instance : Ent Go.Proofs.Try.prog 34 := zt Go.Proofs.Try.func34 rfl (by decide)
instance : Ent Go.Proofs.Try.prog 35 := zt Go.Proofs.Try.func35 rfl (by decide)
instance : Ent Go.Proofs.Try.prog 36 := zt Go.Proofs.Try.func36 rfl (by decide)
instance : Ent Go.Proofs.Try.prog 37 := zt Go.Proofs.Try.func37 rfl (by decide)
instance : Ent Go.Proofs.Try.prog 38 := zt Go.Proofs.Try.func38 rfl (by decide)
instance : Ent Go.Proofs.Try.prog 39 := zt Go.Proofs.Try.func39 rfl (by decide)
instance : Ent Go.Proofs.Try.prog 40 := zt Go.Proofs.Try.func40 rfl (by decide)
instance : Ent Go.Proofs.Try.prog 41 := zt Go.Proofs.Try.func41 rfl (by decide)
instance : Ent Go.Proofs.Try.prog 42 := zt Go.Proofs.Try.func42 rfl (by decide)
instance : Ent Go.Proofs.Try.prog 43 := zt Go.Proofs.Try.func43 rfl (by decide)
instance : Ent Go.Proofs.Try.prog 44 := zt Go.Proofs.Try.func44 rfl (by decide)
instance : Ent Go.Proofs.Try.prog 45 := zt Go.Proofs.Try.func45 rfl (by decide)
instance : Ent Go.Proofs.Try.prog 46 := zt Go.Proofs.Try.func46 rfl (by decide)
instance : Ent Go.Proofs.Try.prog 47 := zt Go.Proofs.Try.func47 rfl (by decide)
instance : Ent Go.Proofs.Try.prog 48 := zt Go.Proofs.Try.func48 rfl (by decide)
instance : Ent Go.Proofs.Try.prog 49 := zt Go.Proofs.Try.func49 rfl (by decide)
instance : Ent Go.Proofs.Try.prog 50 := zt Go.Proofs.Try.func50 rfl (by decide)
instance : Ent Go.Proofs.Try.prog 51 := zt Go.Proofs.Try.func51 rfl (by decide)
instance : Ent Go.Proofs.Try.prog 52 := zt Go.Proofs.Try.func52 rfl (by decide)
instance : Ent Go.Proofs.Try.prog 53 := zt Go.Proofs.Try.func53 rfl (by decide)
instance : Ent Go.Proofs.Try.prog 54 := zt Go.Proofs.Try.func54 rfl (by decide)
instance : Ent Go.Proofs.Try.prog 55 := zt Go.Proofs.Try.func55 rfl (by decide)
instance : Ent Go.Proofs.Try.prog 56 := zt Go.Proofs.Try.func56 rfl (by decide)
instance : Ent Go.Proofs.Try.prog 57 := zt Go.Proofs.Try.func57 rfl (by decide)
instance : Ent Go.Proofs.Try.prog 58 := zt Go.Proofs.Try.func58 rfl (by decide)
instance : Ent Go.Proofs.Try.prog 59 := zt Go.Proofs.Try.func59 rfl (by decide)
instance : Ent Go.Proofs.Try.prog 60 := zt Go.Proofs.Try.func60 rfl (by decide)
instance : Ent Go.Proofs.Try.prog 61 := zt Go.Proofs.Try.func61 rfl (by decide)
instance : Ent Go.Proofs.Try.prog 62 := zt Go.Proofs.Try.func62 rfl (by decide)
instance : Ent Go.Proofs.Try.prog 63 := zt Go.Proofs.Try.func63 rfl (by decide)
instance : Ent Go.Proofs.Try.prog 64 := zt Go.Proofs.Try.func64 rfl (by decide)
instance : Ent Go.Proofs.Try.prog 65 := zt Go.Proofs.Try.func65 rfl (by decide)
instance : Ent Go.Proofs.Try.prog 66 := zt Go.Proofs.Try.func66 rfl (by decide)
instance : Ent Go.Proofs.Try.prog 67 := zt Go.Proofs.Try.func67 rfl (by decide)
instance : Ent Go.Proofs.Try.prog 68 := zt Go.Proofs.Try.func68 rfl (by decide)
instance : Ent Go.Proofs.Try.prog 69 := zt Go.Proofs.Try.func69 rfl (by decide)
instance : Ent Go.Proofs.Try.prog 70 := zt Go.Proofs.Try.func70 rfl (by decide)
instance : Ent Go.Proofs.Try.prog 71 := zt Go.Proofs.Try.func71 rfl (by decide)
instance : Ent Go.Proofs.Try.prog 72 := zt Go.Proofs.Try.func72 rfl (by decide)
instance : Ent Go.Proofs.Try.prog 73 := zt Go.Proofs.Try.func73 rfl (by decide)
instance : Ent Go.Proofs.Try.prog 74 := zt Go.Proofs.Try.func74 rfl (by decide)
instance : Ent Go.Proofs.Try.prog 75 := zt Go.Proofs.Try.func75 rfl (by decide)
instance : Ent Go.Proofs.Try.prog 76 := zt Go.Proofs.Try.func76 rfl (by decide)
instance : Ent Go.Proofs.Try.prog 77 := zt Go.Proofs.Try.func77 rfl (by decide)
instance : Ent Go.Proofs.Try.prog 78 := zt Go.Proofs.Try.func78 rfl (by decide)
instance : Ent Go.Proofs.Try.prog 79 := zt Go.Proofs.Try.func79 rfl (by decide)
instance : Ent Go.Proofs.Try.prog 80 := zt Go.Proofs.Try.func80 rfl (by decide)
instance : Ent Go.Proofs.Try.prog 81 := zt Go.Proofs.Try.func81 rfl (by decide)
instance : Ent Go.Proofs.Try.prog 82 := zt Go.Proofs.Try.func82 rfl (by decide)
instance : Ent Go.Proofs.Try.prog 83 := zt Go.Proofs.Try.func83 rfl (by decide)
instance : Ent Go.Proofs.Try.prog 84 := zt Go.Proofs.Try.func84 rfl (by decide)
instance : Ent Go.Proofs.Try.prog 85 := zt Go.Proofs.Try.func85 rfl (by decide)
instance : Ent Go.Proofs.Try.prog 86 := zt Go.Proofs.Try.func86 rfl (by decide)
instance : Ent Go.Proofs.Try.prog 87 := zt Go.Proofs.Try.func87 rfl (by decide)
instance : Ent Go.Proofs.Try.prog 88 := zt Go.Proofs.Try.func88 rfl (by decide)
instance : Ent Go.Proofs.Try.prog 89 := zt Go.Proofs.Try.func89 rfl (by decide)
instance : Ent Go.Proofs.Try.prog 90 := zt Go.Proofs.Try.func90 rfl (by decide)
instance : Ent Go.Proofs.Try.prog 91 := zt Go.Proofs.Try.func91 rfl (by decide)
instance : Ent Go.Proofs.Try.prog 92 := zt Go.Proofs.Try.func92 rfl (by decide)
instance : Ent Go.Proofs.Try.prog 93 := zt Go.Proofs.Try.func93 rfl (by decide)
instance : Ent Go.Proofs.Try.prog 94 := zt Go.Proofs.Try.func94 rfl (by decide)
instance : Ent Go.Proofs.Try.prog 95 := zt Go.Proofs.Try.func95 rfl (by decide)
instance : Ent Go.Proofs.Try.prog 96 := zt Go.Proofs.Try.func96 rfl (by decide)
instance : Ent Go.Proofs.Try.prog 97 := zt Go.Proofs.Try.func97 rfl (by decide)
instance : Ent Go.Proofs.Try.prog 98 := zt Go.Proofs.Try.func98 rfl (by decide)
instance : Ent Go.Proofs.Try.prog 99 := zt Go.Proofs.Try.func99 rfl (by decide)
instance : Ent Go.Proofs.Try.prog 100 := zt Go.Proofs.Try.func100 rfl (by decide)
instance : Ent Go.Proofs.Try.prog 101 := zt Go.Proofs.Try.func101 rfl (by decide)
instance : Ent Go.Proofs.Try.prog 102 := zt Go.Proofs.Try.func102 rfl (by decide)
instance : Ent Go.Proofs.Try.prog 103 := zt Go.Proofs.Try.func103 rfl (by decide)
instance : Ent Go.Proofs.Try.prog 104 := zt Go.Proofs.Try.func104 rfl (by decide)
instance : Ent Go.Proofs.Try.prog 105 := zt Go.Proofs.Try.func105 rfl (by decide)
instance : Ent Go.Proofs.Try.prog 106 := zt Go.Proofs.Try.func106 rfl (by decide)
instance : Ent Go.Proofs.Try.prog 107 := zt Go.Proofs.Try.func107 rfl (by decide)
instance : Ent Go.Proofs.Try.prog 108 := zt Go.Proofs.Try.func108 rfl (by decide)
instance : Ent Go.Proofs.Try.prog 109 := zt Go.Proofs.Try.func109 rfl (by decide)
instance : Ent Go.Proofs.Try.prog 110 := zt Go.Proofs.Try.func110 rfl (by decide)
instance : Ent Go.Proofs.Try.prog 111 := zt Go.Proofs.Try.func111 rfl (by decide)
instance : Ent Go.Proofs.Try.prog 112 := zt Go.Proofs.Try.func112 rfl (by decide)
instance : Ent Go.Proofs.Try.prog 113 := zt Go.Proofs.Try.func113 rfl (by decide)
instance : Ent Go.Proofs.Try.prog 114 := zt Go.Proofs.Try.func114 rfl (by decide)
instance : Ent Go.Proofs.Try.prog 115 := zt Go.Proofs.Try.func115 rfl (by decide)
instance : Ent Go.Proofs.Try.prog 116 := zt Go.Proofs.Try.func116 rfl (by decide)
instance : Ent Go.Proofs.Try.prog 117 := zt Go.Proofs.Try.func117 rfl (by decide)
instance : Ent Go.Proofs.Try.prog 118 := zt Go.Proofs.Try.func118 rfl (by decide)
instance : Ent Go.Proofs.Try.prog 119 := zt Go.Proofs.Try.func119 rfl (by decide)
instance : Ent Go.Proofs.Try.prog 120 := zt Go.Proofs.Try.func120 rfl (by decide)
instance : Ent Go.Proofs.Try.prog 121 := zt Go.Proofs.Try.func121 rfl (by decide)
instance : Ent Go.Proofs.Try.prog 122 := zt Go.Proofs.Try.func122 rfl (by decide)
instance : Ent Go.Proofs.Try.prog 123 := zt Go.Proofs.Try.func123 rfl (by decide)
instance : Ent Go.Proofs.Try.prog 124 := zt Go.Proofs.Try.func124 rfl (by decide)
instance : Ent Go.Proofs.Try.prog 125 := zt Go.Proofs.Try.func125 rfl (by decide)
instance : Ent Go.Proofs.Try.prog 126 := zt Go.Proofs.Try.func126 rfl (by decide)
instance : Ent Go.Proofs.Try.prog 127 := zt Go.Proofs.Try.func127 rfl (by decide)
instance : Ent Go.Proofs.Try.prog 128 := zt Go.Proofs.Try.func128 rfl (by decide)
instance : Ent Go.Proofs.Try.prog 129 := zt Go.Proofs.Try.func129 rfl (by decide)
instance : Ent Go.Proofs.Try.prog 130 := zt Go.Proofs.Try.func130 rfl (by decide)
instance : Ent Go.Proofs.Try.prog 131 := zt Go.Proofs.Try.func131 rfl (by decide)
instance : Ent Go.Proofs.Try.prog 132 := zt Go.Proofs.Try.func132 rfl (by decide)
instance : Ent Go.Proofs.Try.prog 133 := zt Go.Proofs.Try.func133 rfl (by decide)
end Go.Proofs.Ytojcojanokhnaaa.Ab
namespace Go.Proofs.Ytojcojanokhnaaa.Ab
open Go.RowKit
structure Rw where
  a : Int
  b : Int
  c : Int
def rwE (r : Rw) : List V := [I r.a, I r.b, I r.c]
def rwT : Ty Rw := ⟨3, rwE, fun _ => rfl, by decide, fun r c hc => by
  simp only [rwE, List.mem_cons, List.not_mem_nil, or_false] at hc
  rcases hc with rfl | rfl | rfl <;> exact ⟨rfl, rfl⟩⟩
abbrev rwL (xs : List Rw) : V := xf rwT xs
abbrev rwR (xs : List Rw) : Reg := yV rwT 78 xs
def szL (n : Nat) (left : Int) : Int := cond (decide (IntKind.i64.wrap (left - n) < 0)) (-1) (IntKind.i64.wrap (left - n))
theorem nf (xs : List Rw) (left : Int) : zy Go.Proofs.Try.prog 40 [rwL xs, I left] [] (I (szL xs.length left)) [] false := by
  refine zw [4] Go.Proofs.Try.func40 rfl rfl ?_
  simp only [Go.Proofs.Try.ntmps40, List.length_cons, List.length_nil, Nat.reduceAdd, Nat.reduceSub, List.replicate_succ, List.replicate_zero, List.cons_append, List.nil_append]
  repeat' first | refine zL ?_ | refine zA ?_ | refine zQ [] ?_ | (refine isA ?_; refine zf rfl ?_) | (refine isL ?_; refine zV rfl (by kernel_rfl) rfl rfl ?_) | (refine zc rfl ?_; refine zU rfl (by kernel_rfl) rfl rfl ?_) | refine zh rfl (fun _ => ?_) (fun _ => ?_) | (refine yJ rfl rfl ?_; simp only [szL, *, cond_true, cond_false]; done) | refine zD ?_ | refine zB _ rfl (by kernel_rfl) ?_ | refine zW rfl ?_ | refine zX rfl ?_ | refine zC ?_ | with_reducible refine zO ?_ | refine zI ?_ | refine zJ ?_ | (with_reducible first | refine zM ?_ | refine zN ?_ | refine zF ?_ | refine zH ?_ | refine zG ?_) | refine zP ?_
theorem sF (c : Rw) : zy Go.Proofs.Try.prog 106 [.agg (rwE c)] [] (.agg (rwE c)) [] true := by
  refine wa 2 78 Go.Proofs.Try.func106 rfl rfl ?_
  simp only [Go.Proofs.Try.ntmps106, List.length_cons, List.length_nil, Nat.reduceAdd, Nat.reduceSub, List.replicate_succ, List.replicate_zero, List.cons_append, List.nil_append]
  repeat' first | refine zL ?_ | refine zA ?_ | refine zQ [] ?_ | (refine isA ?_; refine zf rfl ?_) | (refine isL ?_; refine zV rfl (by kernel_rfl) rfl rfl ?_) | (refine zc rfl ?_; refine zU rfl (by kernel_rfl) rfl rfl ?_) | exact finC (yU rfl rfl rfl rfl rfl) (.same rfl) | refine zD ?_ | refine zB _ rfl (by kernel_rfl) ?_ | refine zW rfl ?_ | refine zX rfl ?_ | refine zC ?_ | with_reducible refine zO ?_ | refine zI ?_ | refine zJ ?_ | (with_reducible first | refine zM ?_ | refine zN ?_ | refine zF ?_ | refine zH ?_ | refine zG ?_) | refine zP ?_
def z3 : Rw := ⟨0, 0, 0⟩
theorem xX (xs : List Rw) (hl : xs.length ≤ 1000000000) : zy Go.Proofs.Try.prog 41 [rwL xs] [] (rwL xs) [] true := by
  refine zw [2] Go.Proofs.Try.func41 rfl rfl ?_
  simp only [Go.Proofs.Try.ntmps41, List.length_cons, List.length_nil, Nat.reduceAdd, Nat.reduceSub, List.replicate_succ, List.replicate_zero, List.cons_append, List.nil_append]
  repeat' first | refine zL ?_ | refine zA ?_ | refine zQ [] ?_ | (refine isA ?_; refine zf rfl ?_) | (refine isL ?_; refine zV rfl (by kernel_rfl) rfl rfl ?_) | (refine zc rfl ?_; refine zU rfl (by kernel_rfl) rfl rfl ?_) | refine za rfl (kC rwT z3 rfl rfl rfl hl rfl rfl rfl) rfl ?_ | refine zT rfl (by kernel_rfl) rfl (kC rwT z3 rfl rfl rfl hl rfl rfl rfl) rfl ?_ | refine zD ?_ | refine zB _ rfl (by kernel_rfl) ?_ | refine zW rfl ?_ | refine zX rfl ?_ | refine zC ?_ | with_reducible refine zO ?_ | refine zI ?_ | refine zJ ?_ | (with_reducible first | refine zM ?_ | refine zN ?_ | refine zF ?_ | refine zH ?_ | refine zG ?_) | refine zP ?_
  refine z9 (α := { i : Nat // i ≤ xs.length }) (fun i => ⟨[rwL xs, .any, .any, .sl 0 0 xs.length, I i.1, .any, .any, .any, .any, .any, .any, .any, .any, .any, .any, .any, .any, .any, .any, .any, .any, .any, .any], [yV rwT 78 (xs.take i.1 ++ List.replicate (xs.length - i.1) z3)], 0⟩) (fun i => xs.length - i.1) ⟨0, Nat.zero_le _⟩ ?_ ?_
  · exact yW [0] rfl rfl (by decide) (.cons rfl rfl rfl rfl (zY (zE _ _)) .nil) (by repeat' first | exact zj | refine zZ ?_ ?_ | exact zp | exact le_refl rfl | exact zm rfl rfl | exact zu rfl)
  · rintro ⟨i, hi⟩
    repeat' first | refine zL ?_ | refine zA ?_ | refine zQ [] ?_ | (refine isA ?_; refine zf rfl ?_) | (refine isL ?_; refine zV rfl (by kernel_rfl) rfl rfl ?_) | (refine zc rfl ?_; refine zU rfl (by kernel_rfl) rfl rfl ?_) | refine zD ?_ | refine zB _ rfl (by kernel_rfl) ?_ | refine zW rfl ?_ | refine zX rfl ?_ | refine zC ?_ | with_reducible refine zO ?_ | refine zI ?_ | refine zJ ?_ | (with_reducible first | refine zM ?_ | refine zN ?_ | refine zF ?_ | refine zH ?_ | refine zG ?_) | refine zP ?_
    refine zh rfl (fun h => ?_) (fun h => ?_)
    · have hlt : i < xs.length := by simpa using h
      obtain ⟨z, hz⟩ : ∃ z, xs[i]? = some z := ⟨_, List.getElem?_eq_getElem hlt⟩
      repeat' first | refine zL ?_ | refine zA ?_ | refine zQ [] ?_ | (refine isA ?_; refine zf rfl ?_) | (refine isL ?_; refine zV rfl (by kernel_rfl) rfl rfl ?_) | (refine zc rfl ?_; refine zU rfl (by kernel_rfl) rfl rfl ?_) | refine za rfl (zz (z := z) rfl rfl rfl rfl (Int.natCast_nonneg _) hz) rfl ?_ | refine zT rfl (by kernel_rfl) rfl (zz (z := z) rfl rfl rfl rfl (Int.natCast_nonneg _) hz) rfl ?_ | refine za rfl (zK rfl (sF _) (.cons (.same rfl) .nil) rfl) rfl ?_ | refine zT rfl (by kernel_rfl) rfl (zK rfl (sF _) (.cons (.same rfl) .nil) rfl) rfl ?_ | refine za rfl (zo rfl rfl rfl (Nat.zero_le _) rfl rfl (Int.natCast_nonneg _) (by simpa using hlt)) rfl ?_ | refine zT rfl (by kernel_rfl) rfl (zo rfl rfl rfl (Nat.zero_le _) rfl rfl (Int.natCast_nonneg _) (by simpa using hlt)) rfl ?_ | refine za rfl (vt rfl rfl rfl rfl rfl (by simp; omega)) rfl ?_ | refine zT rfl (by kernel_rfl) rfl (vt rfl rfl rfl rfl rfl (by simp; omega)) rfl ?_ | refine zD ?_ | refine zB _ rfl (by kernel_rfl) ?_ | refine zW rfl ?_ | refine zX rfl ?_ | refine zC ?_ | with_reducible refine zO ?_ | refine zI ?_ | refine zJ ?_ | (with_reducible first | refine zM ?_ | refine zN ?_ | refine zF ?_ | refine zH ?_ | refine zG ?_) | refine zP ?_
      refine ⟨⟨i + 1, hlt⟩, by simp only; omega, ?_⟩
      exact yW [0] rfl rfl (by decide) (.cons rfl rfl rfl rfl (yd (by rw [Nat.zero_add]; exact congrArg rwT.flat (te (xs := xs) hz rfl)) (zE _ _)) .nil) (by repeat' first | exact zj | refine zZ ?_ ?_ | exact zp | exact le_refl rfl | exact zm rfl rfl | exact zu rfl | exact xL (by assumption) (by omega))
    · have hge : i = xs.length := by
        have : ¬ ((i : Int) < xs.length) := by simpa using h
        omega
      subst hge
      repeat' first | refine zL ?_ | refine zA ?_ | refine zQ [] ?_ | (refine isA ?_; refine zf rfl ?_) | (refine isL ?_; refine zV rfl (by kernel_rfl) rfl rfl ?_) | (refine zc rfl ?_; refine zU rfl (by kernel_rfl) rfl rfl ?_) | exact eD rfl (dF rfl rfl (by simp) rfl) | refine zD ?_ | refine zB _ rfl (by kernel_rfl) ?_ | refine zW rfl ?_ | refine zX rfl ?_ | refine zC ?_ | with_reducible refine zO ?_ | refine zI ?_ | refine zJ ?_ | (with_reducible first | refine zM ?_ | refine zN ?_ | refine zF ?_ | refine zH ?_ | refine zG ?_) | refine zP ?_
def eqC (x y : Rw) : Bool := bif !(decide (x.a = y.a)) then false else bif !(decide (x.b = y.b)) then false else bif !(decide (x.c = y.c)) then false else true
theorem gm (x : Rw) : eqC x x = true := by simp [eqC]
theorem eT (x y : Rw) : zy Go.Proofs.Try.prog 107 [.agg (rwE x), .agg (rwE y)] [] (B (eqC x y)) [] false := by
  refine zw [4] Go.Proofs.Try.func107 rfl rfl ?_
  simp only [Go.Proofs.Try.ntmps107, List.length_cons, List.length_nil, Nat.reduceAdd, Nat.reduceSub, List.replicate_succ, List.replicate_zero, List.cons_append, List.nil_append]
  repeat' first | refine zL ?_ | refine zA ?_ | refine zQ [] ?_ | (refine isA ?_; refine zf rfl ?_) | (refine isL ?_; refine zV rfl (by kernel_rfl) rfl rfl ?_) | (refine zc rfl ?_; refine zU rfl (by kernel_rfl) rfl rfl ?_) | refine zh rfl (fun _ => ?_) (fun _ => ?_) | (refine yJ rfl rfl ?_; simp only [eqC, *, cond_true, cond_false]; done) | refine zD ?_ | refine zB _ rfl (by kernel_rfl) ?_ | refine zW rfl ?_ | refine zX rfl ?_ | refine zC ?_ | with_reducible refine zO ?_ | refine zI ?_ | refine zJ ?_ | (with_reducible first | refine zM ?_ | refine zN ?_ | refine zF ?_ | refine zH ?_ | refine zG ?_) | refine zP ?_
def eqL : List Rw → List Rw → Bool
  | [], [] => true
  | x :: xs, y :: ys => eqC x y && eqL xs ys
  | _, _ => false
theorem nj (x : Rw) : zy Go.Proofs.Try.prog 107 [.agg (rwE x), .agg (rwE x)] [] (B true) [] false := by
  have := eT x x
  rwa [gm] at this
theorem xP (xs : List Rw) (hl : xs.length ≤ 1000000000) : zy Go.Proofs.Try.prog 44 [rwL xs, rwL xs] [] (B true) [] false := by
  refine zw [4] Go.Proofs.Try.func44 rfl rfl ?_
  simp only [Go.Proofs.Try.ntmps44, List.length_cons, List.length_nil, Nat.reduceAdd, Nat.reduceSub, List.replicate_succ, List.replicate_zero, List.cons_append, List.nil_append]
  repeat' first | refine zL ?_ | refine zA ?_ | refine zQ [] ?_ | (refine isA ?_; refine zf rfl ?_) | (refine isL ?_; refine zV rfl (by kernel_rfl) rfl rfl ?_) | (refine zc rfl ?_; refine zU rfl (by kernel_rfl) rfl rfl ?_) | refine zD ?_ | refine zB _ rfl (by kernel_rfl) ?_ | refine zW rfl ?_ | refine zX rfl ?_ | refine zC ?_ | with_reducible refine zO ?_ | refine zI ?_ | refine zJ ?_ | (with_reducible first | refine zM ?_ | refine zN ?_ | refine zF ?_ | refine zH ?_ | refine zG ?_) | refine zP ?_
  refine zh rfl (fun h => by simp at h) (fun _ => ?_)
  repeat' first | refine zL ?_ | refine zA ?_ | refine zQ [] ?_ | (refine isA ?_; refine zf rfl ?_) | (refine isL ?_; refine zV rfl (by kernel_rfl) rfl rfl ?_) | (refine zc rfl ?_; refine zU rfl (by kernel_rfl) rfl rfl ?_) | refine zD ?_ | refine zB _ rfl (by kernel_rfl) ?_ | refine zW rfl ?_ | refine zX rfl ?_ | refine zC ?_ | with_reducible refine zO ?_ | refine zI ?_ | refine zJ ?_ | (with_reducible first | refine zM ?_ | refine zN ?_ | refine zF ?_ | refine zH ?_ | refine zG ?_) | refine zP ?_
  refine z9 (α := { i : Nat // i ≤ xs.length }) (fun i => ⟨[rwL xs, rwL xs, .any, .any, .any, I i.1, .any, .any, .any, .any, .any, .any, .any, .any, .any, .any, .any, .any, .any, .any, .any, .any, .any, .any, .any, .any, .any], [], 0⟩) (fun i => xs.length - i.1) ⟨0, Nat.zero_le _⟩ ?_ ?_
  · exact yW [] rfl rfl (by decide) .nil (by repeat' first | exact zj | refine zZ ?_ ?_ | exact zp | exact le_refl rfl | exact zm rfl rfl | exact zu rfl)
  · rintro ⟨i, hi⟩
    repeat' first | refine zL ?_ | refine zA ?_ | refine zQ [] ?_ | (refine isA ?_; refine zf rfl ?_) | (refine isL ?_; refine zV rfl (by kernel_rfl) rfl rfl ?_) | (refine zc rfl ?_; refine zU rfl (by kernel_rfl) rfl rfl ?_) | refine zD ?_ | refine zB _ rfl (by kernel_rfl) ?_ | refine zW rfl ?_ | refine zX rfl ?_ | refine zC ?_ | with_reducible refine zO ?_ | refine zI ?_ | refine zJ ?_ | (with_reducible first | refine zM ?_ | refine zN ?_ | refine zF ?_ | refine zH ?_ | refine zG ?_) | refine zP ?_
    refine zh rfl (fun h => ?_) (fun h => ?_)
    · have hlt : i < xs.length := by simpa using h
      obtain ⟨z, hz⟩ : ∃ z, xs[i]? = some z := ⟨_, List.getElem?_eq_getElem hlt⟩
      repeat' first | refine zL ?_ | refine zA ?_ | refine zQ [] ?_ | (refine isA ?_; refine zf rfl ?_) | (refine isL ?_; refine zV rfl (by kernel_rfl) rfl rfl ?_) | (refine zc rfl ?_; refine zU rfl (by kernel_rfl) rfl rfl ?_) | refine za rfl (zz (z := z) rfl rfl rfl rfl (Int.natCast_nonneg _) hz) rfl ?_ | refine zT rfl (by kernel_rfl) rfl (zz (z := z) rfl rfl rfl rfl (Int.natCast_nonneg _) hz) rfl ?_ | refine za rfl (zK rfl (nj _) (.cons (.same rfl) (.cons (.same rfl) .nil)) rfl) rfl ?_ | refine zT rfl (by kernel_rfl) rfl (zK rfl (nj _) (.cons (.same rfl) (.cons (.same rfl) .nil)) rfl) rfl ?_ | refine zD ?_ | refine zB _ rfl (by kernel_rfl) ?_ | refine zW rfl ?_ | refine zX rfl ?_ | refine zC ?_ | with_reducible refine zO ?_ | refine zI ?_ | refine zJ ?_ | (with_reducible first | refine zM ?_ | refine zN ?_ | refine zF ?_ | refine zH ?_ | refine zG ?_) | refine zP ?_
      refine ⟨⟨i + 1, hlt⟩, by simp only; omega, ?_⟩
      exact yW [] rfl rfl (by decide) .nil (by repeat' first | exact zj | refine zZ ?_ ?_ | exact zp | exact le_refl rfl | exact zm rfl rfl | exact zu rfl | exact xL (by assumption) (by omega))
    · repeat' first | refine zL ?_ | refine zA ?_ | refine zQ [] ?_ | (refine isA ?_; refine zf rfl ?_) | (refine isL ?_; refine zV rfl (by kernel_rfl) rfl rfl ?_) | (refine zc rfl ?_; refine zU rfl (by kernel_rfl) rfl rfl ?_) | exact yJ rfl rfl rfl | refine zD ?_ | refine zB _ rfl (by kernel_rfl) ?_ | refine zW rfl ?_ | refine zX rfl ?_ | refine zC ?_ | with_reducible refine zO ?_ | refine zI ?_ | refine zJ ?_ | (with_reducible first | refine zM ?_ | refine zN ?_ | refine zF ?_ | refine zH ?_ | refine zG ?_) | refine zP ?_
theorem xu (xs : List Rw) : qC (rwT.flat xs) := fun c hc => by
  simp only [Ty.flat, List.mem_flatMap] at hc
  obtain ⟨x, _, hx⟩ := hc
  simp only [rwT, rwE, List.mem_cons, List.not_mem_nil, or_false] at hx
  rcases hx with rfl | rfl | rfl <;> exact ⟨_, rfl⟩
theorem xK (xs : List Rw) (hl : xs.length ≤ 1000000000) : zy Go.Proofs.Try.prog 41 [rwL xs] [] (.sl 0 0 xs.length) [yV rwT 78 xs] true := by
  refine zw [2] Go.Proofs.Try.func41 rfl rfl ?_
  simp only [Go.Proofs.Try.ntmps41, List.length_cons, List.length_nil, Nat.reduceAdd, Nat.reduceSub, List.replicate_succ, List.replicate_zero, List.cons_append, List.nil_append]
  repeat' first | refine zL ?_ | refine zA ?_ | refine zQ [] ?_ | (refine isA ?_; refine zf rfl ?_) | (refine isL ?_; refine zV rfl (by kernel_rfl) rfl rfl ?_) | (refine zc rfl ?_; refine zU rfl (by kernel_rfl) rfl rfl ?_) | refine za rfl (kC rwT z3 rfl rfl rfl hl rfl rfl rfl) rfl ?_ | refine zT rfl (by kernel_rfl) rfl (kC rwT z3 rfl rfl rfl hl rfl rfl rfl) rfl ?_ | refine zD ?_ | refine zB _ rfl (by kernel_rfl) ?_ | refine zW rfl ?_ | refine zX rfl ?_ | refine zC ?_ | with_reducible refine zO ?_ | refine zI ?_ | refine zJ ?_ | (with_reducible first | refine zM ?_ | refine zN ?_ | refine zF ?_ | refine zH ?_ | refine zG ?_) | refine zP ?_
  refine z9 (α := { i : Nat // i ≤ xs.length }) (fun i => ⟨[rwL xs, .any, .any, .sl 0 0 xs.length, I i.1, .any, .any, .any, .any, .any, .any, .any, .any, .any, .any, .any, .any, .any, .any, .any, .any, .any, .any], [yV rwT 78 (xs.take i.1 ++ List.replicate (xs.length - i.1) z3)], 0⟩) (fun i => xs.length - i.1) ⟨0, Nat.zero_le _⟩ ?_ ?_
  · exact yW [0] rfl rfl (by decide) (.cons rfl rfl rfl rfl (zY (zE _ _)) .nil) (by repeat' first | exact zj | refine zZ ?_ ?_ | exact zp | exact le_refl rfl | exact zm rfl rfl | exact zu rfl)
  · rintro ⟨i, hi⟩
    repeat' first | refine zL ?_ | refine zA ?_ | refine zQ [] ?_ | (refine isA ?_; refine zf rfl ?_) | (refine isL ?_; refine zV rfl (by kernel_rfl) rfl rfl ?_) | (refine zc rfl ?_; refine zU rfl (by kernel_rfl) rfl rfl ?_) | refine zD ?_ | refine zB _ rfl (by kernel_rfl) ?_ | refine zW rfl ?_ | refine zX rfl ?_ | refine zC ?_ | with_reducible refine zO ?_ | refine zI ?_ | refine zJ ?_ | (with_reducible first | refine zM ?_ | refine zN ?_ | refine zF ?_ | refine zH ?_ | refine zG ?_) | refine zP ?_
    refine zh rfl (fun h => ?_) (fun h => ?_)
    · have hlt : i < xs.length := by simpa using h
      obtain ⟨z, hz⟩ : ∃ z, xs[i]? = some z := ⟨_, List.getElem?_eq_getElem hlt⟩
      repeat' first | refine zL ?_ | refine zA ?_ | refine zQ [] ?_ | (refine isA ?_; refine zf rfl ?_) | (refine isL ?_; refine zV rfl (by kernel_rfl) rfl rfl ?_) | (refine zc rfl ?_; refine zU rfl (by kernel_rfl) rfl rfl ?_) | refine za rfl (zz (z := z) rfl rfl rfl rfl (Int.natCast_nonneg _) hz) rfl ?_ | refine zT rfl (by kernel_rfl) rfl (zz (z := z) rfl rfl rfl rfl (Int.natCast_nonneg _) hz) rfl ?_ | refine za rfl (zK rfl (sF _) (.cons (.same rfl) .nil) rfl) rfl ?_ | refine zT rfl (by kernel_rfl) rfl (zK rfl (sF _) (.cons (.same rfl) .nil) rfl) rfl ?_ | refine za rfl (zo rfl rfl rfl (Nat.zero_le _) rfl rfl (Int.natCast_nonneg _) (by simpa using hlt)) rfl ?_ | refine zT rfl (by kernel_rfl) rfl (zo rfl rfl rfl (Nat.zero_le _) rfl rfl (Int.natCast_nonneg _) (by simpa using hlt)) rfl ?_ | refine za rfl (vt rfl rfl rfl rfl rfl (by simp; omega)) rfl ?_ | refine zT rfl (by kernel_rfl) rfl (vt rfl rfl rfl rfl rfl (by simp; omega)) rfl ?_ | refine zD ?_ | refine zB _ rfl (by kernel_rfl) ?_ | refine zW rfl ?_ | refine zX rfl ?_ | refine zC ?_ | with_reducible refine zO ?_ | refine zI ?_ | refine zJ ?_ | (with_reducible first | refine zM ?_ | refine zN ?_ | refine zF ?_ | refine zH ?_ | refine zG ?_) | refine zP ?_
      refine ⟨⟨i + 1, hlt⟩, by simp only; omega, ?_⟩
      exact yW [0] rfl rfl (by decide) (.cons rfl rfl rfl rfl (yd (by rw [Nat.zero_add]; exact congrArg rwT.flat (te (xs := xs) hz rfl)) (zE _ _)) .nil) (by repeat' first | exact zj | refine zZ ?_ ?_ | exact zp | exact le_refl rfl | exact zm rfl rfl | exact zu rfl | exact xL (by assumption) (by omega))
    · have hge : i = xs.length := by
        have : ¬ ((i : Int) < xs.length) := by simpa using h
        omega
      subst hge
      repeat' first | refine zL ?_ | refine zA ?_ | refine zQ [] ?_ | (refine isA ?_; refine zf rfl ?_) | (refine isL ?_; refine zV rfl (by kernel_rfl) rfl rfl ?_) | (refine zc rfl ?_; refine zU rfl (by kernel_rfl) rfl rfl ?_) | exact mJ 0 [0] (fun i hi => absurd hi (Nat.not_lt_zero _)) (by decide) rfl (zm rfl rfl) (.cons rfl rfl rfl rfl (yd (by simp) (zE _ _)) .nil) | refine zD ?_ | refine zB _ rfl (by kernel_rfl) ?_ | refine zW rfl ?_ | refine zX rfl ?_ | refine zC ?_ | with_reducible refine zO ?_ | refine zI ?_ | refine zJ ?_ | (with_reducible first | refine zM ?_ | refine zN ?_ | refine zF ?_ | refine zH ?_ | refine zG ?_) | refine zP ?_
def kk (k : Int) : Nat → Int
  | 0 => k
  | n + 1 => IntKind.i64.wrap (kk k n + 1)
theorem pG {k : Int} (h0 : 0 ≤ k) (h1 : k ≤ 1000000000000) : ∀ {n : Nat}, n ≤ 1000000000000 → kk k n = k + n
  | 0, _ => by simp [kk]
  | n + 1, hn => by rw [kk, pG h0 h1 (by omega), IntKind.wrap_i64]; omega
theorem mv {α : Type} {g : Nat → α} {xs : List α} {i : Nat} (h : i < xs.length) : ((List.range i).map g ++ xs.drop i).set i (g i) = (List.range (i + 1)).map g ++ xs.drop (i + 1) := by
  rw [List.set_append_right _ _ (by simp), List.length_map, List.length_range, Nat.sub_self, List.drop_eq_getElem_cons h, List.set_cons_zero, List.range_succ, List.map_append, List.append_assoc]
  rfl
def tB (k : Int) (j : Nat) : Rw := ⟨kk k (3 * j), kk k (3 * j + 1), kk k (3 * j + 2)⟩
def mkC (k : Int) (xs : List Rw) (i : Nat) : List Rw := (List.range i).map (tB k) ++ xs.drop i
theorem sA (k : Int) {xs : List Rw} {i : Nat} (h : i ≤ xs.length) : (mkC k xs i).length = xs.length := by simp [mkC]; omega
theorem yp (xs : List Rw) (k : Int) (hl : xs.length ≤ 1000000000) : zy Go.Proofs.Try.prog 46 [.sl 0 0 xs.length, I k] [yV rwT 78 xs] (I (kk k (3 * xs.length))) [yV rwT 78 (mkC k xs xs.length)] true := by
  refine zw [4] Go.Proofs.Try.func46 rfl rfl ?_
  simp only [Go.Proofs.Try.ntmps46, List.length_cons, List.length_nil, Nat.reduceAdd, Nat.reduceSub, List.replicate_succ, List.replicate_zero, List.cons_append, List.nil_append]
  repeat' first | refine zL ?_ | refine zA ?_ | refine zQ [] ?_ | (refine isA ?_; refine zf rfl ?_) | (refine isL ?_; refine zV rfl (by kernel_rfl) rfl rfl ?_) | (refine zc rfl ?_; refine zU rfl (by kernel_rfl) rfl rfl ?_) | refine zD ?_ | refine zB _ rfl (by kernel_rfl) ?_ | refine zW rfl ?_ | refine zX rfl ?_ | refine zC ?_ | with_reducible refine zO ?_ | refine zI ?_ | refine zJ ?_ | (with_reducible first | refine zM ?_ | refine zN ?_ | refine zF ?_ | refine zH ?_ | refine zG ?_) | refine zP ?_
  refine z9 (α := { i : Nat // i ≤ xs.length }) (fun i => ⟨[.sl 0 0 xs.length, I (kk k (3 * i.1)), .any, .any, .any, I i.1, .any, .any, .any, .any, .any, .any, .any, .any, .any, .any, .any, .any, .any, .any, .any, .any, .any, .any, .any, .any, .any, .any, .any, .any, .any, .any, .any, .any], [yV rwT 78 (mkC k xs i.1)], 1⟩) (fun i => xs.length - i.1) ⟨0, Nat.zero_le _⟩ ?_ ?_
  · exact xE 1 [0] rfl rfl yo (by decide) (.cons rfl rfl rfl rfl (zY (zE _ _)) .nil) (by repeat' first | exact zj | refine zZ ?_ ?_ | exact zp | exact le_refl rfl | exact zm rfl rfl | exact zu rfl)
  · rintro ⟨i, hi⟩
    have hgl := sA k hi
    repeat' first | refine zL ?_ | refine zA ?_ | refine zQ [] ?_ | (refine isA ?_; refine zf rfl ?_) | (refine isL ?_; refine zV rfl (by kernel_rfl) rfl rfl ?_) | (refine zc rfl ?_; refine zU rfl (by kernel_rfl) rfl rfl ?_) | refine zD ?_ | refine zB _ rfl (by kernel_rfl) ?_ | refine zW rfl ?_ | refine zX rfl ?_ | refine zC ?_ | with_reducible refine zO ?_ | refine zI ?_ | refine zJ ?_ | (with_reducible first | refine zM ?_ | refine zN ?_ | refine zF ?_ | refine zH ?_ | refine zG ?_) | refine zP ?_
    refine zh rfl (fun h => ?_) (fun h => ?_)
    · have hlt : i < xs.length := by simpa using h
      obtain ⟨z, hz⟩ : ∃ z, (mkC k xs i)[0 + i]? = some z := ⟨_, List.getElem?_eq_getElem (by rw [hgl]; omega)⟩
      have hlt' : 0 + i < (mkC k xs i).length := by rw [hgl]; omega
      have hz1 : ((mkC k xs i).set (0 + i) ⟨kk k (3 * i), z.b, z.c⟩)[0 + i]? = some ⟨kk k (3 * i), z.b, z.c⟩ := List.getElem?_set_self hlt'
      have hz2 : (((mkC k xs i).set (0 + i) ⟨kk k (3 * i), z.b, z.c⟩).set (0 + i) ⟨kk k (3 * i), kk k (3 * i + 1), z.c⟩)[0 + i]? = some ⟨kk k (3 * i), kk k (3 * i + 1), z.c⟩ := List.getElem?_set_self (by rw [List.length_set]; exact hlt')
      repeat' first | refine zL ?_ | refine zA ?_ | refine zQ [] ?_ | (refine isA ?_; refine zf rfl ?_) | (refine isL ?_; refine zV rfl (by kernel_rfl) rfl rfl ?_) | (refine zc rfl ?_; refine zU rfl (by kernel_rfl) rfl rfl ?_) | (refine yB ?_; refine za rfl (zo (j := i) rfl rfl rfl (Nat.zero_le _) rfl rfl (Int.natCast_nonneg i) (by omega)) rfl ?_) | (refine yA rfl ?_; refine zT rfl (by kernel_rfl) rfl (zo (j := i) rfl rfl rfl (Nat.zero_le _) rfl rfl (Int.natCast_nonneg i) (by omega)) rfl ?_) | (refine tE (x := .tmp 16) ?_; refine za rfl (qQ (T := rwT) (i := 0 + i) (off := 0) (z := z) (z' := ⟨kk k (3 * i), z.b, z.c⟩) rfl rfl rfl rfl (by decide) rfl hz rfl) rfl ?_) | (refine tD (x := .tmp 16) rfl ?_; refine zT rfl (by kernel_rfl) rfl (qQ (T := rwT) (i := 0 + i) (off := 0) (z := z) (z' := ⟨kk k (3 * i), z.b, z.c⟩) rfl rfl rfl rfl (by decide) rfl hz rfl) rfl ?_) | (refine tE (x := .tmp 23) ?_; refine za rfl (qQ (T := rwT) (i := 0 + i) (off := 1) (z := ⟨kk k (3 * i), z.b, z.c⟩) (z' := ⟨kk k (3 * i), kk k (3 * i + 1), z.c⟩) rfl rfl rfl rfl (by decide) rfl hz1 rfl) rfl ?_) | (refine tD (x := .tmp 23) rfl ?_; refine zT rfl (by kernel_rfl) rfl (qQ (T := rwT) (i := 0 + i) (off := 1) (z := ⟨kk k (3 * i), z.b, z.c⟩) (z' := ⟨kk k (3 * i), kk k (3 * i + 1), z.c⟩) rfl rfl rfl rfl (by decide) rfl hz1 rfl) rfl ?_) | (refine tE (x := .tmp 30) ?_; refine za rfl (qQ (T := rwT) (i := 0 + i) (off := 2) (z := ⟨kk k (3 * i), kk k (3 * i + 1), z.c⟩) (z' := tB k i) rfl rfl rfl rfl (by decide) rfl hz2 rfl) rfl ?_) | (refine tD (x := .tmp 30) rfl ?_; refine zT rfl (by kernel_rfl) rfl (qQ (T := rwT) (i := 0 + i) (off := 2) (z := ⟨kk k (3 * i), kk k (3 * i + 1), z.c⟩) (z' := tB k i) rfl rfl rfl rfl (by decide) rfl hz2 rfl) rfl ?_) | refine zD ?_ | refine zB _ rfl (by kernel_rfl) ?_ | refine zW rfl ?_ | refine zX rfl ?_ | refine zC ?_ | with_reducible refine zO ?_ | refine zI ?_ | refine zJ ?_ | (with_reducible first | refine zM ?_ | refine zN ?_ | refine zF ?_ | refine zH ?_ | refine zG ?_) | refine zP ?_
      refine ⟨⟨i + 1, hlt⟩, by simp only; omega, ?_⟩
      exact xE 1 [0] rfl rfl yo (by decide) (.cons rfl rfl rfl rfl (yd (by rw [Nat.zero_add]; show rwT.flat (((List.set _ i _).set i _).set i _) = _; rw [List.set_set, List.set_set]; exact congrArg rwT.flat (mv (g := tB k) hlt)) (zE _ _)) .nil) (by repeat' first | exact zj | refine zZ ?_ ?_ | exact zp | exact le_refl rfl | exact zm rfl rfl | exact zu rfl | exact xL (by assumption) (by omega))
    · have hge : i = xs.length := by
        have : ¬ ((i : Int) < xs.length) := by simpa using h
        omega
      subst hge
      repeat' first | refine zL ?_ | refine zA ?_ | refine zQ [] ?_ | (refine isA ?_; refine zf rfl ?_) | (refine isL ?_; refine zV rfl (by kernel_rfl) rfl rfl ?_) | (refine zc rfl ?_; refine zU rfl (by kernel_rfl) rfl rfl ?_) | exact mJ 1 [0] yo (by decide) rfl (le_refl rfl) (.cons rfl rfl rfl rfl (zY (zE _ _)) .nil) | refine zD ?_ | refine zB _ rfl (by kernel_rfl) ?_ | refine zW rfl ?_ | refine zX rfl ?_ | refine zC ?_ | with_reducible refine zO ?_ | refine zI ?_ | refine zJ ?_ | (with_reducible first | refine zM ?_ | refine zN ?_ | refine zF ?_ | refine zH ?_ | refine zG ?_) | refine zP ?_
theorem mO (xs : List Rw) (k : Int) (hl : xs.length ≤ 1000000000) (hk : ∀ i z, xs[i]? = some z → z = tB k i) : zy Go.Proofs.Try.prog 52 [rwL xs, I k] [] (I (kk k (3 * xs.length))) [] false := by
  refine zw [4] Go.Proofs.Try.func52 rfl rfl ?_
  simp only [Go.Proofs.Try.ntmps52, List.length_cons, List.length_nil, Nat.reduceAdd, Nat.reduceSub, List.replicate_succ, List.replicate_zero, List.cons_append, List.nil_append]
  repeat' first | refine zL ?_ | refine zA ?_ | refine zQ [] ?_ | (refine isA ?_; refine zf rfl ?_) | (refine isL ?_; refine zV rfl (by kernel_rfl) rfl rfl ?_) | (refine zc rfl ?_; refine zU rfl (by kernel_rfl) rfl rfl ?_) | refine zD ?_ | refine zB _ rfl (by kernel_rfl) ?_ | refine zW rfl ?_ | refine zX rfl ?_ | refine zC ?_ | with_reducible refine zO ?_ | refine zI ?_ | refine zJ ?_ | (with_reducible first | refine zM ?_ | refine zN ?_ | refine zF ?_ | refine zH ?_ | refine zG ?_) | refine zP ?_
  refine z9 (α := { i : Nat // i ≤ xs.length }) (fun i => ⟨[rwL xs, I (kk k (3 * i.1)), .any, .any, .any, I i.1, .any, .any, .any, .any, .any, .any, .any, .any, .any, .any, .any, .any, .any, .any, .any, .any, .any, .any, .any, .any, .any, .any, .any, .any, .any, .any, .any, .any, .any, .any, .any, .any, .any, .any], [], 0⟩) (fun i => xs.length - i.1) ⟨0, Nat.zero_le _⟩ ?_ ?_
  · exact yW [] rfl rfl (by decide) .nil (by repeat' first | exact zj | refine zZ ?_ ?_ | exact zp | exact le_refl rfl | exact zm rfl rfl | exact zu rfl)
  · rintro ⟨i, hi⟩
    repeat' first | refine zL ?_ | refine zA ?_ | refine zQ [] ?_ | (refine isA ?_; refine zf rfl ?_) | (refine isL ?_; refine zV rfl (by kernel_rfl) rfl rfl ?_) | (refine zc rfl ?_; refine zU rfl (by kernel_rfl) rfl rfl ?_) | refine zD ?_ | refine zB _ rfl (by kernel_rfl) ?_ | refine zW rfl ?_ | refine zX rfl ?_ | refine zC ?_ | with_reducible refine zO ?_ | refine zI ?_ | refine zJ ?_ | (with_reducible first | refine zM ?_ | refine zN ?_ | refine zF ?_ | refine zH ?_ | refine zG ?_) | refine zP ?_
    refine zh rfl (fun h => ?_) (fun h => ?_)
    · have hlt : i < xs.length := by simpa using h
      obtain ⟨z, hz⟩ : ∃ z, xs[i]? = some z := ⟨_, List.getElem?_eq_getElem hlt⟩
      have hzk := hk i z hz
      subst hzk
      repeat' first | refine zL ?_ | refine zA ?_ | refine zQ [] ?_ | (refine isA ?_; refine zf rfl ?_) | (refine isL ?_; refine zV rfl (by kernel_rfl) rfl rfl ?_) | (refine zc rfl ?_; refine zU rfl (by kernel_rfl) rfl rfl ?_) | (refine yB ?_; refine za rfl (zz (t := rwT) (z := tB k i) rfl rfl rfl rfl (Int.natCast_nonneg i) hz) rfl ?_) | (refine yA rfl ?_; refine zT rfl (by kernel_rfl) rfl (zz (t := rwT) (z := tB k i) rfl rfl rfl rfl (Int.natCast_nonneg i) hz) rfl ?_) | refine zD ?_ | refine zB _ rfl (by kernel_rfl) ?_ | refine zW rfl ?_ | refine zX rfl ?_ | refine zC ?_ | with_reducible refine zO ?_ | refine zI ?_ | refine zJ ?_ | (with_reducible first | refine zM ?_ | refine zN ?_ | refine zF ?_ | refine zH ?_ | refine zG ?_) | refine zP ?_
      refine zh rfl (fun h => by simp [tB] at h) (fun _ => ?_)
      repeat' first | refine zL ?_ | refine zA ?_ | refine zQ [] ?_ | (refine isA ?_; refine zf rfl ?_) | (refine isL ?_; refine zV rfl (by kernel_rfl) rfl rfl ?_) | (refine zc rfl ?_; refine zU rfl (by kernel_rfl) rfl rfl ?_) | (refine yB ?_; refine za rfl (zz (t := rwT) (z := tB k i) rfl rfl rfl rfl (Int.natCast_nonneg i) hz) rfl ?_) | (refine yA rfl ?_; refine zT rfl (by kernel_rfl) rfl (zz (t := rwT) (z := tB k i) rfl rfl rfl rfl (Int.natCast_nonneg i) hz) rfl ?_) | refine zD ?_ | refine zB _ rfl (by kernel_rfl) ?_ | refine zW rfl ?_ | refine zX rfl ?_ | refine zC ?_ | with_reducible refine zO ?_ | refine zI ?_ | refine zJ ?_ | (with_reducible first | refine zM ?_ | refine zN ?_ | refine zF ?_ | refine zH ?_ | refine zG ?_) | refine zP ?_
      refine zh rfl (fun h => by simp [tB, kk] at h) (fun _ => ?_)
      repeat' first | refine zL ?_ | refine zA ?_ | refine zQ [] ?_ | (refine isA ?_; refine zf rfl ?_) | (refine isL ?_; refine zV rfl (by kernel_rfl) rfl rfl ?_) | (refine zc rfl ?_; refine zU rfl (by kernel_rfl) rfl rfl ?_) | (refine yB ?_; refine za rfl (zz (t := rwT) (z := tB k i) rfl rfl rfl rfl (Int.natCast_nonneg i) hz) rfl ?_) | (refine yA rfl ?_; refine zT rfl (by kernel_rfl) rfl (zz (t := rwT) (z := tB k i) rfl rfl rfl rfl (Int.natCast_nonneg i) hz) rfl ?_) | refine zD ?_ | refine zB _ rfl (by kernel_rfl) ?_ | refine zW rfl ?_ | refine zX rfl ?_ | refine zC ?_ | with_reducible refine zO ?_ | refine zI ?_ | refine zJ ?_ | (with_reducible first | refine zM ?_ | refine zN ?_ | refine zF ?_ | refine zH ?_ | refine zG ?_) | refine zP ?_
      refine zh rfl (fun h => by simp [tB, kk] at h) (fun _ => ?_)
      repeat' first | refine zL ?_ | refine zA ?_ | refine zQ [] ?_ | (refine isA ?_; refine zf rfl ?_) | (refine isL ?_; refine zV rfl (by kernel_rfl) rfl rfl ?_) | (refine zc rfl ?_; refine zU rfl (by kernel_rfl) rfl rfl ?_) | refine zD ?_ | refine zB _ rfl (by kernel_rfl) ?_ | refine zW rfl ?_ | refine zX rfl ?_ | refine zC ?_ | with_reducible refine zO ?_ | refine zI ?_ | refine zJ ?_ | (with_reducible first | refine zM ?_ | refine zN ?_ | refine zF ?_ | refine zH ?_ | refine zG ?_) | refine zP ?_
      refine ⟨⟨i + 1, hlt⟩, by simp only; omega, ?_⟩
      exact yW [] rfl rfl (by decide) .nil (by repeat' first | exact zj | refine zZ ?_ ?_ | exact zp | exact le_refl rfl | exact zm rfl rfl | exact zu rfl | exact xL (by assumption) (by omega))
    · have hge : i = xs.length := by
        have : ¬ ((i : Int) < xs.length) := by simpa using h
        omega
      subst hge
      repeat' first | refine zL ?_ | refine zA ?_ | refine zQ [] ?_ | (refine isA ?_; refine zf rfl ?_) | (refine isL ?_; refine zV rfl (by kernel_rfl) rfl rfl ?_) | (refine zc rfl ?_; refine zU rfl (by kernel_rfl) rfl rfl ?_) | exact yJ rfl rfl rfl | refine zD ?_ | refine zB _ rfl (by kernel_rfl) ?_ | refine zW rfl ?_ | refine zX rfl ?_ | refine zC ?_ | with_reducible refine zO ?_ | refine zI ?_ | refine zJ ?_ | (with_reducible first | refine zM ?_ | refine zN ?_ | refine zF ?_ | refine zH ?_ | refine zG ?_) | refine zP ?_
end Go.Proofs.Ytojcojanokhnaaa.Ab
namespace Go.Proofs.Ytojcojanokhnaaa.Ab
open Go.RowKit
abbrev Rn := List Rw
abbrev rnT : Ty Rn := lsT rwT
abbrev rnL (rs : List Rn) : V := xf rnT rs
abbrev rnN (rs : List Rn) : List Reg := ⟨84, 1, nC 1 rs, 0⟩ :: nR rwT 78 rs
def t5 (rs : List Rn) : Prop := rs.length ≤ 1000000000 ∧ ∀ x ∈ rs, x.length ≤ 1000000000
theorem t5.at {rs : List Rn} (h : t5 rs) {i : Nat} {x : Rn} (hx : rs[i]? = some x) : x.length ≤ 1000000000 := h.2 x (List.mem_of_getElem? hx)
def szG : List Rn → Int → Int
  | [], l => l
  | x :: xs, l => cond (decide (szL x.length l < 0)) (-1) (szG xs (szL x.length l))
def szR (rs : List Rn) (l : Int) : Int := cond (decide (IntKind.i64.wrap (l - rs.length) < 0)) (-1) (szG rs (IntKind.i64.wrap (l - rs.length)))
theorem m0 : ∀ {l : List Nat} {x : Nat}, x ∈ l → x ≤ l.sum
  | a :: l, x, h => by
    rw [List.sum_cons]
    rcases List.mem_cons.1 h with rfl | h
    · omega
    · have := m0 h; omega
def tot (rs : List Rn) : Nat := (rs.map List.length).sum
abbrev ww : V := .k (.slice none 0 0)
theorem yw {α : Type} {rs : List α} {i : Nat} {z : α} (hz : rs[i]? = some z) : rs.take (i + 1) = rs.take i ++ [z] := by
  rw [List.take_add_one, hz]; rfl
end Go.Proofs.Ytojcojanokhnaaa.Ab
namespace Go.Proofs.Ytojcojanokhnaaa.Ab
open Go.RowKit
theorem yI {α : Type} {rs : List α} {i : Nat} {z : α} (hz : rs[i]? = some z) : rs.drop i = z :: rs.drop (i + 1) := by
  obtain ⟨h, e⟩ := List.getElem?_eq_some_iff.1 hz
  rw [List.drop_eq_getElem_cons h, e]
theorem f8 (rs : List Rn) : HLe ([0] ++ List.range' 1 rs.length) (rnN rs) (rnN rs) :=
  sx (K1 := [⟨84, 1, nC 1 rs, 0⟩]) (xI (by simp) (by simp)) (.cons rfl rfl rfl rfl (wB fun j hj => wQ [0] 1 rs.length j hj) .nil) (fun j x hx => by rw [Nat.add_comm]; exact xQ hx)
theorem l5 (rs : List Rn) : ∀ q ∈ rnN rs, q.mode ≠ 1 ∧ (q.mode = 0 → vw q.cells) := fun q hq => by
  rcases List.mem_cons.1 hq with rfl | hq
  · exact ⟨Nat.zero_ne_one, fun _ => tA 1 rs⟩
  · obtain ⟨x, _, rfl⟩ := List.mem_map.1 hq
    exact ⟨Nat.zero_ne_one, fun _ => (xu x).flatS⟩
theorem sN {rs : List Rn} {i : Nat} {z : Rn} (hz : rs[i]? = some z) : tot (rs.take (i + 1)) = tot (rs.take i) + z.length := by
  rw [yw hz]
  simp [tot]
theorem nr (rs : List Rn) (i : Nat) : tot (rs.take i) ≤ tot rs := by
  have : tot rs = tot (rs.take i ++ rs.drop i) := by rw [List.take_append_drop]
  rw [this]
  simp only [tot, List.map_append, List.sum_append]
  omega
def d3 : Int → List Rn → List Rn
  | _, [] => []
  | k, x :: xs => mkC k x x.length :: d3 (kk k (3 * x.length)) xs
def mid (k : Int) (rs : List Rn) (i : Nat) : List Rn := d3 k (rs.take i) ++ rs.drop i
theorem d5 {k : Int} {n : Nat} (h0 : 0 ≤ k) (h1 : k ≤ 1000000000) (hn : n ≤ 1000000000) : decide (kk k n < 0) = false := by
  rw [pG h0 (by omega) (by omega)]
  simp
  omega
end Go.Proofs.Ytojcojanokhnaaa.Ab
namespace Go.Proofs.Ytojcojanokhnaaa.Ab
open Go.RowKit
def inV (x lo hi : Int) : Bool := decide (lo ≤ x) && decide (x ≤ hi)
theorem uI (x lo hi : Int) : zy Go.Proofs.Try.prog 66 [I x, I lo, I hi] [] (B (inV x lo hi)) [] false := by
  refine zw [6] Go.Proofs.Try.func66 rfl rfl ?_
  simp only [Go.Proofs.Try.ntmps66, List.length_cons, List.length_nil, Nat.reduceAdd, Nat.reduceSub, List.replicate_succ, List.replicate_zero, List.cons_append, List.nil_append]
  repeat' first | refine zL ?_ | refine zA ?_ | refine zQ [] ?_ | (refine isA ?_; refine zf rfl ?_) | (refine isL ?_; refine zV rfl (by kernel_rfl) rfl rfl ?_) | (refine zc rfl ?_; refine zU rfl (by kernel_rfl) rfl rfl ?_) | exact yJ rfl rfl (by first | ((try simp only [Bool.not_eq_true', Bool.not_eq_false'] at *); simp only [inV, *, Bool.true_and, Bool.false_and, Bool.and_true, Bool.and_false, Bool.true_or, Bool.false_or, Bool.or_true, Bool.or_false, Bool.not_true, Bool.not_false, cond_true, cond_false]; done) | (simp_all [inV]; done) | (simp_all [inV]; intros; omega)) | refine zD ?_ | refine zB _ rfl (by kernel_rfl) ?_ | refine zW rfl ?_ | refine zX rfl ?_ | refine zC ?_ | with_reducible refine zO ?_ | refine zI ?_ | refine zJ ?_ | (with_reducible first | refine zM ?_ | refine zN ?_ | refine zF ?_ | refine zH ?_ | refine zG ?_) | refine zP ?_ | (refine wy ?_; refine yb rfl rfl (fun hbr => ?_) (fun hbr => ?_) <;> (fail_if_success (with_reducible (have hx : true = true := hbr))) <;> (fail_if_success (with_reducible (have hx : false = false := hbr)))) | (refine zc rfl ?_; refine yK rfl rfl rfl rfl (fun hbr => ?_) (fun hbr => ?_) <;> (fail_if_success (with_reducible (have hx : true = true := hbr))) <;> (fail_if_success (with_reducible (have hx : false = false := hbr))))
theorem x3 (x lo hi : Int) : zy Go.Proofs.Try.prog 75 [I x, I lo, I hi] [] (B (inV x lo hi)) [] false := by
  refine zw [6] Go.Proofs.Try.func75 rfl rfl ?_
  simp only [Go.Proofs.Try.ntmps75, List.length_cons, List.length_nil, Nat.reduceAdd, Nat.reduceSub, List.replicate_succ, List.replicate_zero, List.cons_append, List.nil_append]
  repeat' first | refine zL ?_ | refine zA ?_ | refine zQ [] ?_ | (refine isA ?_; refine zf rfl ?_) | (refine isL ?_; refine zV rfl (by kernel_rfl) rfl rfl ?_) | (refine zc rfl ?_; refine zU rfl (by kernel_rfl) rfl rfl ?_) | exact yJ rfl rfl (by first | ((try simp only [Bool.not_eq_true', Bool.not_eq_false'] at *); simp only [inV, *, Bool.true_and, Bool.false_and, Bool.and_true, Bool.and_false, Bool.true_or, Bool.false_or, Bool.or_true, Bool.or_false, Bool.not_true, Bool.not_false, cond_true, cond_false]; done) | (simp_all [inV]; done) | (simp_all [inV]; intros; omega)) | refine zD ?_ | refine zB _ rfl (by kernel_rfl) ?_ | refine zW rfl ?_ | refine zX rfl ?_ | refine zC ?_ | with_reducible refine zO ?_ | refine zI ?_ | refine zJ ?_ | (with_reducible first | refine zM ?_ | refine zN ?_ | refine zF ?_ | refine zH ?_ | refine zG ?_) | refine zP ?_ | (refine wy ?_; refine yb rfl rfl (fun hbr => ?_) (fun hbr => ?_) <;> (fail_if_success (with_reducible (have hx : true = true := hbr))) <;> (fail_if_success (with_reducible (have hx : false = false := hbr)))) | (refine zc rfl ?_; refine yK rfl rfl rfl rfl (fun hbr => ?_) (fun hbr => ?_) <;> (fail_if_success (with_reducible (have hx : true = true := hbr))) <;> (fail_if_success (with_reducible (have hx : false = false := hbr))))
def vRw (x : Rw) : Bool := inV x.a 0 9 && (inV x.b 0 99 && inV x.c 0 3)
theorem sG (x : Rw) : zy Go.Proofs.Try.prog 99 [.agg (rwE x)] [] (B (vRw x)) [] false := by
  refine zw [2] Go.Proofs.Try.func99 rfl rfl ?_
  simp only [Go.Proofs.Try.ntmps99, List.length_cons, List.length_nil, Nat.reduceAdd, Nat.reduceSub, List.replicate_succ, List.replicate_zero, List.cons_append, List.nil_append]
  repeat' first | refine zL ?_ | refine zA ?_ | refine zQ [] ?_ | (refine isA ?_; refine zf rfl ?_) | (refine isL ?_; refine zV rfl (by kernel_rfl) rfl rfl ?_) | (refine zc rfl ?_; refine zU rfl (by kernel_rfl) rfl rfl ?_) | (refine zr 66 ?_; refine za rfl (zK rfl (uI _ _ _) (.cons (.same rfl) (.cons (.same rfl) (.cons (.same rfl) .nil))) rfl) rfl ?_) | (refine zq 66 rfl ?_; refine zT rfl (by kernel_rfl) rfl (zK rfl (uI _ _ _) (.cons (.same rfl) (.cons (.same rfl) (.cons (.same rfl) .nil))) rfl) rfl ?_) | exact yJ rfl rfl (by first | ((try simp only [Bool.not_eq_true', Bool.not_eq_false'] at *); simp only [vRw, *, Bool.true_and, Bool.false_and, Bool.and_true, Bool.and_false, Bool.true_or, Bool.false_or, Bool.or_true, Bool.or_false, Bool.not_true, Bool.not_false, cond_true, cond_false]; done) | (simp_all [vRw]; done) | (simp_all [vRw]; intros; omega)) | refine zD ?_ | refine zB _ rfl (by kernel_rfl) ?_ | refine zW rfl ?_ | refine zX rfl ?_ | refine zC ?_ | with_reducible refine zO ?_ | refine zI ?_ | refine zJ ?_ | (with_reducible first | refine zM ?_ | refine zN ?_ | refine zF ?_ | refine zH ?_ | refine zG ?_) | refine zP ?_ | (refine wy ?_; refine yb rfl rfl (fun hbr => ?_) (fun hbr => ?_) <;> (fail_if_success (with_reducible (have hx : true = true := hbr))) <;> (fail_if_success (with_reducible (have hx : false = false := hbr)))) | (refine zc rfl ?_; refine yK rfl rfl rfl rfl (fun hbr => ?_) (fun hbr => ?_) <;> (fail_if_success (with_reducible (have hx : true = true := hbr))) <;> (fail_if_success (with_reducible (have hx : false = false := hbr))))
theorem sI (x : Rw) : zy Go.Proofs.Try.prog 116 [.agg (rwE x)] [] (B (vRw x)) [] false := by
  refine zw [2] Go.Proofs.Try.func116 rfl rfl ?_
  simp only [Go.Proofs.Try.ntmps116, List.length_cons, List.length_nil, Nat.reduceAdd, Nat.reduceSub, List.replicate_succ, List.replicate_zero, List.cons_append, List.nil_append]
  repeat' first | refine zL ?_ | refine zA ?_ | refine zQ [] ?_ | (refine isA ?_; refine zf rfl ?_) | (refine isL ?_; refine zV rfl (by kernel_rfl) rfl rfl ?_) | (refine zc rfl ?_; refine zU rfl (by kernel_rfl) rfl rfl ?_) | (refine zr 75 ?_; refine za rfl (zK rfl (x3 _ _ _) (.cons (.same rfl) (.cons (.same rfl) (.cons (.same rfl) .nil))) rfl) rfl ?_) | (refine zq 75 rfl ?_; refine zT rfl (by kernel_rfl) rfl (zK rfl (x3 _ _ _) (.cons (.same rfl) (.cons (.same rfl) (.cons (.same rfl) .nil))) rfl) rfl ?_) | exact yJ rfl rfl (by first | ((try simp only [Bool.not_eq_true', Bool.not_eq_false'] at *); simp only [vRw, *, Bool.true_and, Bool.false_and, Bool.and_true, Bool.and_false, Bool.true_or, Bool.false_or, Bool.or_true, Bool.or_false, Bool.not_true, Bool.not_false, cond_true, cond_false]; done) | (simp_all [vRw]; done) | (simp_all [vRw]; intros; omega)) | refine zD ?_ | refine zB _ rfl (by kernel_rfl) ?_ | refine zW rfl ?_ | refine zX rfl ?_ | refine zC ?_ | with_reducible refine zO ?_ | refine zI ?_ | refine zJ ?_ | (with_reducible first | refine zM ?_ | refine zN ?_ | refine zF ?_ | refine zH ?_ | refine zG ?_) | refine zP ?_ | (refine wy ?_; refine yb rfl rfl (fun hbr => ?_) (fun hbr => ?_) <;> (fail_if_success (with_reducible (have hx : true = true := hbr))) <;> (fail_if_success (with_reducible (have hx : false = false := hbr)))) | (refine zc rfl ?_; refine yK rfl rfl rfl rfl (fun hbr => ?_) (fun hbr => ?_) <;> (fail_if_success (with_reducible (have hx : true = true := hbr))) <;> (fail_if_success (with_reducible (have hx : false = false := hbr))))
theorem fT {xs : List Rw} {i : Nat} {z : Rw} (hz : xs[i]? = some z) (h : vRw z = false) : xs.all vRw = false := by
  cases ha : xs.all vRw with
  | false => rfl
  | true => rw [List.all_eq_true] at ha; rw [ha z (List.mem_of_getElem? hz)] at h; cases h
theorem lf {xs : List Rw} (h : ∀ j z, j < xs.length → xs[j]? = some z → vRw z = true) : xs.all vRw = true := by
  rw [List.all_eq_true]
  intro x hx
  obtain ⟨i, hi⟩ := List.getElem?_of_mem hx
  exact h i x (List.getElem?_eq_some_iff.1 hi).1 hi
def avR (xs : List Rw) : Bool := xs.all vRw && decide ((xs.length : Int) ≤ 24)
theorem fL (xs : List Rw) (hl : xs.length ≤ 1000000000) : zy Go.Proofs.Try.prog 121 [rwL xs] [] (B (xs.all vRw)) [] false := by
  refine zw [2] Go.Proofs.Try.func121 rfl rfl ?_
  simp only [Go.Proofs.Try.ntmps121, List.length_cons, List.length_nil, Nat.reduceAdd, Nat.reduceSub, List.replicate_succ, List.replicate_zero, List.cons_append, List.nil_append]
  repeat' first | refine zL ?_ | refine zA ?_ | refine zQ [] ?_ | (refine isA ?_; refine zf rfl ?_) | (refine isL ?_; refine zV rfl (by kernel_rfl) rfl rfl ?_) | (refine zc rfl ?_; refine zU rfl (by kernel_rfl) rfl rfl ?_) | refine zD ?_ | refine zB _ rfl (by kernel_rfl) ?_ | refine zW rfl ?_ | refine zX rfl ?_ | refine zC ?_ | with_reducible refine zO ?_ | refine zI ?_ | refine zJ ?_ | (with_reducible first | refine zM ?_ | refine zN ?_ | refine zF ?_ | refine zH ?_ | refine zG ?_) | refine zP ?_
  refine z9 (α := { i : Nat // i ≤ xs.length ∧ ∀ j z, j < i → xs[j]? = some z → vRw z = true }) (fun i => ⟨[rwL xs, .any, .any, .any, .any, rwL xs, I xs.length, I i.1, .any, .any, .any, .any, .any, .any, .any], [], 0⟩) (fun i => xs.length - i.1) ⟨0, Nat.zero_le _, fun j z hj => absurd hj (Nat.not_lt_zero _)⟩ ?_ ?_
  · exact yW [] rfl rfl (by decide) .nil (by repeat' first | exact zj | refine zZ ?_ ?_ | exact zp | exact le_refl rfl | exact zm rfl rfl | exact zu rfl)
  · rintro ⟨i, hi, hb⟩
    repeat' first | refine zL ?_ | refine zA ?_ | refine zQ [] ?_ | (refine isA ?_; refine zf rfl ?_) | (refine isL ?_; refine zV rfl (by kernel_rfl) rfl rfl ?_) | (refine zc rfl ?_; refine zU rfl (by kernel_rfl) rfl rfl ?_) | refine zD ?_ | refine zB _ rfl (by kernel_rfl) ?_ | refine zW rfl ?_ | refine zX rfl ?_ | refine zC ?_ | with_reducible refine zO ?_ | refine zI ?_ | refine zJ ?_ | (with_reducible first | refine zM ?_ | refine zN ?_ | refine zF ?_ | refine zH ?_ | refine zG ?_) | refine zP ?_
    refine zh rfl (fun h => ?_) (fun h => ?_)
    · have hlt : i < xs.length := by simpa using h
      obtain ⟨z, hz⟩ : ∃ z, xs[i]? = some z := ⟨_, List.getElem?_eq_getElem hlt⟩
      repeat' first | refine zL ?_ | refine zA ?_ | refine zQ [] ?_ | (refine isA ?_; refine zf rfl ?_) | (refine isL ?_; refine zV rfl (by kernel_rfl) rfl rfl ?_) | (refine zc rfl ?_; refine zU rfl (by kernel_rfl) rfl rfl ?_) | (refine yB ?_; refine za rfl (zz (t := rwT) (z := z) rfl rfl rfl rfl (Int.natCast_nonneg i) hz) rfl ?_) | (refine yA rfl ?_; refine zT rfl (by kernel_rfl) rfl (zz (t := rwT) (z := z) rfl rfl rfl rfl (Int.natCast_nonneg i) hz) rfl ?_) | (refine zr 116 ?_; refine za rfl (zK rfl (sI z) (.cons (.same rfl) .nil) rfl) rfl ?_) | (refine zq 116 rfl ?_; refine zT rfl (by kernel_rfl) rfl (zK rfl (sI z) (.cons (.same rfl) .nil) rfl) rfl ?_) | refine zD ?_ | refine zB _ rfl (by kernel_rfl) ?_ | refine zW rfl ?_ | refine zX rfl ?_ | refine zC ?_ | with_reducible refine zO ?_ | refine zI ?_ | refine zJ ?_ | (with_reducible first | refine zM ?_ | refine zN ?_ | refine zF ?_ | refine zH ?_ | refine zG ?_) | refine zP ?_
      refine zh rfl (fun h1 => ?_) (fun h1 => ?_)
      · have h2 : vRw z = false := by simpa using h1
        repeat' first | refine zL ?_ | refine zA ?_ | refine zQ [] ?_ | (refine isA ?_; refine zf rfl ?_) | (refine isL ?_; refine zV rfl (by kernel_rfl) rfl rfl ?_) | (refine zc rfl ?_; refine zU rfl (by kernel_rfl) rfl rfl ?_) | exact yJ rfl rfl (by rw [fT hz h2]) | refine zD ?_ | refine zB _ rfl (by kernel_rfl) ?_ | refine zW rfl ?_ | refine zX rfl ?_ | refine zC ?_ | with_reducible refine zO ?_ | refine zI ?_ | refine zJ ?_ | (with_reducible first | refine zM ?_ | refine zN ?_ | refine zF ?_ | refine zH ?_ | refine zG ?_) | refine zP ?_
      · have h2 : vRw z = true := by simpa using h1
        repeat' first | refine zL ?_ | refine zA ?_ | refine zQ [] ?_ | (refine isA ?_; refine zf rfl ?_) | (refine isL ?_; refine zV rfl (by kernel_rfl) rfl rfl ?_) | (refine zc rfl ?_; refine zU rfl (by kernel_rfl) rfl rfl ?_) | refine zD ?_ | refine zB _ rfl (by kernel_rfl) ?_ | refine zW rfl ?_ | refine zX rfl ?_ | refine zC ?_ | with_reducible refine zO ?_ | refine zI ?_ | refine zJ ?_ | (with_reducible first | refine zM ?_ | refine zN ?_ | refine zF ?_ | refine zH ?_ | refine zG ?_) | refine zP ?_
        refine ⟨⟨i + 1, hlt, fun j y hj hy => ?_⟩, by simp only; omega, ?_⟩
        · rcases Nat.lt_succ_iff_lt_or_eq.1 hj with hj | rfl
          · exact hb j y hj hy
          · rw [hz] at hy; cases hy; exact h2
        · exact yW [] rfl rfl (by decide) .nil (by repeat' first | exact zj | refine zZ ?_ ?_ | exact zp | exact le_refl rfl | exact zm rfl rfl | exact zu rfl | exact xL (by assumption) (by omega))
    · have hge : i = xs.length := by
        have : ¬ ((i : Int) < xs.length) := by simpa using h
        omega
      subst hge
      repeat' first | refine zL ?_ | refine zA ?_ | refine zQ [] ?_ | (refine isA ?_; refine zf rfl ?_) | (refine isL ?_; refine zV rfl (by kernel_rfl) rfl rfl ?_) | (refine zc rfl ?_; refine zU rfl (by kernel_rfl) rfl rfl ?_) | exact yJ rfl rfl (by rw [lf hb]) | refine zD ?_ | refine zB _ rfl (by kernel_rfl) ?_ | refine zW rfl ?_ | refine zX rfl ?_ | refine zC ?_ | with_reducible refine zO ?_ | refine zI ?_ | refine zJ ?_ | (with_reducible first | refine zM ?_ | refine zN ?_ | refine zF ?_ | refine zH ?_ | refine zG ?_) | refine zP ?_
theorem pT (xs : List Rw) (hl : xs.length ≤ 1000000000) : zy Go.Proofs.Try.prog 25 [rwL xs] [] (B (avR xs)) [] false := by
  refine zw [2] Go.Proofs.Try.func25 rfl rfl ?_
  simp only [Go.Proofs.Try.ntmps25, List.length_cons, List.length_nil, Nat.reduceAdd, Nat.reduceSub, List.replicate_succ, List.replicate_zero, List.cons_append, List.nil_append]
  repeat' first | refine zL ?_ | refine zA ?_ | refine zQ [] ?_ | (refine isA ?_; refine zf rfl ?_) | (refine isL ?_; refine zV rfl (by kernel_rfl) rfl rfl ?_) | (refine zc rfl ?_; refine zU rfl (by kernel_rfl) rfl rfl ?_) | refine zD ?_ | refine zB _ rfl (by kernel_rfl) ?_ | refine zW rfl ?_ | refine zX rfl ?_ | refine zC ?_ | with_reducible refine zO ?_ | refine zI ?_ | refine zJ ?_ | (with_reducible first | refine zM ?_ | refine zN ?_ | refine zF ?_ | refine zH ?_ | refine zG ?_) | refine zP ?_
  refine z9 (α := { i : Nat // i ≤ xs.length ∧ ∀ j z, j < i → xs[j]? = some z → vRw z = true }) (fun i => ⟨[rwL xs, .any, .any, I i.1, .any, .any, .any, .any, .any, .any, .any, .any, .any, .any, .any, .any, .any, .any, .any], [], 0⟩) (fun i => xs.length - i.1) ⟨0, Nat.zero_le _, fun j z hj => absurd hj (Nat.not_lt_zero _)⟩ ?_ ?_
  · exact yW [] rfl rfl (by decide) .nil (by repeat' first | exact zj | refine zZ ?_ ?_ | exact zp | exact le_refl rfl | exact zm rfl rfl | exact zu rfl)
  · rintro ⟨i, hi, hb⟩
    repeat' first | refine zL ?_ | refine zA ?_ | refine zQ [] ?_ | (refine isA ?_; refine zf rfl ?_) | (refine isL ?_; refine zV rfl (by kernel_rfl) rfl rfl ?_) | (refine zc rfl ?_; refine zU rfl (by kernel_rfl) rfl rfl ?_) | refine zD ?_ | refine zB _ rfl (by kernel_rfl) ?_ | refine zW rfl ?_ | refine zX rfl ?_ | refine zC ?_ | with_reducible refine zO ?_ | refine zI ?_ | refine zJ ?_ | (with_reducible first | refine zM ?_ | refine zN ?_ | refine zF ?_ | refine zH ?_ | refine zG ?_) | refine zP ?_
    refine zh rfl (fun h => ?_) (fun h => ?_)
    · have hlt : i < xs.length := by simpa using h
      obtain ⟨z, hz⟩ : ∃ z, xs[i]? = some z := ⟨_, List.getElem?_eq_getElem hlt⟩
      repeat' first | refine zL ?_ | refine zA ?_ | refine zQ [] ?_ | (refine isA ?_; refine zf rfl ?_) | (refine isL ?_; refine zV rfl (by kernel_rfl) rfl rfl ?_) | (refine zc rfl ?_; refine zU rfl (by kernel_rfl) rfl rfl ?_) | (refine yB ?_; refine za rfl (zz (t := rwT) (z := z) rfl rfl rfl rfl (Int.natCast_nonneg i) hz) rfl ?_) | (refine yA rfl ?_; refine zT rfl (by kernel_rfl) rfl (zz (t := rwT) (z := z) rfl rfl rfl rfl (Int.natCast_nonneg i) hz) rfl ?_) | (refine zr 99 ?_; refine za rfl (zK rfl (sG z) (.cons (.same rfl) .nil) rfl) rfl ?_) | (refine zq 99 rfl ?_; refine zT rfl (by kernel_rfl) rfl (zK rfl (sG z) (.cons (.same rfl) .nil) rfl) rfl ?_) | refine zD ?_ | refine zB _ rfl (by kernel_rfl) ?_ | refine zW rfl ?_ | refine zX rfl ?_ | refine zC ?_ | with_reducible refine zO ?_ | refine zI ?_ | refine zJ ?_ | (with_reducible first | refine zM ?_ | refine zN ?_ | refine zF ?_ | refine zH ?_ | refine zG ?_) | refine zP ?_
      refine zh rfl (fun h1 => ?_) (fun h1 => ?_)
      · have h2 : vRw z = false := by simpa using h1
        repeat' first | refine zL ?_ | refine zA ?_ | refine zQ [] ?_ | (refine isA ?_; refine zf rfl ?_) | (refine isL ?_; refine zV rfl (by kernel_rfl) rfl rfl ?_) | (refine zc rfl ?_; refine zU rfl (by kernel_rfl) rfl rfl ?_) | exact yJ rfl rfl (by rw [avR, fT hz h2, Bool.false_and]) | refine zD ?_ | refine zB _ rfl (by kernel_rfl) ?_ | refine zW rfl ?_ | refine zX rfl ?_ | refine zC ?_ | with_reducible refine zO ?_ | refine zI ?_ | refine zJ ?_ | (with_reducible first | refine zM ?_ | refine zN ?_ | refine zF ?_ | refine zH ?_ | refine zG ?_) | refine zP ?_
      · have h2 : vRw z = true := by simpa using h1
        repeat' first | refine zL ?_ | refine zA ?_ | refine zQ [] ?_ | (refine isA ?_; refine zf rfl ?_) | (refine isL ?_; refine zV rfl (by kernel_rfl) rfl rfl ?_) | (refine zc rfl ?_; refine zU rfl (by kernel_rfl) rfl rfl ?_) | refine zD ?_ | refine zB _ rfl (by kernel_rfl) ?_ | refine zW rfl ?_ | refine zX rfl ?_ | refine zC ?_ | with_reducible refine zO ?_ | refine zI ?_ | refine zJ ?_ | (with_reducible first | refine zM ?_ | refine zN ?_ | refine zF ?_ | refine zH ?_ | refine zG ?_) | refine zP ?_
        refine ⟨⟨i + 1, hlt, fun j y hj hy => ?_⟩, by simp only; omega, ?_⟩
        · rcases Nat.lt_succ_iff_lt_or_eq.1 hj with hj | rfl
          · exact hb j y hj hy
          · rw [hz] at hy; cases hy; exact h2
        · exact yW [] rfl rfl (by decide) .nil (by repeat' first | exact zj | refine zZ ?_ ?_ | exact zp | exact le_refl rfl | exact zm rfl rfl | exact zu rfl | exact xL (by assumption) (by omega))
    · have hge : i = xs.length := by
        have : ¬ ((i : Int) < xs.length) := by simpa using h
        omega
      subst hge
      repeat' first | refine zL ?_ | refine zA ?_ | refine zQ [] ?_ | (refine isA ?_; refine zf rfl ?_) | (refine isL ?_; refine zV rfl (by kernel_rfl) rfl rfl ?_) | (refine zc rfl ?_; refine zU rfl (by kernel_rfl) rfl rfl ?_) | exact yJ rfl rfl (by rw [avR, lf hb, Bool.true_and]) | refine zD ?_ | refine zB _ rfl (by kernel_rfl) ?_ | refine zW rfl ?_ | refine zX rfl ?_ | refine zC ?_ | with_reducible refine zO ?_ | refine zI ?_ | refine zJ ?_ | (with_reducible first | refine zM ?_ | refine zN ?_ | refine zF ?_ | refine zH ?_ | refine zG ?_) | refine zP ?_
theorem th (xs : List Rw) (hl : xs.length ≤ 1000000000) : zy Go.Proofs.Try.prog 74 [rwL xs] [] (B (avR xs)) [] false := by
  refine zw [2] Go.Proofs.Try.func74 rfl rfl ?_
  simp only [Go.Proofs.Try.ntmps74, List.length_cons, List.length_nil, Nat.reduceAdd, Nat.reduceSub, List.replicate_succ, List.replicate_zero, List.cons_append, List.nil_append]
  repeat' first | refine zL ?_ | refine zA ?_ | refine zQ [] ?_ | (refine isA ?_; refine zf rfl ?_) | (refine isL ?_; refine zV rfl (by kernel_rfl) rfl rfl ?_) | (refine zc rfl ?_; refine zU rfl (by kernel_rfl) rfl rfl ?_) | (refine zr 121 ?_; refine za rfl (zK rfl (fL xs hl) (.cons (.same rfl) .nil) rfl) rfl ?_) | (refine zq 121 rfl ?_; refine zT rfl (by kernel_rfl) rfl (zK rfl (fL xs hl) (.cons (.same rfl) .nil) rfl) rfl ?_) | exact yJ rfl rfl (by first | ((try simp only [Bool.not_eq_true', Bool.not_eq_false'] at *); simp only [avR, *, Bool.true_and, Bool.false_and, Bool.and_true, Bool.and_false, Bool.true_or, Bool.false_or, Bool.or_true, Bool.or_false, Bool.not_true, Bool.not_false, cond_true, cond_false]; done) | (simp_all [avR]; done) | (simp_all [avR]; intros; omega)) | refine zD ?_ | refine zB _ rfl (by kernel_rfl) ?_ | refine zW rfl ?_ | refine zX rfl ?_ | refine zC ?_ | with_reducible refine zO ?_ | refine zI ?_ | refine zJ ?_ | (with_reducible first | refine zM ?_ | refine zN ?_ | refine zF ?_ | refine zH ?_ | refine zG ?_) | refine zP ?_ | (refine wy ?_; refine yb rfl rfl (fun hbr => ?_) (fun hbr => ?_) <;> (fail_if_success (with_reducible (have hx : true = true := hbr))) <;> (fail_if_success (with_reducible (have hx : false = false := hbr)))) | (refine zc rfl ?_; refine yK rfl rfl rfl rfl (fun hbr => ?_) (fun hbr => ?_) <;> (fail_if_success (with_reducible (have hx : true = true := hbr))) <;> (fail_if_success (with_reducible (have hx : false = false := hbr))))
theorem x5 (xs : List Rw) (hl : xs.length ≤ 1000000000) : zy Go.Proofs.Try.prog 114 [rwL xs] [] (.sl 0 0 xs.length) [rwR xs] false := by
  refine zw [2] Go.Proofs.Try.func114 rfl rfl ?_
  simp only [Go.Proofs.Try.ntmps114, List.length_cons, List.length_nil, Nat.reduceAdd, Nat.reduceSub, List.replicate_succ, List.replicate_zero, List.cons_append, List.nil_append]
  repeat' first | refine zL ?_ | refine zA ?_ | refine zQ [] ?_ | (refine isA ?_; refine zf rfl ?_) | (refine isL ?_; refine zV rfl (by kernel_rfl) rfl rfl ?_) | (refine zc rfl ?_; refine zU rfl (by kernel_rfl) rfl rfl ?_) | (refine xd ?_; refine za rfl (db (T := rwT) (xs := xs) rfl rfl rfl rfl hl rfl) rfl ?_) | (refine xH rfl ?_; refine zT rfl (by kernel_rfl) rfl (db (T := rwT) (xs := xs) rfl rfl rfl rfl hl rfl) rfl ?_) | exact jb [0] rfl (wb (by decide) (.cons rfl rfl rfl rfl (zY (zE _ _)) .nil)) (zm rfl rfl) (Or.inr ⟨rfl, fun q hq => by simp at hq; subst hq; exact ⟨Nat.zero_ne_one, fun _ => (xu _).flatS⟩⟩) | refine zD ?_ | refine zB _ rfl (by kernel_rfl) ?_ | refine zW rfl ?_ | refine zX rfl ?_ | refine zC ?_ | with_reducible refine zO ?_ | refine zI ?_ | refine zJ ?_ | (with_reducible first | refine zM ?_ | refine zN ?_ | refine zF ?_ | refine zH ?_ | refine zG ?_) | refine zP ?_
end Go.Proofs.Ytojcojanokhnaaa.Ab
namespace Go.Proofs.Ytojcojanokhnaaa.Ab
open Go.RowKit
def um (a b : Int) : Int := cond (decide (a < b)) (-1) (cond (decide (b < a)) 1 0)
def ur : List Int → List Int → Int
  | x :: xs, y :: ys => cond (decide (x < y)) (-1) (cond (decide (y < x)) 1 (ur xs ys))
  | _, _ => 0
def rwN (x : Rw) : List Int := [x.a, x.b, x.c]
def yu (x y : Rw) : Int := ur (rwN x) (rwN y)
theorem uT (a b : Int) : zy Go.Proofs.Try.prog 117 [I a, I b] [] (I (um a b)) [] false := by
  refine zw [4] Go.Proofs.Try.func117 rfl rfl ?_
  simp only [Go.Proofs.Try.ntmps117, List.length_cons, List.length_nil, Nat.reduceAdd, Nat.reduceSub, List.replicate_succ, List.replicate_zero, List.cons_append, List.nil_append]
  repeat' first | refine zL ?_ | refine zA ?_ | refine zQ [] ?_ | (refine isA ?_; refine zf rfl ?_) | (refine isL ?_; refine zV rfl (by kernel_rfl) rfl rfl ?_) | (refine zc rfl ?_; refine zU rfl (by kernel_rfl) rfl rfl ?_) | exact yJ rfl rfl (by simp only [um, *, cond_true, cond_false]) | refine zD ?_ | refine zB _ rfl (by kernel_rfl) ?_ | refine zW rfl ?_ | refine zX rfl ?_ | refine zC ?_ | with_reducible refine zO ?_ | refine zI ?_ | refine zJ ?_ | (with_reducible first | refine zM ?_ | refine zN ?_ | refine zF ?_ | refine zH ?_ | refine zG ?_) | refine zP ?_ | refine zh rfl (fun hbr => ?_) (fun hbr => ?_) | (refine wy ?_; refine yb rfl rfl (fun hbr => ?_) (fun hbr => ?_) <;> (fail_if_success (with_reducible (have hx : true = true := hbr))) <;> (fail_if_success (with_reducible (have hx : false = false := hbr)))) | (refine zc rfl ?_; refine yK rfl rfl rfl rfl (fun hbr => ?_) (fun hbr => ?_) <;> (fail_if_success (with_reducible (have hx : true = true := hbr))) <;> (fail_if_success (with_reducible (have hx : false = false := hbr))))
theorem gp {a b : Int} {xs ys : List Int} (h : um a b ≠ 0) : ur (a :: xs) (b :: ys) = um a b := by
  rw [ur]
  unfold um at h ⊢
  generalize decide (a < b) = p at h ⊢
  generalize decide (b < a) = q at h ⊢
  cases p
  · cases q
    · exact absurd rfl h
    · rfl
  · rfl
theorem mL {a b : Int} {xs ys : List Int} (h : um a b = 0) : ur (a :: xs) (b :: ys) = ur xs ys := by
  rw [ur]
  unfold um at h
  generalize decide (a < b) = p at h ⊢
  generalize decide (b < a) = q at h ⊢
  cases p
  · cases q
    · rfl
    · cases h
  · cases h
theorem eH {a b : Int} : ur [a] [b] = um a b := rfl
theorem xO (x y : Rw) : zy Go.Proofs.Try.prog 64 [.agg (rwE x), .agg (rwE y)] [] (I (yu x y)) [] false := by
  refine zw [4] Go.Proofs.Try.func64 rfl rfl ?_
  simp only [Go.Proofs.Try.ntmps64, List.length_cons, List.length_nil, Nat.reduceAdd, Nat.reduceSub, List.replicate_succ, List.replicate_zero, List.cons_append, List.nil_append]
  repeat' first | refine zL ?_ | refine zA ?_ | refine zQ [] ?_ | (refine isA ?_; refine zf rfl ?_) | (refine isL ?_; refine zV rfl (by kernel_rfl) rfl rfl ?_) | (refine zc rfl ?_; refine zU rfl (by kernel_rfl) rfl rfl ?_) | (refine zr 117 ?_; refine za rfl (zK rfl (uT _ _) (.cons (.same rfl) (.cons (.same rfl) .nil)) rfl) rfl ?_) | (refine zq 117 rfl ?_; refine zT rfl (by kernel_rfl) rfl (zK rfl (uT _ _) (.cons (.same rfl) (.cons (.same rfl) .nil)) rfl) rfl ?_) | refine zD ?_ | refine zB _ rfl (by kernel_rfl) ?_ | refine zW rfl ?_ | refine zX rfl ?_ | refine zC ?_ | with_reducible refine zO ?_ | refine zI ?_ | refine zJ ?_ | (with_reducible first | refine zM ?_ | refine zN ?_ | refine zF ?_ | refine zH ?_ | refine zG ?_) | refine zP ?_
  refine zh rfl (fun h => ?_) (fun h => ?_)
  · have h1 : um x.a y.a ≠ 0 := by simpa using h
    have e : yu x y = um x.a y.a := gp h1
    repeat' first | refine zL ?_ | refine zA ?_ | refine zQ [] ?_ | (refine isA ?_; refine zf rfl ?_) | (refine isL ?_; refine zV rfl (by kernel_rfl) rfl rfl ?_) | (refine zc rfl ?_; refine zU rfl (by kernel_rfl) rfl rfl ?_) | exact yJ rfl rfl (by rw [e]) | refine zD ?_ | refine zB _ rfl (by kernel_rfl) ?_ | refine zW rfl ?_ | refine zX rfl ?_ | refine zC ?_ | with_reducible refine zO ?_ | refine zI ?_ | refine zJ ?_ | (with_reducible first | refine zM ?_ | refine zN ?_ | refine zF ?_ | refine zH ?_ | refine zG ?_) | refine zP ?_
  have h1 : um x.a y.a = 0 := by simpa using h
  repeat' first | refine zL ?_ | refine zA ?_ | refine zQ [] ?_ | (refine isA ?_; refine zf rfl ?_) | (refine isL ?_; refine zV rfl (by kernel_rfl) rfl rfl ?_) | (refine zc rfl ?_; refine zU rfl (by kernel_rfl) rfl rfl ?_) | (refine zr 117 ?_; refine za rfl (zK rfl (uT _ _) (.cons (.same rfl) (.cons (.same rfl) .nil)) rfl) rfl ?_) | (refine zq 117 rfl ?_; refine zT rfl (by kernel_rfl) rfl (zK rfl (uT _ _) (.cons (.same rfl) (.cons (.same rfl) .nil)) rfl) rfl ?_) | refine zD ?_ | refine zB _ rfl (by kernel_rfl) ?_ | refine zW rfl ?_ | refine zX rfl ?_ | refine zC ?_ | with_reducible refine zO ?_ | refine zI ?_ | refine zJ ?_ | (with_reducible first | refine zM ?_ | refine zN ?_ | refine zF ?_ | refine zH ?_ | refine zG ?_) | refine zP ?_
  refine zh rfl (fun h => ?_) (fun h => ?_)
  · have h2 : um x.b y.b ≠ 0 := by simpa using h
    have e : yu x y = um x.b y.b := (mL h1).trans (gp h2)
    repeat' first | refine zL ?_ | refine zA ?_ | refine zQ [] ?_ | (refine isA ?_; refine zf rfl ?_) | (refine isL ?_; refine zV rfl (by kernel_rfl) rfl rfl ?_) | (refine zc rfl ?_; refine zU rfl (by kernel_rfl) rfl rfl ?_) | exact yJ rfl rfl (by rw [e]) | refine zD ?_ | refine zB _ rfl (by kernel_rfl) ?_ | refine zW rfl ?_ | refine zX rfl ?_ | refine zC ?_ | with_reducible refine zO ?_ | refine zI ?_ | refine zJ ?_ | (with_reducible first | refine zM ?_ | refine zN ?_ | refine zF ?_ | refine zH ?_ | refine zG ?_) | refine zP ?_
  have h2 : um x.b y.b = 0 := by simpa using h
  have e : yu x y = um x.c y.c := (mL h1).trans ((mL h2).trans eH)
  repeat' first | refine zL ?_ | refine zA ?_ | refine zQ [] ?_ | (refine isA ?_; refine zf rfl ?_) | (refine isL ?_; refine zV rfl (by kernel_rfl) rfl rfl ?_) | (refine zc rfl ?_; refine zU rfl (by kernel_rfl) rfl rfl ?_) | (refine zr 117 ?_; refine za rfl (zK rfl (uT _ _) (.cons (.same rfl) (.cons (.same rfl) .nil)) rfl) rfl ?_) | (refine zq 117 rfl ?_; refine zT rfl (by kernel_rfl) rfl (zK rfl (uT _ _) (.cons (.same rfl) (.cons (.same rfl) .nil)) rfl) rfl ?_) | exact yJ rfl rfl (by rw [e]) | refine zD ?_ | refine zB _ rfl (by kernel_rfl) ?_ | refine zW rfl ?_ | refine zX rfl ?_ | refine zC ?_ | with_reducible refine zO ?_ | refine zI ?_ | refine zJ ?_ | (with_reducible first | refine zM ?_ | refine zN ?_ | refine zF ?_ | refine zH ?_ | refine zG ?_) | refine zP ?_
def yP : Ty Int := ⟨1, fun n => [I n], fun _ => rfl, by decide, fun r c hc => by
  simp only [List.mem_cons, List.not_mem_nil, or_false] at hc
  subst hc
  exact ⟨rfl, rfl⟩⟩
theorem cC {xs ys : List Int} {i : Nat} {a b : Int} (hx : xs[i]? = some a) (hy : ys[i]? = some b) : ur (xs.drop i) (ys.drop i) = cond (decide (a < b)) (-1) (cond (decide (b < a)) 1 (ur (xs.drop (i + 1)) (ys.drop (i + 1)))) := by
  rw [yI hx, yI hy, ur]
theorem xz (x y : Rw) : zy Go.Proofs.Try.prog 68 [.agg (rwE x), .agg (rwE y)] [] (I (yu x y)) [] false := by
  refine zw [4] Go.Proofs.Try.func68 rfl rfl ?_
  simp only [Go.Proofs.Try.ntmps68, List.length_cons, List.length_nil, Nat.reduceAdd, Nat.reduceSub, List.replicate_succ, List.replicate_zero, List.cons_append, List.nil_append]
  repeat' first | refine zL ?_ | refine zA ?_ | refine zQ [] ?_ | (refine isA ?_; refine zf rfl ?_) | (refine isL ?_; refine zV rfl (by kernel_rfl) rfl rfl ?_) | (refine zc rfl ?_; refine zU rfl (by kernel_rfl) rfl rfl ?_) | refine zD ?_ | refine zB _ rfl (by kernel_rfl) ?_ | refine zW rfl ?_ | refine zX rfl ?_ | refine zC ?_ | with_reducible refine zO ?_ | refine zI ?_ | refine zJ ?_ | (with_reducible first | refine zM ?_ | refine zN ?_ | refine zF ?_ | refine zH ?_ | refine zG ?_) | refine zP ?_
  refine z9 (α := { i : Nat // i ≤ 3 ∧ ur ((rwN x).drop i) ((rwN y).drop i) = yu x y }) (fun i => ⟨[.any, .any, .any, .any, .any, .sl 0 0 3, .sl 1 0 3, I i.1, .any, .any, .any, .any, .any, .any, .any, .any, .any, .any, .any, .any, .any, .any, .any, .any, .any, .any, .any, .any, .any, .any, .any, .any, .any, .any, .any, .any, .any, .any, .any, .any, .any, .any, .any, .any], [yV yP 3 (rwN x), yV yP 3 (rwN y)], 0⟩) (fun i => 3 - i.1) ⟨0, Nat.zero_le _, rfl⟩ ?_ ?_
  · exact yW [2, 3] rfl rfl (by decide) (.cons rfl rfl rfl rfl (z5 rfl) (.cons rfl rfl rfl rfl (z5 rfl) .nil)) (by repeat' first | exact zj | refine zZ ?_ ?_ | exact zp | exact le_refl rfl | exact zm rfl rfl | exact zu rfl)
  · rintro ⟨i, hi, hq⟩
    repeat' first | refine zL ?_ | refine zA ?_ | refine zQ [] ?_ | (refine isA ?_; refine zf rfl ?_) | (refine isL ?_; refine zV rfl (by kernel_rfl) rfl rfl ?_) | (refine zc rfl ?_; refine zU rfl (by kernel_rfl) rfl rfl ?_) | refine zD ?_ | refine zB _ rfl (by kernel_rfl) ?_ | refine zW rfl ?_ | refine zX rfl ?_ | refine zC ?_ | with_reducible refine zO ?_ | refine zI ?_ | refine zJ ?_ | (with_reducible first | refine zM ?_ | refine zN ?_ | refine zF ?_ | refine zH ?_ | refine zG ?_) | refine zP ?_
    refine zh rfl (fun h => ?_) (fun h => ?_)
    · have hlt : i < 3 := by have := of_decide_eq_true h; simp only at this; omega
      obtain ⟨a, ha⟩ : ∃ z, (rwN x)[i]? = some z := ⟨_, List.getElem?_eq_getElem hlt⟩
      obtain ⟨b, hb⟩ : ∃ z, (rwN y)[i]? = some z := ⟨_, List.getElem?_eq_getElem hlt⟩
      rw [cC ha hb] at hq
      repeat' first | refine zL ?_ | refine zA ?_ | refine zQ [] ?_ | (refine isA ?_; refine zf rfl ?_) | (refine isL ?_; refine zV rfl (by kernel_rfl) rfl rfl ?_) | (refine zc rfl ?_; refine zU rfl (by kernel_rfl) rfl rfl ?_) | (refine yB (x := .tmp 26) ?_; refine za rfl (qH (t := yP) (xs := rwN x) rfl rfl rfl rfl rfl (Int.natCast_nonneg i) (by simp only; show (i : Int) < 3; omega)) rfl ?_) | (refine yA (x := .tmp 26) rfl ?_; refine zT rfl (by kernel_rfl) rfl (qH (t := yP) (xs := rwN x) rfl rfl rfl rfl rfl (Int.natCast_nonneg i) (by simp only; show (i : Int) < 3; omega)) rfl ?_) | (refine yB (x := .tmp 30) ?_; refine za rfl (qH (t := yP) (xs := rwN y) rfl rfl rfl rfl rfl (Int.natCast_nonneg i) (by simp only; show (i : Int) < 3; omega)) rfl ?_) | (refine yA (x := .tmp 30) rfl ?_; refine zT rfl (by kernel_rfl) rfl (qH (t := yP) (xs := rwN y) rfl rfl rfl rfl rfl (Int.natCast_nonneg i) (by simp only; show (i : Int) < 3; omega)) rfl ?_) | (refine xi (x := .tmp 28) ?_; refine za rfl (nN (T := yP) (i := i) (off := 0) (xs := rwN x) (z := a) rfl rfl rfl ha rfl) rfl ?_) | (refine xh (x := .tmp 28) rfl ?_; refine zT rfl (by kernel_rfl) rfl (nN (T := yP) (i := i) (off := 0) (xs := rwN x) (z := a) rfl rfl rfl ha rfl) rfl ?_) | (refine xi (x := .tmp 32) ?_; refine za rfl (nN (T := yP) (i := i) (off := 0) (xs := rwN y) (z := b) rfl rfl rfl hb rfl) rfl ?_) | (refine xh (x := .tmp 32) rfl ?_; refine zT rfl (by kernel_rfl) rfl (nN (T := yP) (i := i) (off := 0) (xs := rwN y) (z := b) rfl rfl rfl hb rfl) rfl ?_) | refine zD ?_ | refine zB _ rfl (by kernel_rfl) ?_ | refine zW rfl ?_ | refine zX rfl ?_ | refine zC ?_ | with_reducible refine zO ?_ | refine zI ?_ | refine zJ ?_ | (with_reducible first | refine zM ?_ | refine zN ?_ | refine zF ?_ | refine zH ?_ | refine zG ?_) | refine zP ?_
      refine zh rfl (fun h1 => ?_) (fun h1 => ?_)
      · rw [h1, cond_true] at hq
        repeat' first | refine zL ?_ | refine zA ?_ | refine zQ [] ?_ | (refine isA ?_; refine zf rfl ?_) | (refine isL ?_; refine zV rfl (by kernel_rfl) rfl rfl ?_) | (refine zc rfl ?_; refine zU rfl (by kernel_rfl) rfl rfl ?_) | exact yJ rfl rfl (congrArg I hq) | refine zD ?_ | refine zB _ rfl (by kernel_rfl) ?_ | refine zW rfl ?_ | refine zX rfl ?_ | refine zC ?_ | with_reducible refine zO ?_ | refine zI ?_ | refine zJ ?_ | (with_reducible first | refine zM ?_ | refine zN ?_ | refine zF ?_ | refine zH ?_ | refine zG ?_) | refine zP ?_
      rw [h1, cond_false] at hq
      repeat' first | refine zL ?_ | refine zA ?_ | refine zQ [] ?_ | (refine isA ?_; refine zf rfl ?_) | (refine isL ?_; refine zV rfl (by kernel_rfl) rfl rfl ?_) | (refine zc rfl ?_; refine zU rfl (by kernel_rfl) rfl rfl ?_) | (refine yB (x := .tmp 35) ?_; refine za rfl (qH (t := yP) (xs := rwN x) rfl rfl rfl rfl rfl (Int.natCast_nonneg i) (by simp only; show (i : Int) < 3; omega)) rfl ?_) | (refine yA (x := .tmp 35) rfl ?_; refine zT rfl (by kernel_rfl) rfl (qH (t := yP) (xs := rwN x) rfl rfl rfl rfl rfl (Int.natCast_nonneg i) (by simp only; show (i : Int) < 3; omega)) rfl ?_) | (refine yB (x := .tmp 39) ?_; refine za rfl (qH (t := yP) (xs := rwN y) rfl rfl rfl rfl rfl (Int.natCast_nonneg i) (by simp only; show (i : Int) < 3; omega)) rfl ?_) | (refine yA (x := .tmp 39) rfl ?_; refine zT rfl (by kernel_rfl) rfl (qH (t := yP) (xs := rwN y) rfl rfl rfl rfl rfl (Int.natCast_nonneg i) (by simp only; show (i : Int) < 3; omega)) rfl ?_) | (refine xi (x := .tmp 37) ?_; refine za rfl (nN (T := yP) (i := i) (off := 0) (xs := rwN x) (z := a) rfl rfl rfl ha rfl) rfl ?_) | (refine xh (x := .tmp 37) rfl ?_; refine zT rfl (by kernel_rfl) rfl (nN (T := yP) (i := i) (off := 0) (xs := rwN x) (z := a) rfl rfl rfl ha rfl) rfl ?_) | (refine xi (x := .tmp 41) ?_; refine za rfl (nN (T := yP) (i := i) (off := 0) (xs := rwN y) (z := b) rfl rfl rfl hb rfl) rfl ?_) | (refine xh (x := .tmp 41) rfl ?_; refine zT rfl (by kernel_rfl) rfl (nN (T := yP) (i := i) (off := 0) (xs := rwN y) (z := b) rfl rfl rfl hb rfl) rfl ?_) | refine zD ?_ | refine zB _ rfl (by kernel_rfl) ?_ | refine zW rfl ?_ | refine zX rfl ?_ | refine zC ?_ | with_reducible refine zO ?_ | refine zI ?_ | refine zJ ?_ | (with_reducible first | refine zM ?_ | refine zN ?_ | refine zF ?_ | refine zH ?_ | refine zG ?_) | refine zP ?_
      refine zh rfl (fun h2 => ?_) (fun h2 => ?_)
      · rw [h2, cond_true] at hq
        repeat' first | refine zL ?_ | refine zA ?_ | refine zQ [] ?_ | (refine isA ?_; refine zf rfl ?_) | (refine isL ?_; refine zV rfl (by kernel_rfl) rfl rfl ?_) | (refine zc rfl ?_; refine zU rfl (by kernel_rfl) rfl rfl ?_) | exact yJ rfl rfl (congrArg I hq) | refine zD ?_ | refine zB _ rfl (by kernel_rfl) ?_ | refine zW rfl ?_ | refine zX rfl ?_ | refine zC ?_ | with_reducible refine zO ?_ | refine zI ?_ | refine zJ ?_ | (with_reducible first | refine zM ?_ | refine zN ?_ | refine zF ?_ | refine zH ?_ | refine zG ?_) | refine zP ?_
      rw [h2, cond_false] at hq
      repeat' first | refine zL ?_ | refine zA ?_ | refine zQ [] ?_ | (refine isA ?_; refine zf rfl ?_) | (refine isL ?_; refine zV rfl (by kernel_rfl) rfl rfl ?_) | (refine zc rfl ?_; refine zU rfl (by kernel_rfl) rfl rfl ?_) | refine zD ?_ | refine zB _ rfl (by kernel_rfl) ?_ | refine zW rfl ?_ | refine zX rfl ?_ | refine zC ?_ | with_reducible refine zO ?_ | refine zI ?_ | refine zJ ?_ | (with_reducible first | refine zM ?_ | refine zN ?_ | refine zF ?_ | refine zH ?_ | refine zG ?_) | refine zP ?_
      refine ⟨⟨i + 1, hlt, hq⟩, by simp only; omega, ?_⟩
      exact yW [0, 1] rfl rfl (by decide) (.cons rfl rfl rfl rfl (z5 rfl) (.cons rfl rfl rfl rfl (z5 rfl) .nil)) (by
        repeat' first | exact zj | refine zZ ?_ ?_ | exact zp | exact le_refl rfl | exact zm rfl rfl | exact xL hlt (by omega))
    · have hge : i = 3 := by have := of_decide_eq_false h; simp only at this; omega
      subst hge
      repeat' first | refine zL ?_ | refine zA ?_ | refine zQ [] ?_ | (refine isA ?_; refine zf rfl ?_) | (refine isL ?_; refine zV rfl (by kernel_rfl) rfl rfl ?_) | (refine zc rfl ?_; refine zU rfl (by kernel_rfl) rfl rfl ?_) | exact yJ rfl rfl (congrArg I hq) | refine zD ?_ | refine zB _ rfl (by kernel_rfl) ?_ | refine zW rfl ?_ | refine zX rfl ?_ | refine zC ?_ | with_reducible refine zO ?_ | refine zI ?_ | refine zJ ?_ | (with_reducible first | refine zM ?_ | refine zN ?_ | refine zF ?_ | refine zH ?_ | refine zG ?_) | refine zP ?_
def mgV : List Rw → List Rw → List Rw
  | [], ys => ys
  | x :: xs, [] => x :: xs
  | x :: xs, y :: ys => cond (decide (yu x y ≤ 0)) (x :: mgV xs (y :: ys)) (y :: mgV (x :: xs) ys)
termination_by xs ys => xs.length + ys.length
theorem uD (ys : List Rw) : mgV [] ys = ys := by rw [mgV]
theorem tC (xs : List Rw) : mgV xs [] = xs := by cases xs <;> rw [mgV]
theorem my {x y : Rw} {xs ys : List Rw} (h : decide (yu x y ≤ 0) = true) : mgV (x :: xs) (y :: ys) = x :: mgV xs (y :: ys) := by rw [mgV, h, cond_true]
theorem mz {x y : Rw} {xs ys : List Rw} (h : decide (yu x y ≤ 0) = false) : mgV (x :: xs) (y :: ys) = y :: mgV (x :: xs) ys := by rw [mgV, h, cond_false]
theorem tW : ∀ (xs ys : List Rw), (mgV xs ys).length = xs.length + ys.length
  | [], ys => by rw [uD]; simp
  | x :: xs, [] => by rw [tC]; simp
  | x :: xs, y :: ys => by
    cases h : decide (yu x y ≤ 0) with
    | true => rw [my h, List.length_cons, tW xs (y :: ys)]; simp; omega
    | false => rw [mz h, List.length_cons, tW (x :: xs) ys]; simp; omega
termination_by xs ys => xs.length + ys.length
theorem mgA1 {a b : List Rw} {i k : Nat} {x : Rw} (hx : a[i]? = some x) (hk : b.length ≤ k) : mgV (a.drop i) (b.drop k) = x :: mgV (a.drop (i + 1)) (b.drop k) := by
  rw [yI hx, List.drop_of_length_le hk, tC, tC]
theorem mgA2 {a b : List Rw} {i k : Nat} {x y : Rw} (hx : a[i]? = some x) (hy : b[k]? = some y) (h : decide (yu x y ≤ 0) = true) : mgV (a.drop i) (b.drop k) = x :: mgV (a.drop (i + 1)) (b.drop k) := by
  rw [yI hx, yI hy, my h]
theorem mgB1 {a b : List Rw} {i k : Nat} {x y : Rw} (hx : a[i]? = some x) (hy : b[k]? = some y) (h : decide (yu x y ≤ 0) = false) : mgV (a.drop i) (b.drop k) = y :: mgV (a.drop i) (b.drop (k + 1)) := by
  rw [yI hx, yI hy, mz h]
theorem mgB2 {a b : List Rw} {i k : Nat} {y : Rw} (hy : b[k]? = some y) (hi : a.length ≤ i) : mgV (a.drop i) (b.drop k) = y :: mgV (a.drop i) (b.drop (k + 1)) := by
  rw [yI hy, List.drop_of_length_le hi, uD, uD]
theorem dY (a b : List Rw) (h1 : a.length ≤ 100000000) (h2 : b.length ≤ 100000000) : zy Go.Proofs.Try.prog 87 [rwL a, rwL b] [] (.sl 0 0 (mgV a b).length) [rwR (mgV a b)] false := by
  refine zw [4] Go.Proofs.Try.func87 rfl rfl ?_
  simp only [Go.Proofs.Try.ntmps87, List.length_cons, List.length_nil, Nat.reduceAdd, Nat.reduceSub, List.replicate_succ, List.replicate_zero, List.cons_append, List.nil_append]
  repeat' first | refine zL ?_ | refine zA ?_ | refine zQ [] ?_ | (refine isA ?_; refine zf rfl ?_) | (refine isL ?_; refine zV rfl (by kernel_rfl) rfl rfl ?_) | (refine zc rfl ?_; refine zU rfl (by kernel_rfl) rfl rfl ?_) | refine zD ?_ | refine zB _ rfl (by kernel_rfl) ?_ | refine zW rfl ?_ | refine zX rfl ?_ | refine zC ?_ | with_reducible refine zO ?_ | refine zI ?_ | refine zJ ?_ | (with_reducible first | refine zM ?_ | refine zN ?_ | refine zF ?_ | refine zH ?_ | refine zG ?_) | refine zP ?_
  refine z9 (α := { p : Nat × Nat × List Rw // p.1 ≤ a.length ∧ p.2.1 ≤ b.length ∧ p.2.2.length = p.1 + p.2.1 ∧ p.2.2 ++ mgV (a.drop p.1) (b.drop p.2.1) = mgV a b }) (fun p => ⟨((rwL a) :: (rwL b) :: .any :: .any :: .any :: (.sl 0 0 p.1.2.2.length) :: (I p.1.1) :: (I p.1.2.1) :: .any :: .any :: .any :: .any :: .any :: .any :: .any :: .any :: .any :: .any :: .any :: .any :: .any :: .any :: .any :: .any :: .any :: .any :: .any :: .any :: .any :: .any :: .any :: .any :: .any :: .any :: .any :: .any :: .any :: .any :: .any :: .any :: .any :: .any :: .any :: .any :: .any :: .any :: .any :: .any :: .any :: .any :: .any :: .any :: .any :: .any :: .any :: .any :: .any :: .any :: .any :: .any :: []), [rwR p.1.2.2], 0⟩) (fun p => a.length + b.length - p.1.1 - p.1.2.1) ⟨(0, 0, []), Nat.zero_le _, Nat.zero_le _, rfl, rfl⟩ ?_ ?_
  · exact yW [0] rfl rfl (by decide) (.cons rfl rfl rfl rfl (zY (zE _ _)) .nil) (by repeat' first | exact zj | refine zZ ?_ ?_ | exact zp | exact le_refl rfl | exact zm rfl rfl | exact zu rfl)
  · rintro ⟨⟨i, k, out⟩, hi, hk, ho, hq⟩
    simp only at hi hk ho hq
    repeat' first | refine zL ?_ | refine zA ?_ | refine zQ [] ?_ | (refine isA ?_; refine zf rfl ?_) | (refine isL ?_; refine zV rfl (by kernel_rfl) rfl rfl ?_) | (refine zc rfl ?_; refine zU rfl (by kernel_rfl) rfl rfl ?_) | refine zD ?_ | refine zB _ rfl (by kernel_rfl) ?_ | refine zW rfl ?_ | refine zX rfl ?_ | refine zC ?_ | with_reducible refine zO ?_ | refine zI ?_ | refine zJ ?_ | (with_reducible first | refine zM ?_ | refine zN ?_ | refine zF ?_ | refine zH ?_ | refine zG ?_) | refine zP ?_
    refine yb rfl rfl (fun p1 => ?_) (fun p1 => ?_)
    · have q1 : i < a.length := by have := of_decide_eq_true p1; simp only at this; omega
      obtain ⟨x, hx⟩ : ∃ z, a[i]? = some z := ⟨_, List.getElem?_eq_getElem q1⟩
      repeat' first | refine zL ?_ | refine zA ?_ | refine zQ [] ?_ | (refine isA ?_; refine zf rfl ?_) | (refine isL ?_; refine zV rfl (by kernel_rfl) rfl rfl ?_) | (refine zc rfl ?_; refine zU rfl (by kernel_rfl) rfl rfl ?_) | refine zD ?_ | refine zB _ rfl (by kernel_rfl) ?_ | refine zW rfl ?_ | refine zX rfl ?_ | refine zC ?_ | with_reducible refine zO ?_ | refine zI ?_ | refine zJ ?_ | (with_reducible first | refine zM ?_ | refine zN ?_ | refine zF ?_ | refine zH ?_ | refine zG ?_) | refine zP ?_
      refine yK rfl rfl rfl rfl (fun p2 => ?_) (fun p2 => ?_)
      · have q2 : b.length ≤ k := by have := of_decide_eq_true p2; simp only at this; omega
        repeat' first | refine zL ?_ | refine zA ?_ | refine zQ [] ?_ | (refine isA ?_; refine zf rfl ?_) | (refine isL ?_; refine zV rfl (by kernel_rfl) rfl rfl ?_) | (refine zc rfl ?_; refine zU rfl (by kernel_rfl) rfl rfl ?_) | (refine yB (x := .tmp 42) ?_; refine za rfl (zz (t := rwT) (z := x) rfl rfl rfl rfl (Int.natCast_nonneg i) hx) rfl ?_) | (refine yA (x := .tmp 42) rfl ?_; refine zT rfl (by kernel_rfl) rfl (zz (t := rwT) (z := x) rfl rfl rfl rfl (Int.natCast_nonneg i) hx) rfl ?_) | (refine xd ?_; refine za rfl (yX (t := rwT) (xs := out) (ys := [x]) rfl rfl rfl rfl (xw rfl rfl rfl rfl) (by simp; omega) rfl) rfl ?_) | (refine xH rfl ?_; refine zT rfl (by kernel_rfl) rfl (yX (t := rwT) (xs := out) (ys := [x]) rfl rfl rfl rfl (xw rfl rfl rfl rfl) (by simp; omega) rfl) rfl ?_) | refine zD ?_ | refine zB _ rfl (by kernel_rfl) ?_ | refine zW rfl ?_ | refine zX rfl ?_ | refine zC ?_ | with_reducible refine zO ?_ | refine zI ?_ | refine zJ ?_ | (with_reducible first | refine zM ?_ | refine zN ?_ | refine zF ?_ | refine zH ?_ | refine zG ?_) | refine zP ?_
        refine ⟨⟨(i + 1, k, out ++ [x]), by simp only; omega, by simp only; omega, by simp only [List.length_append, List.length_singleton]; omega, by simp only [List.append_assoc, List.singleton_append]; rw [← hq, mgA1 hx q2]⟩, by simp only; omega, ?_⟩
        exact yW [2] rfl rfl (by decide) (.cons rfl rfl rfl rfl (zY (zE _ _)) .nil) (by
            repeat' first | exact zj | refine zZ ?_ ?_ | exact zp | exact le_refl rfl | exact zm rfl rfl | exact zm rfl (by simp) | exact xL (n := a.length) (by omega) (by omega) | exact xL (n := b.length) (by omega) (by omega))
      · have q2 : k < b.length := by have := of_decide_eq_false p2; simp only at this; omega
        obtain ⟨y, hy⟩ : ∃ z, b[k]? = some z := ⟨_, List.getElem?_eq_getElem q2⟩
        repeat' first | refine zL ?_ | refine zA ?_ | refine zQ [] ?_ | (refine isA ?_; refine zf rfl ?_) | (refine isL ?_; refine zV rfl (by kernel_rfl) rfl rfl ?_) | (refine zc rfl ?_; refine zU rfl (by kernel_rfl) rfl rfl ?_) | refine zD ?_ | refine zB _ rfl (by kernel_rfl) ?_ | refine zW rfl ?_ | refine zX rfl ?_ | refine zC ?_ | with_reducible refine zO ?_ | refine zI ?_ | refine zJ ?_ | (with_reducible first | refine zM ?_ | refine zN ?_ | refine zF ?_ | refine zH ?_ | refine zG ?_) | refine zP ?_
        refine yK rfl rfl rfl rfl (fun _ => ?_) (fun k => absurd (of_decide_eq_false k) (by simp only; omega))
        repeat' first | refine zL ?_ | refine zA ?_ | refine zQ [] ?_ | (refine isA ?_; refine zf rfl ?_) | (refine isL ?_; refine zV rfl (by kernel_rfl) rfl rfl ?_) | (refine zc rfl ?_; refine zU rfl (by kernel_rfl) rfl rfl ?_) | (refine yB (x := .tmp 29) ?_; refine za rfl (zz (t := rwT) (z := x) rfl rfl rfl rfl (Int.natCast_nonneg i) hx) rfl ?_) | (refine yA (x := .tmp 29) rfl ?_; refine zT rfl (by kernel_rfl) rfl (zz (t := rwT) (z := x) rfl rfl rfl rfl (Int.natCast_nonneg i) hx) rfl ?_) | (refine yB (x := .tmp 33) ?_; refine za rfl (zz (t := rwT) (z := y) rfl rfl rfl rfl (Int.natCast_nonneg k) hy) rfl ?_) | (refine yA (x := .tmp 33) rfl ?_; refine zT rfl (by kernel_rfl) rfl (zz (t := rwT) (z := y) rfl rfl rfl rfl (Int.natCast_nonneg k) hy) rfl ?_) | (refine zr 68 ?_; refine za rfl (zK rfl (xz x y) (.cons (.same rfl) (.cons (.same rfl) .nil)) rfl) rfl ?_) | (refine zq 68 rfl ?_; refine zT rfl (by kernel_rfl) rfl (zK rfl (xz x y) (.cons (.same rfl) (.cons (.same rfl) .nil)) rfl) rfl ?_) | refine zD ?_ | refine zB _ rfl (by kernel_rfl) ?_ | refine zW rfl ?_ | refine zX rfl ?_ | refine zC ?_ | with_reducible refine zO ?_ | refine zI ?_ | refine zJ ?_ | (with_reducible first | refine zM ?_ | refine zN ?_ | refine zF ?_ | refine zH ?_ | refine zG ?_) | refine zP ?_
        refine zh rfl (fun p3 => ?_) (fun p3 => ?_)
        · skip
          repeat' first | refine zL ?_ | refine zA ?_ | refine zQ [] ?_ | (refine isA ?_; refine zf rfl ?_) | (refine isL ?_; refine zV rfl (by kernel_rfl) rfl rfl ?_) | (refine zc rfl ?_; refine zU rfl (by kernel_rfl) rfl rfl ?_) | (refine yB (x := .tmp 42) ?_; refine za rfl (zz (t := rwT) (z := x) rfl rfl rfl rfl (Int.natCast_nonneg i) hx) rfl ?_) | (refine yA (x := .tmp 42) rfl ?_; refine zT rfl (by kernel_rfl) rfl (zz (t := rwT) (z := x) rfl rfl rfl rfl (Int.natCast_nonneg i) hx) rfl ?_) | (refine xd ?_; refine za rfl (yX (t := rwT) (xs := out) (ys := [x]) rfl rfl rfl rfl (xw rfl rfl rfl rfl) (by simp; omega) rfl) rfl ?_) | (refine xH rfl ?_; refine zT rfl (by kernel_rfl) rfl (yX (t := rwT) (xs := out) (ys := [x]) rfl rfl rfl rfl (xw rfl rfl rfl rfl) (by simp; omega) rfl) rfl ?_) | refine zD ?_ | refine zB _ rfl (by kernel_rfl) ?_ | refine zW rfl ?_ | refine zX rfl ?_ | refine zC ?_ | with_reducible refine zO ?_ | refine zI ?_ | refine zJ ?_ | (with_reducible first | refine zM ?_ | refine zN ?_ | refine zF ?_ | refine zH ?_ | refine zG ?_) | refine zP ?_
          refine ⟨⟨(i + 1, k, out ++ [x]), by simp only; omega, by simp only; omega, by simp only [List.length_append, List.length_singleton]; omega, by simp only [List.append_assoc, List.singleton_append]; rw [← hq, mgA2 hx hy p3]⟩, by simp only; omega, ?_⟩
          exact yW [2] rfl rfl (by decide) (.cons rfl rfl rfl rfl (zY (zE _ _)) .nil) (by
              repeat' first | exact zj | refine zZ ?_ ?_ | exact zp | exact le_refl rfl | exact zm rfl rfl | exact zm rfl (by simp) | exact xL (n := a.length) (by omega) (by omega) | exact xL (n := b.length) (by omega) (by omega))
        · skip
          repeat' first | refine zL ?_ | refine zA ?_ | refine zQ [] ?_ | (refine isA ?_; refine zf rfl ?_) | (refine isL ?_; refine zV rfl (by kernel_rfl) rfl rfl ?_) | (refine zc rfl ?_; refine zU rfl (by kernel_rfl) rfl rfl ?_) | (refine yB (x := .tmp 51) ?_; refine za rfl (zz (t := rwT) (z := y) rfl rfl rfl rfl (Int.natCast_nonneg k) hy) rfl ?_) | (refine yA (x := .tmp 51) rfl ?_; refine zT rfl (by kernel_rfl) rfl (zz (t := rwT) (z := y) rfl rfl rfl rfl (Int.natCast_nonneg k) hy) rfl ?_) | (refine xd ?_; refine za rfl (yX (t := rwT) (xs := out) (ys := [y]) rfl rfl rfl rfl (xw rfl rfl rfl rfl) (by simp; omega) rfl) rfl ?_) | (refine xH rfl ?_; refine zT rfl (by kernel_rfl) rfl (yX (t := rwT) (xs := out) (ys := [y]) rfl rfl rfl rfl (xw rfl rfl rfl rfl) (by simp; omega) rfl) rfl ?_) | refine zD ?_ | refine zB _ rfl (by kernel_rfl) ?_ | refine zW rfl ?_ | refine zX rfl ?_ | refine zC ?_ | with_reducible refine zO ?_ | refine zI ?_ | refine zJ ?_ | (with_reducible first | refine zM ?_ | refine zN ?_ | refine zF ?_ | refine zH ?_ | refine zG ?_) | refine zP ?_
          refine ⟨⟨(i, k + 1, out ++ [y]), by simp only; omega, by simp only; omega, by simp only [List.length_append, List.length_singleton]; omega, by simp only [List.append_assoc, List.singleton_append]; rw [← hq, mgB1 hx hy p3]⟩, by simp only; omega, ?_⟩
          exact yW [2] rfl rfl (by decide) (.cons rfl rfl rfl rfl (zY (zE _ _)) .nil) (by
              repeat' first | exact zj | refine zZ ?_ ?_ | exact zp | exact le_refl rfl | exact zm rfl rfl | exact zm rfl (by simp) | exact xL (n := a.length) (by omega) (by omega) | exact xL (n := b.length) (by omega) (by omega))
    · have q1 : a.length ≤ i := by have := of_decide_eq_false p1; simp only at this; omega
      repeat' first | refine zL ?_ | refine zA ?_ | refine zQ [] ?_ | (refine isA ?_; refine zf rfl ?_) | (refine isL ?_; refine zV rfl (by kernel_rfl) rfl rfl ?_) | (refine zc rfl ?_; refine zU rfl (by kernel_rfl) rfl rfl ?_) | refine zD ?_ | refine zB _ rfl (by kernel_rfl) ?_ | refine zW rfl ?_ | refine zX rfl ?_ | refine zC ?_ | with_reducible refine zO ?_ | refine zI ?_ | refine zJ ?_ | (with_reducible first | refine zM ?_ | refine zN ?_ | refine zF ?_ | refine zH ?_ | refine zG ?_) | refine zP ?_
      refine zh rfl (fun p2 => ?_) (fun p2 => ?_)
      · have q2 : k < b.length := by have := of_decide_eq_true p2; simp only at this; omega
        obtain ⟨y, hy⟩ : ∃ z, b[k]? = some z := ⟨_, List.getElem?_eq_getElem q2⟩
        repeat' first | refine zL ?_ | refine zA ?_ | refine zQ [] ?_ | (refine isA ?_; refine zf rfl ?_) | (refine isL ?_; refine zV rfl (by kernel_rfl) rfl rfl ?_) | (refine zc rfl ?_; refine zU rfl (by kernel_rfl) rfl rfl ?_) | refine zD ?_ | refine zB _ rfl (by kernel_rfl) ?_ | refine zW rfl ?_ | refine zX rfl ?_ | refine zC ?_ | with_reducible refine zO ?_ | refine zI ?_ | refine zJ ?_ | (with_reducible first | refine zM ?_ | refine zN ?_ | refine zF ?_ | refine zH ?_ | refine zG ?_) | refine zP ?_
        refine yK rfl rfl rfl rfl (fun k => absurd (of_decide_eq_true k) (by simp only; omega)) (fun _ => ?_)
        repeat' first | refine zL ?_ | refine zA ?_ | refine zQ [] ?_ | (refine isA ?_; refine zf rfl ?_) | (refine isL ?_; refine zV rfl (by kernel_rfl) rfl rfl ?_) | (refine zc rfl ?_; refine zU rfl (by kernel_rfl) rfl rfl ?_) | refine zD ?_ | refine zB _ rfl (by kernel_rfl) ?_ | refine zW rfl ?_ | refine zX rfl ?_ | refine zC ?_ | with_reducible refine zO ?_ | refine zI ?_ | refine zJ ?_ | (with_reducible first | refine zM ?_ | refine zN ?_ | refine zF ?_ | refine zH ?_ | refine zG ?_) | refine zP ?_
        refine yK rfl rfl rfl rfl (fun k => absurd (of_decide_eq_true k) (by simp only; omega)) (fun _ => ?_)
        repeat' first | refine zL ?_ | refine zA ?_ | refine zQ [] ?_ | (refine isA ?_; refine zf rfl ?_) | (refine isL ?_; refine zV rfl (by kernel_rfl) rfl rfl ?_) | (refine zc rfl ?_; refine zU rfl (by kernel_rfl) rfl rfl ?_) | (refine yB (x := .tmp 51) ?_; refine za rfl (zz (t := rwT) (z := y) rfl rfl rfl rfl (Int.natCast_nonneg k) hy) rfl ?_) | (refine yA (x := .tmp 51) rfl ?_; refine zT rfl (by kernel_rfl) rfl (zz (t := rwT) (z := y) rfl rfl rfl rfl (Int.natCast_nonneg k) hy) rfl ?_) | (refine xd ?_; refine za rfl (yX (t := rwT) (xs := out) (ys := [y]) rfl rfl rfl rfl (xw rfl rfl rfl rfl) (by simp; omega) rfl) rfl ?_) | (refine xH rfl ?_; refine zT rfl (by kernel_rfl) rfl (yX (t := rwT) (xs := out) (ys := [y]) rfl rfl rfl rfl (xw rfl rfl rfl rfl) (by simp; omega) rfl) rfl ?_) | refine zD ?_ | refine zB _ rfl (by kernel_rfl) ?_ | refine zW rfl ?_ | refine zX rfl ?_ | refine zC ?_ | with_reducible refine zO ?_ | refine zI ?_ | refine zJ ?_ | (with_reducible first | refine zM ?_ | refine zN ?_ | refine zF ?_ | refine zH ?_ | refine zG ?_) | refine zP ?_
        refine ⟨⟨(i, k + 1, out ++ [y]), by simp only; omega, by simp only; omega, by simp only [List.length_append, List.length_singleton]; omega, by simp only [List.append_assoc, List.singleton_append]; rw [← hq, mgB2 hy q1]⟩, by simp only; omega, ?_⟩
        exact yW [2] rfl rfl (by decide) (.cons rfl rfl rfl rfl (zY (zE _ _)) .nil) (by
            repeat' first | exact zj | refine zZ ?_ ?_ | exact zp | exact le_refl rfl | exact zm rfl rfl | exact zm rfl (by simp) | exact xL (n := a.length) (by omega) (by omega) | exact xL (n := b.length) (by omega) (by omega))
      · have q2 : b.length ≤ k := by have := of_decide_eq_false p2; simp only at this; omega
        rw [List.drop_of_length_le q1, List.drop_of_length_le q2, uD, List.append_nil] at hq
        subst hq
        repeat' first | refine zL ?_ | refine zA ?_ | refine zQ [] ?_ | (refine isA ?_; refine zf rfl ?_) | (refine isL ?_; refine zV rfl (by kernel_rfl) rfl rfl ?_) | (refine zc rfl ?_; refine zU rfl (by kernel_rfl) rfl rfl ?_) | exact kI (ty := rwT) rfl rfl rfl rfl rfl rfl (xu _) | refine zD ?_ | refine zB _ rfl (by kernel_rfl) ?_ | refine zW rfl ?_ | refine zX rfl ?_ | refine zC ?_ | with_reducible refine zO ?_ | refine zI ?_ | refine zJ ?_ | (with_reducible first | refine zM ?_ | refine zN ?_ | refine zF ?_ | refine zH ?_ | refine zG ?_) | refine zP ?_
theorem kQ (xs : List Rw) (k : Nat) : ((rwT.flat xs).drop (0 * 3)).take ((k - 0) * 3) = rwT.flat (xs.take k) := by
  rw [Nat.zero_mul, List.drop_zero, Nat.sub_zero, show k * 3 = k * rwT.n from rfl, tb]
theorem go (xs : List Rw) (k : Nat) : ((rwT.flat xs).drop (k * 3)).take ((xs.length - k) * 3) = rwT.flat (xs.drop k) := by
  rw [show k * 3 = k * rwT.n from rfl, td, show (xs.length - k) * 3 = (xs.length - k) * rwT.n from rfl, tb, List.take_of_length_le (by simp)]
theorem ym {o : Oper} {ρ : Operand → V} {H : List Reg} {x y : Operand} {xs : List Rw} {k : Nat} {kk : IntKind} (ho : o.op = .slice 24 x none (some y) none) (hx : ρ x = rwL xs) (hy : ρ y = .k (.int kk k)) (hk : k ≤ xs.length) : z8 Go.Proofs.Try.prog o ρ H (rwL (xs.take k)) H := by
  have := v5 (P := Go.Proofs.Try.prog) (o := o) (ρ := ρ) (H := H) (l := 0) (h := k) ho hx (.no 0) (.yes _ hy) (yL rwT xs) (by omega) (by omega) (by omega)
  rw [Int.toNat_natCast, show Int.toNat 0 = 0 from rfl] at this
  rw [show rwL (xs.take k) = .lst (k - 0) (((rwT.flat xs).drop (0 * 3)).take ((k - 0) * 3)) by rw [kQ]; simp [xf]; omega]
  exact this
theorem xn {o : Oper} {ρ : Operand → V} {H : List Reg} {x y : Operand} {xs : List Rw} {k : Nat} {j : Int} {kk : IntKind} (ho : o.op = .slice 24 x (some y) none none) (hx : ρ x = rwL xs) (hy : ρ y = .k (.int kk j)) (hj : j = (k : Int)) (hk : k ≤ xs.length) : z8 Go.Proofs.Try.prog o ρ H (rwL (xs.drop k)) H := by
  subst hj
  have := v5 (P := Go.Proofs.Try.prog) (o := o) (ρ := ρ) (H := H) (l := k) (h := xs.length) ho hx (.yes _ hy) (.no _) (yL rwT xs) (by omega) (by omega) (by omega)
  rw [Int.toNat_natCast, Int.toNat_natCast] at this
  rw [show rwL (xs.drop k) = .lst (xs.length - k) (((rwT.flat xs).drop (k * 3)).take ((xs.length - k) * 3)) by rw [go]; simp [xf]]
  exact this
theorem da (a b : List Rw) (h1 : a.length ≤ 100000000) (h2 : b.length ≤ 100000000) : zy Go.Proofs.Try.prog 82 [rwL a, rwL b] [] (.sl 0 0 (mgV a b).length) [rwR (mgV a b)] false := by
  refine zw [4] Go.Proofs.Try.func82 rfl rfl ?_
  simp only [Go.Proofs.Try.ntmps82, List.length_cons, List.length_nil, Nat.reduceAdd, Nat.reduceSub, List.replicate_succ, List.replicate_zero, List.cons_append, List.nil_append]
  repeat' first | refine zL ?_ | refine zA ?_ | refine zQ [] ?_ | (refine isA ?_; refine zf rfl ?_) | (refine isL ?_; refine zV rfl (by kernel_rfl) rfl rfl ?_) | (refine zc rfl ?_; refine zU rfl (by kernel_rfl) rfl rfl ?_) | refine zD ?_ | refine zB _ rfl (by kernel_rfl) ?_ | refine zW rfl ?_ | refine zX rfl ?_ | refine zC ?_ | with_reducible refine zO ?_ | refine zI ?_ | refine zJ ?_ | (with_reducible first | refine zM ?_ | refine zN ?_ | refine zF ?_ | refine zH ?_ | refine zG ?_) | refine zP ?_
  refine z9 (α := { p : List Rw × List Rw × List Rw // p.2.2.length + p.1.length + p.2.1.length = a.length + b.length ∧ p.2.2 ++ mgV p.1 p.2.1 = mgV a b }) (fun p => ⟨[rwL p.1.1, rwL p.1.2.1, .any, .any, .any, .sl 0 0 p.1.2.2.length, .any, .any, .any, .any, .any, .any, .any, .any, .any, .any, .any, .any, .any, .any, .any, .any, .any, .any, .any, .any, .any, .any, .any, .any, .any, .any, .any, .any, .any, .any, .any, .any, .any, .any, .any, .any, .any, .any, .any, .any, .any, .any, .any, .any], [rwR p.1.2.2], 0⟩) (fun p => p.1.1.length + p.1.2.1.length) ⟨(a, b, []), by simp, rfl⟩ ?_ ?_
  · exact yW [0] rfl rfl (by decide) (.cons rfl rfl rfl rfl (zY (zE _ _)) .nil) (by repeat' first | exact zj | refine zZ ?_ ?_ | exact zp | exact le_refl rfl | exact zm rfl rfl | exact zu rfl)
  · rintro ⟨⟨c, d, out⟩, ho, hq⟩
    simp only at ho hq
    repeat' first | refine zL ?_ | refine zA ?_ | refine zQ [] ?_ | (refine isA ?_; refine zf rfl ?_) | (refine isL ?_; refine zV rfl (by kernel_rfl) rfl rfl ?_) | (refine zc rfl ?_; refine zU rfl (by kernel_rfl) rfl rfl ?_) | refine zD ?_ | refine zB _ rfl (by kernel_rfl) ?_ | refine zW rfl ?_ | refine zX rfl ?_ | refine zC ?_ | with_reducible refine zO ?_ | refine zI ?_ | refine zJ ?_ | (with_reducible first | refine zM ?_ | refine zN ?_ | refine zF ?_ | refine zH ?_ | refine zG ?_) | refine zP ?_
    refine yb rfl rfl (fun p1 => ?_) (fun p1 => ?_)
    · have q1 : 1 ≤ c.length := by have := of_decide_eq_true p1; simp only at this; omega
      obtain ⟨x, hx⟩ : ∃ z, c[0]? = some z := ⟨_, List.getElem?_eq_getElem q1⟩
      repeat' first | refine zL ?_ | refine zA ?_ | refine zQ [] ?_ | (refine isA ?_; refine zf rfl ?_) | (refine isL ?_; refine zV rfl (by kernel_rfl) rfl rfl ?_) | (refine zc rfl ?_; refine zU rfl (by kernel_rfl) rfl rfl ?_) | refine zD ?_ | refine zB _ rfl (by kernel_rfl) ?_ | refine zW rfl ?_ | refine zX rfl ?_ | refine zC ?_ | with_reducible refine zO ?_ | refine zI ?_ | refine zJ ?_ | (with_reducible first | refine zM ?_ | refine zN ?_ | refine zF ?_ | refine zH ?_ | refine zG ?_) | refine zP ?_
      refine yK rfl rfl rfl rfl (fun p2 => ?_) (fun p2 => ?_)
      · have q2 : d.length ≤ 0 := by have := of_decide_eq_true p2; simp only at this; omega
        have e : mgV c d = x :: mgV (c.drop 1) d := mgA1 (i := 0) (k := 0) hx q2
        repeat' first | refine zL ?_ | refine zA ?_ | refine zQ [] ?_ | (refine isA ?_; refine zf rfl ?_) | (refine isL ?_; refine zV rfl (by kernel_rfl) rfl rfl ?_) | (refine zc rfl ?_; refine zU rfl (by kernel_rfl) rfl rfl ?_) | (refine yB (x := .tmp 34) ?_; refine za rfl (zz (t := rwT) (z := x) rfl rfl rfl rfl (Int.le_refl 0) hx) rfl ?_) | (refine yA (x := .tmp 34) rfl ?_; refine zT rfl (by kernel_rfl) rfl (zz (t := rwT) (z := x) rfl rfl rfl rfl (Int.le_refl 0) hx) rfl ?_) | (refine xd ?_; refine za rfl (yX (t := rwT) (xs := out) (ys := [x]) rfl rfl rfl rfl (xw rfl rfl rfl rfl) (by simp; omega) rfl) rfl ?_) | (refine xH rfl ?_; refine zT rfl (by kernel_rfl) rfl (yX (t := rwT) (xs := out) (ys := [x]) rfl rfl rfl rfl (xw rfl rfl rfl rfl) (by simp; omega) rfl) rfl ?_) | (refine uF ?_; refine za rfl (xn (k := 1) rfl rfl rfl rfl q1) rfl ?_) | (refine uE rfl ?_; refine zT rfl (by kernel_rfl) rfl (xn (k := 1) rfl rfl rfl rfl q1) rfl ?_) | refine zD ?_ | refine zB _ rfl (by kernel_rfl) ?_ | refine zW rfl ?_ | refine zX rfl ?_ | refine zC ?_ | with_reducible refine zO ?_ | refine zI ?_ | refine zJ ?_ | (with_reducible first | refine zM ?_ | refine zN ?_ | refine zF ?_ | refine zH ?_ | refine zG ?_) | refine zP ?_
        refine ⟨⟨(c.drop 1, d, out ++ [x]), by simp only [List.length_append, List.length_singleton, List.length_drop]; omega, by simp only [List.append_assoc, List.singleton_append]; rw [← hq, e]⟩, by simp only [List.length_drop]; omega, ?_⟩
        exact yW [2] rfl rfl (by decide) (.cons rfl rfl rfl rfl (zY (zE _ _)) .nil) (by
            repeat' first | exact zj | refine zZ ?_ ?_ | exact zp | exact le_refl rfl | exact zm rfl rfl | exact zm rfl (by simp))
      · have q2 : 1 ≤ d.length := by have := of_decide_eq_false p2; simp only at this; omega
        obtain ⟨y, hy⟩ : ∃ z, d[0]? = some z := ⟨_, List.getElem?_eq_getElem q2⟩
        repeat' first | refine zL ?_ | refine zA ?_ | refine zQ [] ?_ | (refine isA ?_; refine zf rfl ?_) | (refine isL ?_; refine zV rfl (by kernel_rfl) rfl rfl ?_) | (refine zc rfl ?_; refine zU rfl (by kernel_rfl) rfl rfl ?_) | refine zD ?_ | refine zB _ rfl (by kernel_rfl) ?_ | refine zW rfl ?_ | refine zX rfl ?_ | refine zC ?_ | with_reducible refine zO ?_ | refine zI ?_ | refine zJ ?_ | (with_reducible first | refine zM ?_ | refine zN ?_ | refine zF ?_ | refine zH ?_ | refine zG ?_) | refine zP ?_
        refine yK rfl rfl rfl rfl (fun _ => ?_) (fun k => absurd (of_decide_eq_false k) (by simp only; omega))
        repeat' first | refine zL ?_ | refine zA ?_ | refine zQ [] ?_ | (refine isA ?_; refine zf rfl ?_) | (refine isL ?_; refine zV rfl (by kernel_rfl) rfl rfl ?_) | (refine zc rfl ?_; refine zU rfl (by kernel_rfl) rfl rfl ?_) | (refine yB (x := .tmp 23) ?_; refine za rfl (zz (t := rwT) (z := x) rfl rfl rfl rfl (Int.le_refl 0) hx) rfl ?_) | (refine yA (x := .tmp 23) rfl ?_; refine zT rfl (by kernel_rfl) rfl (zz (t := rwT) (z := x) rfl rfl rfl rfl (Int.le_refl 0) hx) rfl ?_) | (refine yB (x := .tmp 26) ?_; refine za rfl (zz (t := rwT) (z := y) rfl rfl rfl rfl (Int.le_refl 0) hy) rfl ?_) | (refine yA (x := .tmp 26) rfl ?_; refine zT rfl (by kernel_rfl) rfl (zz (t := rwT) (z := y) rfl rfl rfl rfl (Int.le_refl 0) hy) rfl ?_) | (refine zr 64 ?_; refine za rfl (zK rfl (xO x y) (.cons (.same rfl) (.cons (.same rfl) .nil)) rfl) rfl ?_) | (refine zq 64 rfl ?_; refine zT rfl (by kernel_rfl) rfl (zK rfl (xO x y) (.cons (.same rfl) (.cons (.same rfl) .nil)) rfl) rfl ?_) | refine zD ?_ | refine zB _ rfl (by kernel_rfl) ?_ | refine zW rfl ?_ | refine zX rfl ?_ | refine zC ?_ | with_reducible refine zO ?_ | refine zI ?_ | refine zJ ?_ | (with_reducible first | refine zM ?_ | refine zN ?_ | refine zF ?_ | refine zH ?_ | refine zG ?_) | refine zP ?_
        refine zh rfl (fun p3 => ?_) (fun p3 => ?_)
        · skip
          have e : mgV c d = x :: mgV (c.drop 1) d := mgA2 (i := 0) (k := 0) hx hy p3
          repeat' first | refine zL ?_ | refine zA ?_ | refine zQ [] ?_ | (refine isA ?_; refine zf rfl ?_) | (refine isL ?_; refine zV rfl (by kernel_rfl) rfl rfl ?_) | (refine zc rfl ?_; refine zU rfl (by kernel_rfl) rfl rfl ?_) | (refine yB (x := .tmp 34) ?_; refine za rfl (zz (t := rwT) (z := x) rfl rfl rfl rfl (Int.le_refl 0) hx) rfl ?_) | (refine yA (x := .tmp 34) rfl ?_; refine zT rfl (by kernel_rfl) rfl (zz (t := rwT) (z := x) rfl rfl rfl rfl (Int.le_refl 0) hx) rfl ?_) | (refine xd ?_; refine za rfl (yX (t := rwT) (xs := out) (ys := [x]) rfl rfl rfl rfl (xw rfl rfl rfl rfl) (by simp; omega) rfl) rfl ?_) | (refine xH rfl ?_; refine zT rfl (by kernel_rfl) rfl (yX (t := rwT) (xs := out) (ys := [x]) rfl rfl rfl rfl (xw rfl rfl rfl rfl) (by simp; omega) rfl) rfl ?_) | (refine uF ?_; refine za rfl (xn (k := 1) rfl rfl rfl rfl q1) rfl ?_) | (refine uE rfl ?_; refine zT rfl (by kernel_rfl) rfl (xn (k := 1) rfl rfl rfl rfl q1) rfl ?_) | refine zD ?_ | refine zB _ rfl (by kernel_rfl) ?_ | refine zW rfl ?_ | refine zX rfl ?_ | refine zC ?_ | with_reducible refine zO ?_ | refine zI ?_ | refine zJ ?_ | (with_reducible first | refine zM ?_ | refine zN ?_ | refine zF ?_ | refine zH ?_ | refine zG ?_) | refine zP ?_
          refine ⟨⟨(c.drop 1, d, out ++ [x]), by simp only [List.length_append, List.length_singleton, List.length_drop]; omega, by simp only [List.append_assoc, List.singleton_append]; rw [← hq, e]⟩, by simp only [List.length_drop]; omega, ?_⟩
          exact yW [2] rfl rfl (by decide) (.cons rfl rfl rfl rfl (zY (zE _ _)) .nil) (by
              repeat' first | exact zj | refine zZ ?_ ?_ | exact zp | exact le_refl rfl | exact zm rfl rfl | exact zm rfl (by simp))
        · skip
          have e : mgV c d = y :: mgV c (d.drop 1) := mgB1 (i := 0) (k := 0) hx hy p3
          repeat' first | refine zL ?_ | refine zA ?_ | refine zQ [] ?_ | (refine isA ?_; refine zf rfl ?_) | (refine isL ?_; refine zV rfl (by kernel_rfl) rfl rfl ?_) | (refine zc rfl ?_; refine zU rfl (by kernel_rfl) rfl rfl ?_) | (refine yB (x := .tmp 42) ?_; refine za rfl (zz (t := rwT) (z := y) rfl rfl rfl rfl (Int.le_refl 0) hy) rfl ?_) | (refine yA (x := .tmp 42) rfl ?_; refine zT rfl (by kernel_rfl) rfl (zz (t := rwT) (z := y) rfl rfl rfl rfl (Int.le_refl 0) hy) rfl ?_) | (refine xd ?_; refine za rfl (yX (t := rwT) (xs := out) (ys := [y]) rfl rfl rfl rfl (xw rfl rfl rfl rfl) (by simp; omega) rfl) rfl ?_) | (refine xH rfl ?_; refine zT rfl (by kernel_rfl) rfl (yX (t := rwT) (xs := out) (ys := [y]) rfl rfl rfl rfl (xw rfl rfl rfl rfl) (by simp; omega) rfl) rfl ?_) | (refine uF ?_; refine za rfl (xn (k := 1) rfl rfl rfl rfl q2) rfl ?_) | (refine uE rfl ?_; refine zT rfl (by kernel_rfl) rfl (xn (k := 1) rfl rfl rfl rfl q2) rfl ?_) | refine zD ?_ | refine zB _ rfl (by kernel_rfl) ?_ | refine zW rfl ?_ | refine zX rfl ?_ | refine zC ?_ | with_reducible refine zO ?_ | refine zI ?_ | refine zJ ?_ | (with_reducible first | refine zM ?_ | refine zN ?_ | refine zF ?_ | refine zH ?_ | refine zG ?_) | refine zP ?_
          refine ⟨⟨(c, d.drop 1, out ++ [y]), by simp only [List.length_append, List.length_singleton, List.length_drop]; omega, by simp only [List.append_assoc, List.singleton_append]; rw [← hq, e]⟩, by simp only [List.length_drop]; omega, ?_⟩
          exact yW [2] rfl rfl (by decide) (.cons rfl rfl rfl rfl (zY (zE _ _)) .nil) (by
              repeat' first | exact zj | refine zZ ?_ ?_ | exact zp | exact le_refl rfl | exact zm rfl rfl | exact zm rfl (by simp))
    · have q1 : c.length ≤ 0 := by have := of_decide_eq_false p1; simp only at this; omega
      repeat' first | refine zL ?_ | refine zA ?_ | refine zQ [] ?_ | (refine isA ?_; refine zf rfl ?_) | (refine isL ?_; refine zV rfl (by kernel_rfl) rfl rfl ?_) | (refine zc rfl ?_; refine zU rfl (by kernel_rfl) rfl rfl ?_) | refine zD ?_ | refine zB _ rfl (by kernel_rfl) ?_ | refine zW rfl ?_ | refine zX rfl ?_ | refine zC ?_ | with_reducible refine zO ?_ | refine zI ?_ | refine zJ ?_ | (with_reducible first | refine zM ?_ | refine zN ?_ | refine zF ?_ | refine zH ?_ | refine zG ?_) | refine zP ?_
      refine zh rfl (fun p2 => ?_) (fun p2 => ?_)
      · have q2 : 1 ≤ d.length := by have := of_decide_eq_true p2; simp only at this; omega
        obtain ⟨y, hy⟩ : ∃ z, d[0]? = some z := ⟨_, List.getElem?_eq_getElem q2⟩
        repeat' first | refine zL ?_ | refine zA ?_ | refine zQ [] ?_ | (refine isA ?_; refine zf rfl ?_) | (refine isL ?_; refine zV rfl (by kernel_rfl) rfl rfl ?_) | (refine zc rfl ?_; refine zU rfl (by kernel_rfl) rfl rfl ?_) | refine zD ?_ | refine zB _ rfl (by kernel_rfl) ?_ | refine zW rfl ?_ | refine zX rfl ?_ | refine zC ?_ | with_reducible refine zO ?_ | refine zI ?_ | refine zJ ?_ | (with_reducible first | refine zM ?_ | refine zN ?_ | refine zF ?_ | refine zH ?_ | refine zG ?_) | refine zP ?_
        refine yK rfl rfl rfl rfl (fun k => absurd (of_decide_eq_true k) (by simp only; omega)) (fun _ => ?_)
        repeat' first | refine zL ?_ | refine zA ?_ | refine zQ [] ?_ | (refine isA ?_; refine zf rfl ?_) | (refine isL ?_; refine zV rfl (by kernel_rfl) rfl rfl ?_) | (refine zc rfl ?_; refine zU rfl (by kernel_rfl) rfl rfl ?_) | refine zD ?_ | refine zB _ rfl (by kernel_rfl) ?_ | refine zW rfl ?_ | refine zX rfl ?_ | refine zC ?_ | with_reducible refine zO ?_ | refine zI ?_ | refine zJ ?_ | (with_reducible first | refine zM ?_ | refine zN ?_ | refine zF ?_ | refine zH ?_ | refine zG ?_) | refine zP ?_
        refine yK rfl rfl rfl rfl (fun k => absurd (of_decide_eq_true k) (by simp only; omega)) (fun _ => ?_)
        have e : mgV c d = y :: mgV c (d.drop 1) := mgB2 (i := 0) (k := 0) hy q1
        repeat' first | refine zL ?_ | refine zA ?_ | refine zQ [] ?_ | (refine isA ?_; refine zf rfl ?_) | (refine isL ?_; refine zV rfl (by kernel_rfl) rfl rfl ?_) | (refine zc rfl ?_; refine zU rfl (by kernel_rfl) rfl rfl ?_) | (refine yB (x := .tmp 42) ?_; refine za rfl (zz (t := rwT) (z := y) rfl rfl rfl rfl (Int.le_refl 0) hy) rfl ?_) | (refine yA (x := .tmp 42) rfl ?_; refine zT rfl (by kernel_rfl) rfl (zz (t := rwT) (z := y) rfl rfl rfl rfl (Int.le_refl 0) hy) rfl ?_) | (refine xd ?_; refine za rfl (yX (t := rwT) (xs := out) (ys := [y]) rfl rfl rfl rfl (xw rfl rfl rfl rfl) (by simp; omega) rfl) rfl ?_) | (refine xH rfl ?_; refine zT rfl (by kernel_rfl) rfl (yX (t := rwT) (xs := out) (ys := [y]) rfl rfl rfl rfl (xw rfl rfl rfl rfl) (by simp; omega) rfl) rfl ?_) | (refine uF ?_; refine za rfl (xn (k := 1) rfl rfl rfl rfl q2) rfl ?_) | (refine uE rfl ?_; refine zT rfl (by kernel_rfl) rfl (xn (k := 1) rfl rfl rfl rfl q2) rfl ?_) | refine zD ?_ | refine zB _ rfl (by kernel_rfl) ?_ | refine zW rfl ?_ | refine zX rfl ?_ | refine zC ?_ | with_reducible refine zO ?_ | refine zI ?_ | refine zJ ?_ | (with_reducible first | refine zM ?_ | refine zN ?_ | refine zF ?_ | refine zH ?_ | refine zG ?_) | refine zP ?_
        refine ⟨⟨(c, d.drop 1, out ++ [y]), by simp only [List.length_append, List.length_singleton, List.length_drop]; omega, by simp only [List.append_assoc, List.singleton_append]; rw [← hq, e]⟩, by simp only [List.length_drop]; omega, ?_⟩
        exact yW [2] rfl rfl (by decide) (.cons rfl rfl rfl rfl (zY (zE _ _)) .nil) (by
            repeat' first | exact zj | refine zZ ?_ ?_ | exact zp | exact le_refl rfl | exact zm rfl rfl | exact zm rfl (by simp))
      · have q2 : d.length ≤ 0 := by have := of_decide_eq_false p2; simp only at this; omega
        have c0 : c = [] := List.eq_nil_of_length_eq_zero (by omega)
        have d0 : d = [] := List.eq_nil_of_length_eq_zero (by omega)
        subst c0 d0
        rw [uD, List.append_nil] at hq
        subst hq
        repeat' first | refine zL ?_ | refine zA ?_ | refine zQ [] ?_ | (refine isA ?_; refine zf rfl ?_) | (refine isL ?_; refine zV rfl (by kernel_rfl) rfl rfl ?_) | (refine zc rfl ?_; refine zU rfl (by kernel_rfl) rfl rfl ?_) | exact kI (ty := rwT) rfl rfl rfl rfl rfl rfl (xu _) | refine zD ?_ | refine zB _ rfl (by kernel_rfl) ?_ | refine zW rfl ?_ | refine zX rfl ?_ | refine zC ?_ | with_reducible refine zO ?_ | refine zI ?_ | refine zJ ?_ | (with_reducible first | refine zM ?_ | refine zN ?_ | refine zF ?_ | refine zH ?_ | refine zG ?_) | refine zP ?_
end Go.Proofs.Ytojcojanokhnaaa.Ab
namespace Go.Proofs.Ytojcojanokhnaaa.Ab
open Go.RowKit
theorem vZ {x y : Rw} : yu x y ≤ 0 ↔ x.a < y.a ∨ (x.a = y.a ∧ (x.b < y.b ∨ (x.b = y.b ∧ x.c ≤ y.c))) := by
  unfold yu rwN
  simp only [ur]
  rcases Int.lt_trichotomy x.a y.a with h | h | h
  · rw [decide_eq_true h]; simp only [cond_true]; constructor
    · intro _; exact Or.inl h
    · intro _; omega
  · rw [decide_eq_false (show ¬ x.a < y.a by omega), decide_eq_false (show ¬ y.a < x.a by omega)]
    simp only [cond_false]
    rcases Int.lt_trichotomy x.b y.b with k | k | k
    · rw [decide_eq_true k]; simp only [cond_true]; omega
    · rw [decide_eq_false (show ¬ x.b < y.b by omega), decide_eq_false (show ¬ y.b < x.b by omega)]
      simp only [cond_false]
      rcases Int.lt_trichotomy x.c y.c with m | m | m
      · rw [decide_eq_true m]; simp only [cond_true]; omega
      · rw [decide_eq_false (show ¬ x.c < y.c by omega), decide_eq_false (show ¬ y.c < x.c by omega)]
        simp only [cond_false]; omega
      · rw [decide_eq_false (show ¬ x.c < y.c by omega), decide_eq_true m]
        simp only [cond_false, cond_true]; omega
    · rw [decide_eq_false (show ¬ x.b < y.b by omega), decide_eq_true k]
      simp only [cond_false, cond_true]; omega
  · rw [decide_eq_false (show ¬ x.a < y.a by omega), decide_eq_true h]
    simp only [cond_false, cond_true]; omega
def leW (x y : Rw) : Prop := yu x y ≤ 0
theorem sv (x : Rw) : leW x x := vZ.2 (by omega)
theorem xa {x y z : Rw} (h : leW x y) (k : leW y z) : leW x z := vZ.2 (by have := vZ.1 h; have := vZ.1 k; omega)
theorem kG (x y : Rw) : leW x y ∨ leW y x := by
  rcases Int.lt_or_le 0 (yu x y) with h | h
  · right
    have : ¬ yu x y ≤ 0 := by omega
    rw [vZ] at this
    exact vZ.2 (by omega)
  · exact Or.inl h
theorem nM {x y : Rw} (h : leW x y) (k : leW y x) : x = y := by
  have h1 := vZ.1 h
  have h2 := vZ.1 k
  cases x; cases y
  simp only at h1 h2
  congr <;> omega
theorem vB {x y : Rw} (h : ¬ leW x y) : leW y x := (kG x y).resolve_left h
theorem xg {x y : Rw} : yu x y < 0 ↔ ¬ leW y x := by
  have a1 := @vZ x y
  have a2 := @vZ y x
  constructor
  · intro h k
    have e := nM (show leW x y from by show yu x y ≤ 0; omega) k
    subst e
    have : yu x x = 0 := by unfold yu rwN; simp [ur]
    omega
  · intro h
    have h1 : ¬ yu y x ≤ 0 := h
    rcases Int.lt_or_le (yu x y) 0 with q | q
    · exact q
    · exfalso
      have hx : leW x y := vB h
      have e : yu x y = 0 := by have : yu x y ≤ 0 := hx; omega
      unfold yu rwN at e
      simp only [ur] at e
      have h2 := mt a2.2 h1
      have h3 := a1.1 hx
      rcases Int.lt_trichotomy x.a y.a with m | m | m
      · rw [decide_eq_true m] at e; cases e
      · rw [decide_eq_false (show ¬ x.a < y.a by omega), decide_eq_false (show ¬ y.a < x.a by omega)] at e
        simp only [cond_false] at e
        rcases Int.lt_trichotomy x.b y.b with m2 | m2 | m2
        · rw [decide_eq_true m2] at e; cases e
        · rw [decide_eq_false (show ¬ x.b < y.b by omega), decide_eq_false (show ¬ y.b < x.b by omega)] at e
          simp only [cond_false] at e
          have m3 : x.c < y.c := by omega
          rw [decide_eq_true m3] at e; cases e
        · omega
      · omega
def Srt (xs : List Rw) : Prop := xs.Pairwise leW
theorem vk : ∀ {xs ys : List Rw}, Srt xs → Srt ys → xs.Perm ys → xs = ys
  | [], ys, _, _, hp => by rw [List.Perm.nil_eq hp]
  | x :: xs, [], _, _, hp => by cases hp.length_eq
  | x :: xs, y :: ys, hx, hy, hp => by
    have hx' := List.pairwise_cons.1 hx
    have hy' := List.pairwise_cons.1 hy
    have e : x = y := by
      have m1 : y ∈ x :: xs := hp.symm.mem_iff.1 (List.mem_cons_self ..)
      have m2 : x ∈ y :: ys := hp.mem_iff.1 (List.mem_cons_self ..)
      rcases List.mem_cons.1 m1 with h | h
      · exact h.symm
      · rcases List.mem_cons.1 m2 with k | k
        · exact k
        · exact nM (hx'.1 y h) (hy'.1 x k)
    subst e
    rw [vk hx'.2 hy'.2 (List.Perm.cons_inv hp)]
def tG (x : Rw) : List Rw → List Rw
  | [] => [x]
  | y :: ys => cond (decide (yu y x ≤ 0)) (y :: tG x ys) (x :: y :: ys)
def yM (xs : List Rw) : List Rw := xs.foldl (fun o x => tG x o) []
theorem tF (x : Rw) : ∀ ys : List Rw, (tG x ys).Perm (x :: ys)
  | [] => .refl _
  | y :: ys => by
    rw [tG]
    cases decide (yu y x ≤ 0) with
    | true => exact ((tF x ys).cons y).trans (.swap _ _ _)
    | false => exact .refl _
theorem pI (x : Rw) : ∀ {ys : List Rw}, Srt ys → Srt (tG x ys)
  | [], _ => List.pairwise_singleton _ _
  | y :: ys, h => by
    have h' := List.pairwise_cons.1 h
    rw [tG]
    cases hd : decide (yu y x ≤ 0) with
    | true =>
      refine List.pairwise_cons.2 ⟨fun z hz => ?_, pI x h'.2⟩
      rcases List.mem_cons.1 ((tF x ys).mem_iff.1 hz) with rfl | hz
      · exact (show yu y _ ≤ 0 from of_decide_eq_true hd)
      · exact h'.1 z hz
    | false =>
      have hle : leW x y := vB (show ¬ yu y x ≤ 0 from of_decide_eq_false hd)
      refine List.pairwise_cons.2 ⟨fun z hz => ?_, h⟩
      rcases List.mem_cons.1 hz with rfl | hz
      · exact hle
      · exact xa hle (h'.1 z hz)
theorem qP (xs : List Rw) (x : Rw) : yM (xs ++ [x]) = tG x (yM xs) := by simp [yM]
theorem pL : ∀ (xs o : List Rw), Srt o → Srt (xs.foldl (fun o x => tG x o) o) ∧ (xs.foldl (fun o x => tG x o) o).Perm (o ++ xs)
  | [], o, h => ⟨h, by simp⟩
  | x :: xs, o, h => by
    obtain ⟨q1, q2⟩ := pL xs (tG x o) (pI x h)
    refine ⟨q1, q2.trans ?_⟩
    refine ((tF x o).append_right xs).trans ?_
    exact List.perm_middle.symm
theorem xV (xs : List Rw) : Srt (yM xs) := (pL xs [] List.Pairwise.nil).1
theorem ya (xs : List Rw) : (yM xs).Perm xs := by
  have h := (pL xs [] List.Pairwise.nil).2
  rw [List.nil_append] at h
  exact h
theorem wh {xs ys : List Rw} (h : Srt ys) (hp : ys.Perm xs) : ys = yM xs := vk h (xV xs) (hp.trans (ya xs).symm)
theorem xo (xs : List Rw) : (yM xs).length = xs.length := (ya xs).length_eq
end Go.Proofs.Ytojcojanokhnaaa.Ab
namespace Go.Proofs.Ytojcojanokhnaaa.Ab
open Go.RowKit
theorem v7 {xs : List Rw} (h : Srt xs) {i j : Nat} {x y : Rw} (hij : i ≤ j) (hx : xs[i]? = some x) (hy : xs[j]? = some y) : leW x y := by
  rcases Nat.lt_or_eq_of_le hij with hlt | rfl
  · obtain ⟨h1, rfl⟩ := List.getElem?_eq_some_iff.1 hx
    obtain ⟨h2, rfl⟩ := List.getElem?_eq_some_iff.1 hy
    exact List.pairwise_iff_getElem.1 h i j h1 h2 hlt
  · rw [hx] at hy
    cases hy
    exact sv _
theorem mF {out : List Rw} {x : Rw} {k : Nat} (hs : Srt out) (hk : k ≤ out.length) (hB : ∀ j z, k ≤ j → out[j]? = some z → ¬ leW z x) (hA : ∀ z, 0 < k → out[k - 1]? = some z → leW z x) : out.take k ++ x :: out.drop k = tG x out := by
  have hA' : ∀ z ∈ out.take k, leW z x := fun z hz => by
    obtain ⟨j, hj⟩ := List.getElem?_of_mem hz
    have hlt : j < k := by
      have := (List.getElem?_eq_some_iff.1 hj).1
      simp at this
      omega
    rw [List.getElem?_take_of_lt hlt] at hj
    obtain ⟨y, hy⟩ : ∃ y, out[k - 1]? = some y := ⟨_, List.getElem?_eq_getElem (by omega)⟩
    exact xa (v7 hs (show j ≤ k - 1 by omega) hj hy) (hA y (by omega) hy)
  have hB' : ∀ z ∈ out.drop k, leW x z := fun z hz => by
    obtain ⟨j, hj⟩ := List.getElem?_of_mem hz
    rw [List.getElem?_drop] at hj
    exact vB (hB (k + j) z (by omega) hj)
  refine vk ?_ (pI x hs) ?_
  · have hs' : Srt (out.take k ++ out.drop k) := by rw [List.take_append_drop]; exact hs
    obtain ⟨q1, q2, q3⟩ := List.pairwise_append.1 hs'
    refine List.pairwise_append.2 ⟨q1, List.pairwise_cons.2 ⟨hB', q2⟩, fun a ha c hc => ?_⟩
    rcases List.mem_cons.1 hc with rfl | hc
    · exact hA' a ha
    · exact q3 a ha c hc
  · refine List.perm_middle.trans ?_
    rw [List.take_append_drop]
    exact (tF x out).symm
theorem mg {H : List Reg} {h k off m : Nat} {xs : List Rw} (hH : H[h]? = some (rwR xs)) (hk : k ≤ xs.length) (ho : off = k) (hm : m = xs.length - k) : Src H (.sl h off m) (xs.drop k).length (rwT.flat (xs.drop k)) := by
  subst ho hm
  have q := Src.sl (H := H) (h := h) (off := off) (m := xs.length - off) hH (Nat.zero_le _) (by show (off + (xs.length - off)) * 3 ≤ (rwT.flat xs).length; rw [yL]; show _ ≤ xs.length * 3; omega)
  have e : ((rwR xs).cells.drop (off * (rwR xs).esz)).take ((xs.length - off) * (rwR xs).esz) = rwT.flat (xs.drop off) := go xs off
  rw [e] at q
  rw [List.length_drop]
  exact q
theorem uy {H : List Reg} {h k off m : Nat} {xs : List Rw} (hH : H[h]? = some (rwR xs)) (hk : k ≤ xs.length) (ho : off = 0) (hm : m = k) : Src H (.sl h off m) (xs.take k).length (rwT.flat (xs.take k)) := by
  subst ho hm
  have q := Src.sl (H := H) (h := h) (off := 0) (m := m) hH (Nat.zero_le _) (by show (0 + m) * 3 ≤ (rwT.flat xs).length; rw [yL]; show _ ≤ xs.length * 3; omega)
  have e : ((rwR xs).cells.drop (0 * (rwR xs).esz)).take (m * (rwR xs).esz) = rwT.flat (xs.take m) := kQ xs m
  rw [e] at q
  rw [List.length_take, Nat.min_eq_left hk]
  exact q
theorem t6 {H : List Reg} {h : Nat} {xs : List Rw} (hH : H[h]? = some (rwR xs)) : Src H (.sl h 0 xs.length) xs.length (rwT.flat xs) := by
  have q := uy (k := xs.length) hH (Nat.le_refl _) rfl rfl
  rw [List.take_length] at q
  exact q
theorem lS (xs : List Rw) (hl : xs.length ≤ 100000000) : zy Go.Proofs.Try.prog 28 [rwL xs] [] (.sl 0 0 (yM xs).length) [rwR (yM xs)] false := by
  refine zw [2] Go.Proofs.Try.func28 rfl rfl ?_
  simp only [Go.Proofs.Try.ntmps28, List.length_cons, List.length_nil, Nat.reduceAdd, Nat.reduceSub, List.replicate_succ, List.replicate_zero, List.cons_append, List.nil_append]
  repeat' first | refine zL ?_ | refine zA ?_ | refine zQ [] ?_ | (refine isA ?_; refine zf rfl ?_) | (refine isL ?_; refine zV rfl (by kernel_rfl) rfl rfl ?_) | (refine zc rfl ?_; refine zU rfl (by kernel_rfl) rfl rfl ?_) | refine zD ?_ | refine zB _ rfl (by kernel_rfl) ?_ | refine zW rfl ?_ | refine zX rfl ?_ | refine zC ?_ | with_reducible refine zO ?_ | refine zI ?_ | refine zJ ?_ | (with_reducible first | refine zM ?_ | refine zN ?_ | refine zF ?_ | refine zH ?_ | refine zG ?_) | refine zP ?_
  refine z9 (α := { i : Nat // i ≤ xs.length }) (fun i => ⟨[rwL xs, .any, .any, .sl 0 0 (yM (xs.take i.1)).length, I i.1, .any, .any, .any, .any, .any, .any, .any, .any, .any, .any, .any, .any, .any, .any, .any, .any, .any, .any, .any, .any, .any, .any, .any, .any, .any, .any, .any, .any, .any, .any, .any, .any, .any, .any, .any, .any, .any, .any, .any, .any, .any, .any, .any, .any, .any], [rwR (yM (xs.take i.1))], 0⟩) (fun i => xs.length - i.1) ⟨0, Nat.zero_le _⟩ ?_ ?_
  · exact yW [0] rfl rfl (by decide) (.cons rfl rfl rfl rfl (zY (zE _ _)) .nil) (by repeat' first | exact zj | refine zZ ?_ ?_ | exact zp | exact le_refl rfl | exact zm rfl rfl | exact zu rfl)
  · rintro ⟨i, hi⟩
    repeat' first | refine zL ?_ | refine zA ?_ | refine zQ [] ?_ | (refine isA ?_; refine zf rfl ?_) | (refine isL ?_; refine zV rfl (by kernel_rfl) rfl rfl ?_) | (refine zc rfl ?_; refine zU rfl (by kernel_rfl) rfl rfl ?_) | refine zD ?_ | refine zB _ rfl (by kernel_rfl) ?_ | refine zW rfl ?_ | refine zX rfl ?_ | refine zC ?_ | with_reducible refine zO ?_ | refine zI ?_ | refine zJ ?_ | (with_reducible first | refine zM ?_ | refine zN ?_ | refine zF ?_ | refine zH ?_ | refine zG ?_) | refine zP ?_
    refine zh rfl (fun h => ?_) (fun h => ?_)
    · have hlt : i < xs.length := by simpa using h
      obtain ⟨x, hx⟩ : ∃ z, xs[i]? = some z := ⟨_, List.getElem?_eq_getElem hlt⟩
      have e1 : yM (xs.take (i + 1)) = tG x (yM (xs.take i)) := by rw [List.take_add_one, hx]; exact qP _ _
      have hso := xV (xs.take i)
      have hol : (yM (xs.take i)).length = i := by rw [xo]; simp; omega
      generalize yM (xs.take i) = out at e1 hso hol
      repeat' first | refine zL ?_ | refine zA ?_ | refine zQ [] ?_ | (refine isA ?_; refine zf rfl ?_) | (refine isL ?_; refine zV rfl (by kernel_rfl) rfl rfl ?_) | (refine zc rfl ?_; refine zU rfl (by kernel_rfl) rfl rfl ?_) | refine zD ?_ | refine zB _ rfl (by kernel_rfl) ?_ | refine zW rfl ?_ | refine zX rfl ?_ | refine zC ?_ | with_reducible refine zO ?_ | refine zI ?_ | refine zJ ?_ | (with_reducible first | refine zM ?_ | refine zN ?_ | refine zF ?_ | refine zH ?_ | refine zG ?_) | refine zP ?_
      refine z9 (α := { k : Nat // k ≤ out.length ∧ ∀ j z, k ≤ j → out[j]? = some z → ¬ leW z x }) (fun k => ⟨[rwL xs, .any, .any, .sl 0 0 out.length, I i, I k.1, .any, .any, .any, .any, .any, .any, .any, .any, .any, .any, .any, .any, .any, .any, .any, .any, .any, .any, .any, .any, .any, .any, .any, .any, .any, .any, .any, .any, .any, .any, .any, .any, .any, .any, .any, .any, .any, .any, .any, .any, .any, .any, .any, .any], [rwR out], 0⟩) (fun k => k.1) ⟨out.length, Nat.le_refl _, fun j z hj hz => absurd (List.getElem?_eq_some_iff.1 hz).1 (by omega)⟩ ?_ ?_
      · exact yW [0] rfl rfl (by decide) (.cons rfl rfl rfl rfl (zY (zE _ _)) .nil) (by repeat' first | exact zj | refine zZ ?_ ?_ | exact zp | exact le_refl rfl | exact zm rfl rfl | exact zu rfl)
      · rintro ⟨k, hk, hB⟩
        repeat' first | refine zL ?_ | refine zA ?_ | refine zQ [] ?_ | (refine isA ?_; refine zf rfl ?_) | (refine isL ?_; refine zV rfl (by kernel_rfl) rfl rfl ?_) | (refine zc rfl ?_; refine zU rfl (by kernel_rfl) rfl rfl ?_) | refine zD ?_ | refine zB _ rfl (by kernel_rfl) ?_ | refine zW rfl ?_ | refine zX rfl ?_ | refine zC ?_ | with_reducible refine zO ?_ | refine zI ?_ | refine zJ ?_ | (with_reducible first | refine zM ?_ | refine zN ?_ | refine zF ?_ | refine zH ?_ | refine zG ?_) | refine zP ?_
        refine yK rfl rfl rfl rfl (fun p1 => ?_) (fun p1 => ?_)
        · have q1 : 0 < k := by have := of_decide_eq_true p1; simp only at this; omega
          obtain ⟨y, hy⟩ : ∃ z, out[k - 1]? = some z := ⟨_, List.getElem?_eq_getElem (by omega)⟩
          have ew : IntKind.i64.wrap ((k : Int) - 1) = ((k - 1 : Nat) : Int) := by rw [IntKind.wrap_i64]; omega
          repeat' first | refine zL ?_ | refine zA ?_ | refine zQ [] ?_ | (refine isA ?_; refine zf rfl ?_) | (refine isL ?_; refine zV rfl (by kernel_rfl) rfl rfl ?_) | (refine zc rfl ?_; refine zU rfl (by kernel_rfl) rfl rfl ?_) | (refine yB (x := .tmp 24) ?_; refine za rfl (zz (t := rwT) (z := x) rfl rfl rfl rfl (Int.natCast_nonneg i) hx) rfl ?_) | (refine yA (x := .tmp 24) rfl ?_; refine zT rfl (by kernel_rfl) rfl (zz (t := rwT) (z := x) rfl rfl rfl rfl (Int.natCast_nonneg i) hx) rfl ?_) | (refine yB (x := .tmp 19) ?_; refine za rfl (qH (t := rwT) (xs := out) rfl rfl rfl rfl rfl (by rw [ew]; exact Int.natCast_nonneg _) (by rw [ew]; omega)) rfl ?_) | (refine yA (x := .tmp 19) rfl ?_; refine zT rfl (by kernel_rfl) rfl (qH (t := rwT) (xs := out) rfl rfl rfl rfl rfl (by rw [ew]; exact Int.natCast_nonneg _) (by rw [ew]; omega)) rfl ?_) | (refine xi (x := .tmp 22) ?_; refine za rfl (yv (T := rwT) (i := k - 1) (xs := out) (z := y) rfl (by simp only [ew]; rfl) rfl hy) rfl ?_) | (refine xh (x := .tmp 22) rfl ?_; refine zT rfl (by kernel_rfl) rfl (yv (T := rwT) (i := k - 1) (xs := out) (z := y) rfl (by simp only [ew]; rfl) rfl hy) rfl ?_) | (refine zr 68 ?_; refine za rfl (zK rfl (xz y x) (.cons (.same rfl) (.cons (.same rfl) .nil)) rfl) rfl ?_) | (refine zq 68 rfl ?_; refine zT rfl (by kernel_rfl) rfl (zK rfl (xz y x) (.cons (.same rfl) (.cons (.same rfl) .nil)) rfl) rfl ?_) | refine zD ?_ | refine zB _ rfl (by kernel_rfl) ?_ | refine zW rfl ?_ | refine zX rfl ?_ | refine zC ?_ | with_reducible refine zO ?_ | refine zI ?_ | refine zJ ?_ | (with_reducible first | refine zM ?_ | refine zN ?_ | refine zF ?_ | refine zH ?_ | refine zG ?_) | refine zP ?_
          refine zh rfl (fun p2 => ?_) (fun p2 => ?_)
          · have q2 := of_decide_eq_true p2
            repeat' first | refine zL ?_ | refine zA ?_ | refine zQ [] ?_ | (refine isA ?_; refine zf rfl ?_) | (refine isL ?_; refine zV rfl (by kernel_rfl) rfl rfl ?_) | (refine zc rfl ?_; refine zU rfl (by kernel_rfl) rfl rfl ?_) | refine zD ?_ | refine zB _ rfl (by kernel_rfl) ?_ | refine zW rfl ?_ | refine zX rfl ?_ | refine zC ?_ | with_reducible refine zO ?_ | refine zI ?_ | refine zJ ?_ | (with_reducible first | refine zM ?_ | refine zN ?_ | refine zF ?_ | refine zH ?_ | refine zG ?_) | refine zP ?_
            refine ⟨⟨k - 1, by omega, fun j z hj hz => ?_⟩, by simp only; omega, ?_⟩
            · rcases Nat.lt_or_ge j k with hjk | hjk
              · obtain rfl : j = k - 1 := by omega
                rw [hy] at hz
                cases hz
                intro hle
                have : yu y x ≤ 0 := hle
                omega
              · exact hB j z hjk hz
            · exact yW [0] rfl rfl (by decide) (.cons rfl rfl rfl rfl (zY (zE _ _)) .nil) (by
                repeat' first | exact zj | refine zZ ?_ ?_ | exact zp | exact le_refl rfl | exact zm rfl rfl | exact yC (congrArg _ ew.symm))
          · have q2 := of_decide_eq_false p2
            have hfin := mF hso hk hB (fun z _ hz => by rw [hy] at hz; cases hz; show yu y x ≤ 0; omega)
            have hkl : k ≤ i := by omega
            repeat' first | refine zL ?_ | refine zA ?_ | (refine isA ?_; refine zf rfl ?_) | (refine isL ?_; refine zV rfl (by kernel_rfl) rfl rfl ?_) | (refine zc rfl ?_; refine zU rfl (by kernel_rfl) rfl rfl ?_) | refine zD ?_ | refine zB _ rfl (by kernel_rfl) ?_ | refine zW rfl ?_ | refine zX rfl ?_ | refine zC ?_ | with_reducible refine zO ?_ | refine zI ?_ | refine zJ ?_ | (with_reducible first | refine zM ?_ | refine zN ?_ | refine zF ?_ | refine zH ?_ | refine zG ?_) | refine zP ?_
            refine tP (fun H => H[0]? = some (rwR out)) 10 rfl ?_
            refine yZ 5 rfl rfl (by kernel_rfl) rfl (fun _ => rfl) rfl ?_
            refine yZ 6 rfl rfl (by kernel_rfl) rfl (fun _ => rfl) rfl ?_
            refine xC 7 rfl rfl (by kernel_rfl) rfl (fun H hG => yq (l := (k : Int)) (h := (out.length : Int)) rfl rfl hG (Nat.zero_le _) rfl (.yes _ rfl) (.no _) (by omega) (by omega) (by omega)) rfl ?_
            refine yZ 0 rfl rfl (by kernel_rfl) rfl (fun _ => rfl) rfl ?_
            refine yZ 1 rfl rfl (by kernel_rfl) rfl (fun _ => rfl) rfl ?_
            refine xC 2 rfl rfl (by kernel_rfl) rfl (fun _ _ => zz (t := rwT) (z := x) rfl rfl rfl rfl (Int.natCast_nonneg i) hx) rfl ?_
            refine yZ 3 rfl rfl (by kernel_rfl) rfl (fun _ => rfl) rfl ?_
            refine wY 4 (by kernel_rfl) ?_
            refine fM rfl rfl rfl rfl rfl ?_
            refine wY 8 (by kernel_rfl) ?_
            refine qA rfl rfl (yX (t := rwT) (xs := [x]) (ys := out.drop k) rfl rfl rfl rfl (mg rfl hk (by simp) (by simp)) (by simp; omega) rfl) rfl rfl ?_
            refine yZ 9 rfl rfl (by kernel_rfl) rfl (fun _ => rfl) rfl ?_
            refine vG (by kernel_rfl) ?_
            repeat' first | refine zL ?_ | refine zA ?_ | refine zQ [] ?_ | (refine isA ?_; refine zf rfl ?_) | (refine isL ?_; refine zV rfl (by kernel_rfl) rfl rfl ?_) | (refine zc rfl ?_; refine zU rfl (by kernel_rfl) rfl rfl ?_) | (refine uF ?_; refine za rfl (yq (l := (0 : Int)) (h := (k : Int)) rfl rfl rfl (Nat.zero_le _) rfl (.no 0) (.yes _ rfl) (Int.le_refl 0) (Int.natCast_nonneg k) (by omega)) rfl ?_) | (refine uE rfl ?_; refine zT rfl (by kernel_rfl) rfl (yq (l := (0 : Int)) (h := (k : Int)) rfl rfl rfl (Nat.zero_le _) rfl (.no 0) (.yes _ rfl) (Int.le_refl 0) (Int.natCast_nonneg k) (by omega)) rfl ?_) | (refine xd ?_; refine za rfl (yX (t := rwT) (xs := []) (ys := out.take k) rfl rfl rfl rfl (uy rfl hk (by simp) (by simp)) (by simp; omega) rfl) rfl ?_) | (refine xH rfl ?_; refine zT rfl (by kernel_rfl) rfl (yX (t := rwT) (xs := []) (ys := out.take k) rfl rfl rfl rfl (uy rfl hk (by simp) (by simp)) (by simp; omega) rfl) rfl ?_) | (refine xd ?_; refine za rfl (yX (t := rwT) (xs := [] ++ out.take k) (ys := [x] ++ out.drop k) rfl rfl rfl rfl (t6 rfl) (by simp; omega) rfl) rfl ?_) | (refine xH rfl ?_; refine zT rfl (by kernel_rfl) rfl (yX (t := rwT) (xs := [] ++ out.take k) (ys := [x] ++ out.drop k) rfl rfl rfl rfl (t6 rfl) (by simp; omega) rfl) rfl ?_) | refine zD ?_ | refine zB _ rfl (by kernel_rfl) ?_ | refine zW rfl ?_ | refine zX rfl ?_ | refine zC ?_ | with_reducible refine zO ?_ | refine zI ?_ | refine zJ ?_ | (with_reducible first | refine zM ?_ | refine zN ?_ | refine zF ?_ | refine zH ?_ | refine zG ?_) | refine zP ?_
            refine ⟨⟨i + 1, hlt⟩, by simp only; omega, ?_⟩
            exact yW [5] rfl rfl (by decide) (.cons rfl rfl rfl rfl (yd (show rwT.flat ([] ++ out.take k ++ ([x] ++ out.drop k)) = rwT.flat (yM (xs.take (i + 1))) by rw [e1, ← hfin]; rfl) (zE _ _)) .nil) (by
              repeat' first | exact zj | refine zZ ?_ ?_ | exact zp | exact le_refl rfl | exact zm rfl (show ([] ++ out.take k ++ ([x] ++ out.drop k)).length = (yM (xs.take (i + 1))).length by rw [e1, ← hfin]; rfl) | exact zm rfl (show (yM (xs.take (i + 1))).length = ([] ++ out.take k ++ ([x] ++ out.drop k)).length by rw [e1, ← hfin]; rfl) | exact xL hlt (by omega))
        · have q1 : k = 0 := by have := of_decide_eq_false p1; simp only at this; omega
          have hfin := mF hso hk hB (fun z h0 hz => by omega)
          have hkl : k ≤ i := by omega
          repeat' first | refine zL ?_ | refine zA ?_ | (refine isA ?_; refine zf rfl ?_) | (refine isL ?_; refine zV rfl (by kernel_rfl) rfl rfl ?_) | (refine zc rfl ?_; refine zU rfl (by kernel_rfl) rfl rfl ?_) | refine zD ?_ | refine zB _ rfl (by kernel_rfl) ?_ | refine zW rfl ?_ | refine zX rfl ?_ | refine zC ?_ | with_reducible refine zO ?_ | refine zI ?_ | refine zJ ?_ | (with_reducible first | refine zM ?_ | refine zN ?_ | refine zF ?_ | refine zH ?_ | refine zG ?_) | refine zP ?_
          refine tP (fun H => H[0]? = some (rwR out)) 10 rfl ?_
          refine yZ 5 rfl rfl (by kernel_rfl) rfl (fun _ => rfl) rfl ?_
          refine yZ 6 rfl rfl (by kernel_rfl) rfl (fun _ => rfl) rfl ?_
          refine xC 7 rfl rfl (by kernel_rfl) rfl (fun H hG => yq (l := (k : Int)) (h := (out.length : Int)) rfl rfl hG (Nat.zero_le _) rfl (.yes _ rfl) (.no _) (by omega) (by omega) (by omega)) rfl ?_
          refine yZ 0 rfl rfl (by kernel_rfl) rfl (fun _ => rfl) rfl ?_
          refine yZ 1 rfl rfl (by kernel_rfl) rfl (fun _ => rfl) rfl ?_
          refine xC 2 rfl rfl (by kernel_rfl) rfl (fun _ _ => zz (t := rwT) (z := x) rfl rfl rfl rfl (Int.natCast_nonneg i) hx) rfl ?_
          refine yZ 3 rfl rfl (by kernel_rfl) rfl (fun _ => rfl) rfl ?_
          refine wY 4 (by kernel_rfl) ?_
          refine fM rfl rfl rfl rfl rfl ?_
          refine wY 8 (by kernel_rfl) ?_
          refine qA rfl rfl (yX (t := rwT) (xs := [x]) (ys := out.drop k) rfl rfl rfl rfl (mg rfl hk (by simp) (by simp)) (by simp; omega) rfl) rfl rfl ?_
          refine yZ 9 rfl rfl (by kernel_rfl) rfl (fun _ => rfl) rfl ?_
          refine vG (by kernel_rfl) ?_
          repeat' first | refine zL ?_ | refine zA ?_ | refine zQ [] ?_ | (refine isA ?_; refine zf rfl ?_) | (refine isL ?_; refine zV rfl (by kernel_rfl) rfl rfl ?_) | (refine zc rfl ?_; refine zU rfl (by kernel_rfl) rfl rfl ?_) | (refine uF ?_; refine za rfl (yq (l := (0 : Int)) (h := (k : Int)) rfl rfl rfl (Nat.zero_le _) rfl (.no 0) (.yes _ rfl) (Int.le_refl 0) (Int.natCast_nonneg k) (by omega)) rfl ?_) | (refine uE rfl ?_; refine zT rfl (by kernel_rfl) rfl (yq (l := (0 : Int)) (h := (k : Int)) rfl rfl rfl (Nat.zero_le _) rfl (.no 0) (.yes _ rfl) (Int.le_refl 0) (Int.natCast_nonneg k) (by omega)) rfl ?_) | (refine xd ?_; refine za rfl (yX (t := rwT) (xs := []) (ys := out.take k) rfl rfl rfl rfl (uy rfl hk (by simp) (by simp)) (by simp; omega) rfl) rfl ?_) | (refine xH rfl ?_; refine zT rfl (by kernel_rfl) rfl (yX (t := rwT) (xs := []) (ys := out.take k) rfl rfl rfl rfl (uy rfl hk (by simp) (by simp)) (by simp; omega) rfl) rfl ?_) | (refine xd ?_; refine za rfl (yX (t := rwT) (xs := [] ++ out.take k) (ys := [x] ++ out.drop k) rfl rfl rfl rfl (t6 rfl) (by simp; omega) rfl) rfl ?_) | (refine xH rfl ?_; refine zT rfl (by kernel_rfl) rfl (yX (t := rwT) (xs := [] ++ out.take k) (ys := [x] ++ out.drop k) rfl rfl rfl rfl (t6 rfl) (by simp; omega) rfl) rfl ?_) | refine zD ?_ | refine zB _ rfl (by kernel_rfl) ?_ | refine zW rfl ?_ | refine zX rfl ?_ | refine zC ?_ | with_reducible refine zO ?_ | refine zI ?_ | refine zJ ?_ | (with_reducible first | refine zM ?_ | refine zN ?_ | refine zF ?_ | refine zH ?_ | refine zG ?_) | refine zP ?_
          refine ⟨⟨i + 1, hlt⟩, by simp only; omega, ?_⟩
          exact yW [5] rfl rfl (by decide) (.cons rfl rfl rfl rfl (yd (show rwT.flat ([] ++ out.take k ++ ([x] ++ out.drop k)) = rwT.flat (yM (xs.take (i + 1))) by rw [e1, ← hfin]; rfl) (zE _ _)) .nil) (by
            repeat' first | exact zj | refine zZ ?_ ?_ | exact zp | exact le_refl rfl | exact zm rfl (show ([] ++ out.take k ++ ([x] ++ out.drop k)).length = (yM (xs.take (i + 1))).length by rw [e1, ← hfin]; rfl) | exact zm rfl (show (yM (xs.take (i + 1))).length = ([] ++ out.take k ++ ([x] ++ out.drop k)).length by rw [e1, ← hfin]; rfl) | exact xL hlt (by omega))
    · have hge : i = xs.length := by
        have : ¬ ((i : Int) < xs.length) := by simpa using h
        omega
      subst hge
      have e2 : yM (xs.take xs.length) = yM xs := by rw [List.take_length]
      repeat' first | refine zL ?_ | refine zA ?_ | refine zQ [] ?_ | (refine isA ?_; refine zf rfl ?_) | (refine isL ?_; refine zV rfl (by kernel_rfl) rfl rfl ?_) | (refine zc rfl ?_; refine zU rfl (by kernel_rfl) rfl rfl ?_) | exact kI (ty := rwT) rfl rfl rfl rfl (by simp only [e2]) e2 (xu _) | refine zD ?_ | refine zB _ rfl (by kernel_rfl) ?_ | refine zW rfl ?_ | refine zX rfl ?_ | refine zC ?_ | with_reducible refine zO ?_ | refine zI ?_ | refine zJ ?_ | (with_reducible first | refine zM ?_ | refine zN ?_ | refine zF ?_ | refine zH ?_ | refine zG ?_) | refine zP ?_
end Go.Proofs.Ytojcojanokhnaaa.Ab
namespace Go.Proofs.Ytojcojanokhnaaa.Ab
open Go.RowKit
def y3 (x : Rw) : Int := cond (vRw x) (1 + x.c) 0
def yR : List Rw → Int
  | [] => 0
  | x :: xs => y3 x + yR xs
theorem xS {x lo hi : Int} : inV x lo hi = true ↔ lo ≤ x ∧ x ≤ hi := by simp [inV]
theorem qk {x : Rw} : vRw x = true ↔ (0 ≤ x.a ∧ x.a ≤ 9) ∧ (0 ≤ x.b ∧ x.b ≤ 99) ∧ (0 ≤ x.c ∧ x.c ≤ 3) := by
  simp only [vRw, Bool.and_eq_true, xS]
theorem xy (x : Rw) : 0 ≤ y3 x ∧ y3 x ≤ 4 := by
  unfold y3
  cases h : vRw x with
  | false => simp
  | true => have := (qk.1 h).2.2; simp only [cond_true]; omega
theorem ua : ∀ xs : List Rw, 0 ≤ yR xs ∧ yR xs ≤ 4 * xs.length
  | [] => by simp [yR]
  | x :: xs => by
    have h1 := ua xs
    have h2 := xy x
    simp only [yR, List.length_cons]; omega
theorem yt : ∀ xs ys : List Rw, yR (xs ++ ys) = yR xs + yR ys
  | [], ys => by simp [yR]
  | x :: xs, ys => by simp only [List.cons_append, yR, yt xs ys]; omega
theorem lh {xs : List Rw} {i : Nat} {z : Rw} (hz : xs[i]? = some z) : yR (xs.take (i + 1)) = yR (xs.take i) + y3 z := by
  rw [yw hz, yt]; simp [yR]
theorem vE {xs ys : List Rw} (h : xs.Perm ys) : yR xs = yR ys := by
  induction h with
  | nil => rfl
  | cons x _ ih => simp only [yR, ih]
  | swap x y l => simp only [yR]; omega
  | trans _ _ h1 h2 => exact h1.trans h2
instance (x y : Rw) : Decidable (leW x y) := inferInstanceAs (Decidable (yu x y ≤ 0))
instance (xs : List Rw) : Decidable (Srt xs) := inferInstanceAs (Decidable (xs.Pairwise leW))
def v2 (xs : List Rw) : Bool := decide (Srt xs)
def belL (x : Rw) : Option Rw → Bool
  | none => false
  | some y => decide (yu x y < 0)
def bel (x : Rw) (out : List Rw) : Bool := belL x out[out.length - 1]?
theorem fO (x y : Rw) (out : List Rw) : bel x (out ++ [y]) = decide (yu x y < 0) := by
  unfold bel
  rw [show (out ++ [y]).length - 1 = out.length by simp, List.getElem?_append_right (Nat.le_refl _), Nat.sub_self]
  rfl
theorem kx {xs : List Rw} {y : Rw} (h : Srt xs) (hb : bel y xs = false) : Srt (xs ++ [y]) := by
  refine List.pairwise_append.2 ⟨h, List.pairwise_singleton _ _, fun a ha c hc => ?_⟩
  have hc' : c = y := by simpa using hc
  subst hc'
  obtain ⟨i, hi⟩ := List.getElem?_of_mem ha
  have hlt := (List.getElem?_eq_some_iff.1 hi).1
  obtain ⟨z, hz⟩ : ∃ z, xs[xs.length - 1]? = some z := ⟨_, List.getElem?_eq_getElem (by omega)⟩
  have hzc : leW z c := by
    unfold bel at hb
    rw [hz] at hb
    exact Classical.byContradiction fun hn => absurd (xg.2 hn) (of_decide_eq_false hb)
  exact xa (v7 h (show i ≤ xs.length - 1 by omega) hi hz) hzc
def uo (xs : List Rw) : Nat → Int
  | 0 => -1
  | n + 1 => cond (decide (uo xs n < 0)) n (match xs[n]?, xs[(uo xs n).toNat]? with
    | some x, some y => cond (decide (yu x y < 0)) n (uo xs n)
    | _, _ => uo xs n)
def mC (xs : List Rw) : Int := uo xs xs.length
theorem sB {xs : List Rw} : ∀ {n : Nat}, n ≤ xs.length → 0 < n → ∃ k y, uo xs n = ((k : Nat) : Int) ∧ k < n ∧ xs[k]? = some y ∧ ∀ j z, j < n → xs[j]? = some z → leW y z
  | 0, _, h => absurd h (Nat.lt_irrefl 0)
  | n + 1, hn, _ => by
    obtain ⟨x, hx⟩ : ∃ z, xs[n]? = some z := ⟨_, List.getElem?_eq_getElem (by omega)⟩
    rcases Nat.eq_zero_or_pos n with rfl | hpos
    · refine ⟨0, x, rfl, by omega, hx, fun j z hj hz => ?_⟩
      obtain rfl : j = 0 := by omega
      rw [hx] at hz
      cases hz
      exact sv _
    · obtain ⟨k, y, h1, h2, h3, h4⟩ := sB (xs := xs) (n := n) (by omega) hpos
      rw [uo, h1, decide_eq_false (show ¬ ((k : Nat) : Int) < 0 from by have := Int.natCast_nonneg k; omega), cond_false, Int.toNat_natCast, hx, h3]
      simp only
      cases hc : decide (yu x y < 0) with
      | true =>
        have hle := vB (xg.1 (of_decide_eq_true hc))
        refine ⟨n, x, rfl, by omega, hx, fun j z hj hz => ?_⟩
        rcases Nat.lt_or_ge j n with hjn | hjn
        · exact xa hle (h4 j z hjn hz)
        · obtain rfl : j = n := by omega
          rw [hx] at hz
          cases hz
          exact sv _
      | false =>
        refine ⟨k, y, rfl, by omega, h3, fun j z hj hz => ?_⟩
        rcases Nat.lt_or_ge j n with hjn | hjn
        · exact h4 j z hjn hz
        · obtain rfl : j = n := by omega
          rw [hx] at hz
          cases hz
          exact Classical.byContradiction fun hn => absurd (xg.2 hn) (of_decide_eq_false hc)
theorem mw {xs : List Rw} (h : 0 < xs.length) : ∃ k y, mC xs = ((k : Nat) : Int) ∧ xs[k]? = some y ∧ ∀ z ∈ xs, leW y z := by
  obtain ⟨k, y, h1, h2, h3, h4⟩ := sB (Nat.le_refl xs.length) h
  refine ⟨k, y, h1, h3, fun z hz => ?_⟩
  obtain ⟨j, hj⟩ := List.getElem?_of_mem hz
  exact h4 j z (List.getElem?_eq_some_iff.1 hj).1 hj
theorem qJ {xs : List Rw} {k : Nat} {y : Rw} (h : xs[k]? = some y) : (xs.take k ++ xs.drop (k + 1) ++ [y]).Perm xs := by
  have e : xs = xs.take k ++ y :: xs.drop (k + 1) := by rw [← yI h, List.take_append_drop]
  have : (xs.take k ++ y :: xs.drop (k + 1)).Perm (y :: (xs.take k ++ xs.drop (k + 1))) := List.perm_middle
  rw [← e] at this
  exact List.perm_append_comm.trans this.symm
def avS (rs : List Rn) : Bool := rs.all fun r => !decide (r.length = 0) && (v2 r && avR r)
end Go.Proofs.Ytojcojanokhnaaa.Ab
namespace Go.Proofs.Ytojcojanokhnaaa.Ab
open Go.RowKit
def rwI (x : Rw) : List Int := [x.a, x.b, x.c]
def rwD (x y : Rw) : Bool := decide (rwI x = rwI y)
theorem qW {o : Oper} {ρ : Operand → V} {H : List Reg} {t' : TypeId} {x y : Operand} {a b : Rw} (ho : o.op = .binOp .neq 78 x y t') (hx : ρ x = .agg (rwE a)) (hy : ρ y = .agg (rwE b)) : z8 Go.Proofs.Try.prog o ρ H (B (!rwD a b)) H :=
  ln (us := rwI a) (bs := rwI b) _ (jW Go.Proofs.Try.underlying78 (by kernel_rfl) (by kernel_rfl) (by kernel_rfl)) ho hx hy rfl rfl
theorem mj {x y : Rw} : rwD x y = true ↔ x = y := by
  cases x; cases y
  simp [rwD, rwI]
def xj : List Rw → List Rw → Bool
  | [], [] => true
  | x :: xs, y :: ys => rwD x y && xj xs ys
  | _, _ => false
theorem vg : ∀ {xs ys : List Rw}, xj xs ys = true ↔ xs = ys
  | [], [] => by simp [xj]
  | x :: xs, y :: ys => by simp only [xj, Bool.and_eq_true, mj, vg, List.cons.injEq]
  | [], y :: ys => by simp [xj]
  | x :: xs, [] => by simp [xj]
theorem tM {xs ys : List Rw} (h : xs.length ≠ ys.length) : xj xs ys = false := by
  cases he : xj xs ys with
  | false => rfl
  | true => exact absurd (congrArg List.length (vg.1 he)) h
theorem pP {xs ys : List Rw} {i : Nat} {x y : Rw} (hx : xs[i]? = some x) (hy : ys[i]? = some y) : xj (xs.drop i) (ys.drop i) = (rwD x y && xj (xs.drop (i + 1)) (ys.drop (i + 1))) := by
  rw [yI hx, yI hy, xj]
end Go.Proofs.Ytojcojanokhnaaa.Ab
namespace Go.Proofs.Ytojcojanokhnaaa.Ab
open Go.RowKit
def eqB (xs ys : List Rw) : Bool := xj (yM xs) (yM ys)
theorem uS {xs ys : List Rw} : eqB xs ys = true ↔ xs.Perm ys := by
  unfold eqB
  rw [vg]
  constructor
  · intro h
    have h1 := ya xs
    rw [h] at h1
    exact h1.symm.trans (ya ys)
  · intro h
    exact wh (xV _) ((ya xs).trans h)
end Go.Proofs.Ytojcojanokhnaaa.Ab
