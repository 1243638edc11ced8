/- What the row FnExactStepSorter leans on, part 2: a walk over abstract values, and contracts proved with it. -/
import Derived.WalkKit
import Derived.Laws.Rows
import Derived.RowKit
import Derived.OrdersHeld
import Derived.Deep.RegionHeld3
import Derived.Deep.Draws
import Derived.BigCall
import Derived.KernelRfl
import Derived.Deep.Slices
import Derived.ChangeArms
import Derived.ChangeShapes
import Derived.WideShapes
import Derived.Laws.StructEq
import Derived.Lib.Overlaps
import Derived.Test.YtojcojanokhnaaaProg
import Derived.Test.YtojcojanokhnaaaZs0
set_option linter.unusedVariables false
set_option linter.unusedSimpArgs false
set_option maxRecDepth 20000
set_option maxHeartbeats 8000000
namespace Go.Proofs.Ytojcojanokhnaaa.Ab
open Go.RowKit
section
variable {P : Program} {ops : Array Oper} {md : Region.Mode} {G : List Reg → Prop} {Q : Exit → St → Prop}
def uU (P : Program) (ops : Array Oper) (G : List Reg → Prop) (i : Nat) (K : St → Prop) (S : St) : Prop :=
  match ops[i]? with
  | none => K S
  | some o => (yZ ops S o = some true ∧ ∃ v H', z4 P o S.ev S.H v H' ∧ G H' ∧ K (S.put o.dst v H')) ∨ (yZ ops S o = some false ∧ K (S.put o.dst (.k undef) S.H))
def uF (P : Program) (md : Region.Mode) (ops : Array Oper) (G : List Reg → Prop) (Q : Exit → St → Prop) : Nat → Array Bool → St → Prop
  | 0, listed, S => Region.ready md ops listed = [] ∧ Q .normal S
  | n + 1, listed, S => (Region.ready md ops listed = [] → Q .normal S) ∧ ∀ i ∈ Region.ready md ops listed, uU P ops G i (uF P md ops G Q n (listed.setIfInBounds i true)) S
theorem uU.mono {i : Nat} {K K' : St → Prop} {S : St} (hk : ∀ S, K S → K' S) (h : uU P ops G i K S) : uU P ops G i K' S := by
  unfold uU at *
  split at h
  · exact hk _ h
  · rcases h with ⟨h1, v, H', h2, h3, h4⟩ | ⟨h1, h2⟩
    · exact Or.inl ⟨h1, v, H', h2, h3, hk _ h4⟩
    · exact Or.inr ⟨h1, hk _ h2⟩
theorem uF.plain : ∀ (n : Nat) (listed : Array Bool) (S : St), uF P md ops G Q n listed S → vn P md ops (List.range ops.size) Q n listed S
  | 0, listed, S, h => h
  | n + 1, listed, S, h => by
    refine ⟨h.1, fun i hi => ?_⟩
    have h1 := h.2 i hi
    unfold uU at h1
    unfold AOp
    cases ho : ops[i]? with
    | none => rw [ho] at h1; exact uF.plain n _ S h1
    | some o =>
      rw [ho] at h1
      rcases h1 with ⟨hw, v, H', hs, _, hk⟩ | ⟨hw, hk⟩
      · exact Or.inl ⟨hw, v, H', hs, fun hn => absurd (List.mem_range.2 (Array.getElem?_eq_some_iff.1 ho).1) hn, uF.plain n _ _ hk⟩
      · exact Or.inr ⟨hw, uF.plain n _ _ hk⟩
def vH (P : Program) (ops : Array Oper) (G : List Reg → Prop) (o : Oper) (v : V) (S : St) : Prop :=
  (yZ ops S o = some true ∧ ∀ H, G H → z4 P o S.ev H v H) ∨ (yZ ops S o = some false ∧ v = .k undef)
theorem vH.aop {i : Nat} {o : Oper} {v : V} {S : St} {K : St → Prop} (hG : G S.H) (hi : ops[i]? = some o) (h : vH P ops G o v S) (hk : K (S.put o.dst v S.H)) : uU P ops G i K S := by
  unfold uU
  rw [hi]
  rcases h with ⟨h1, h2⟩ | ⟨h1, rfl⟩
  · exact Or.inl ⟨h1, v, S.H, h2 _ hG, hG, hk⟩
  · exact Or.inr ⟨h1, hk⟩
theorem vH.keep {oi oj : Oper} {v u : V} {S : St} {H' : List Reg} (hap : ∀ d, oj.dst = some d → d ∉ oi.looksAt ops) (h : vH P ops G oi v S) : vH P ops G oi v (S.put oj.dst u H') := by
  unfold vH at *
  rw [w7 hap]
  rcases h with ⟨h1, h2⟩ | h1
  · exact Or.inl ⟨h1, fun H hH => (h2 H hH).congr (xo hap)⟩
  · exact Or.inr h1
theorem uU.put {j : Nat} {oi oj : Oper} {v : V} {S : St} {K : St → Prop} (hG : G S.H) (hj : ops[j]? = some oj) (hap : oi.apart ops oj = true)
    (hy : vH P ops G oi v S) (h : uU P ops G j K (S.put oi.dst v S.H)) : uU P ops G j (fun S' => G S'.H ∧ vH P ops G oi v S' ∧ K (S'.put oi.dst v S'.H)) S := by
  obtain ⟨h1, h2, h3⟩ := Oper.apart_spec hap
  unfold uU at *
  rw [hj] at *
  simp only at h ⊢
  rw [w7 h1, xv] at h
  rcases h with ⟨hw, u, H', hs, hH, hk⟩ | ⟨hw, hk⟩
  · refine Or.inl ⟨hw, u, H', hs.congr (fun x hx => (xo h1 x hx).symm), hH, by rw [xv]; exact hH, hy.keep h3, ?_⟩
    rw [xv, ← wt v u S.H H' h2]
    exact hk
  · refine Or.inr ⟨hw, by rw [xv]; exact hG, hy.keep h3, ?_⟩
    rw [xv, ← wt v (.k undef) S.H S.H h2]
    exact hk
theorem nT {i : Nat} {oi : Oper} {v : V} (hi : ops[i]? = some oi) :
    ∀ (n : Nat) (listed : Array Bool) (S : St), G S.H →
      (∀ j oj, ops[j]? = some oj → j ≠ i → listed.getD j true = false → (∀ e ∈ oj.after, Region.binds md e = true → e.on ≠ i) → oi.apart ops oj = true) →
      i ∈ Region.ready md ops listed → vH P ops G oi v S →
      uF P md ops G Q n (listed.setIfInBounds i true) (S.put oi.dst v S.H) → uF P md ops G Q (n + 1) listed S := by
  intro n
  induction n with
  | zero =>
    intro listed S hG _ hr hy H
    refine ⟨fun h => (by rw [h] at hr; cases hr), fun j hj => ?_⟩
    by_cases hji : j = i
    · subst hji; exact hy.aop hG hi H
    · have := ready_mono hj hji
      rw [H.1] at this
      cases this
  | succ n ih =>
    intro listed S hG hfree hr hy H
    refine ⟨fun h => (by rw [h] at hr; cases hr), fun j hj => ?_⟩
    by_cases hji : j = i
    · subst hji; exact hy.aop hG hi H
    · have h1 := H.2 j (ready_mono hj hji)
      obtain ⟨hjun, oj, hoj, hall⟩ := mem_ready.1 hj
      have hiun := (mem_ready.1 hr).1
      have hnot : ∀ e ∈ oj.after, Region.binds md e = true → e.on ≠ i := fun e he hb heq => by
        have h1 := hall e he hb
        rw [heq] at h1
        rcases Nat.lt_or_ge i listed.size with h' | h'
        · simp [h'] at hiun h1; rw [hiun] at h1; cases h1
        · simp [Array.getElem?_eq_none h'] at h1
      have h2 := uU.put hG hoj (hfree j oj hoj hji hjun hnot) hy h1
      have hfree' : ∀ k ok, ops[k]? = some ok → k ≠ i → (listed.setIfInBounds j true).getD k true = false →
          (∀ e ∈ ok.after, Region.binds md e = true → e.on ≠ i) → oi.apart ops ok = true := fun k ok hk hki hun hno => by
        refine hfree k ok hk hki ?_ hno
        by_cases hjk : j = k
        · subst hjk; exact hjun
        · rw [getD_set_ne true hjk] at hun; exact hun
      refine uU.mono (fun S' h3 => ih (listed.setIfInBounds j true) S' h3.1 hfree' (ready_mono hr (Ne.symm hji)) h3.2.1 ?_) h2
      rw [Array.setIfInBounds_comm _ _ hji]
      exact h3.2.2
end
section
variable {P : Program} {T : Tab} {ops : Array Oper} {G : List Reg → Prop} {Q : Exit → St → Prop} {l l' : List V} {H H' K : List Reg} {m : Nat} {o : Oper} {d : List Nat} {n : Nat}
structure APerG (P : Program) (ops : Array Oper) (G : List Reg → Prop) (d : List Nat) (n : Nat) (Q : Exit → St → Prop) (S : St) : Prop where
  out : uF P .any ops G Q n (mkL ops.size d) S
theorem tO {id : Nat} {S : St} (G : List Reg → Prop) (n : Nat) (hn : ops.size = n) [hT : TabC P T] (h : APerG P ops G [] n Q S) : AW P (.region id ops true) Q S := by
  subst hn
  exact vW _ hT.wide (uF.plain _ _ _ h.out)
theorem w8 {S : St} (hr : (Region.ready .any ops (mkL ops.size d) == []) = true) (h : Q .normal S) : APerG P ops G d 0 Q S := ⟨⟨by simpa using hr, h⟩⟩
theorem xF (i : Nat) {v : V} (hG : G H) (ho : ops[i]? = some o) (hc : u5 ops d i = true) (hw : yZ ops ⟨l, H, m⟩ o = some true) (hs : ∀ H, G H → z4 P o (St.ev ⟨l, H, m⟩) H v H) (hp : vE l H o.dst v = some (l', K)) (hk : APerG P ops G (i :: d) n Q ⟨l', K, m⟩) : APerG P ops G d (n + 1) Q ⟨l, H, m⟩ := by
  simp only [u5, Bool.and_eq_true] at hc
  refine ⟨nT ho n _ _ hG (Region.free_spec ho hc.1) (by simpa using hc.2) (Or.inl ⟨hw, fun H1 h1 => hs H1 h1⟩) ?_⟩
  rw [show (⟨l, H, m⟩ : St).put o.dst v (⟨l, H, m⟩ : St).H = ⟨l', K, m⟩ from y0 hp m]
  exact hk.out
theorem yQ (i : Nat) {v : V} [hT : TabC P T] (hG : G H) (ho : ops[i]? = some o) (hc : u5 ops d i = true) (hw : yZ ops ⟨l, H, m⟩ o = some true) (h : ∀ H, ua T l H o.op = some (v, H)) (hp : vE l H o.dst v = some (l', K)) (hk : APerG P ops G (i :: d) n Q ⟨l', K, m⟩) : APerG P ops G d (n + 1) Q ⟨l, H, m⟩ :=
  xF i hG ho hc hw (fun H1 _ => wk (m := m) hT.ok (h H1)) hp hk
def BrG (P : Program) (ops : Array Oper) (G : List Reg → Prop) (d : List Nat) (n : Nat) (Q : Exit → St → Prop) (l : List V) (H : List Reg) (m : Nat) (i : Nat) : Prop :=
  uU P ops G i (uF P .any ops G Q n ((mkL ops.size d).setIfInBounds i true)) ⟨l, H, m⟩
theorem sq {i : Nat} {v : V} (ho : ops[i]? = some o) (hw : yZ ops ⟨l, H, m⟩ o = some true) (hs : z4 P o (St.ev ⟨l, H, m⟩) H v H') (hG : G H') (hp : vE l H' o.dst v = some (l', K)) (hk : APerG P ops G (i :: d) n Q ⟨l', K, m⟩) : BrG P ops G d n Q l H m i := by
  unfold BrG uU
  rw [ho]
  refine Or.inl ⟨hw, v, H', hs, hG, ?_⟩
  rw [y0 hp m]
  exact hk.out
theorem gZ {i : Nat} {v : V} [hT : TabC P T] (ho : ops[i]? = some o) (hw : yZ ops ⟨l, H, m⟩ o = some true) (h : ua T l H o.op = some (v, H')) (hG : G H') (hp : vE l H' o.dst v = some (l', K)) (hk : APerG P ops G (i :: d) n Q ⟨l', K, m⟩) : BrG P ops G d n Q l H m i := sq ho hw (wk hT.ok h) hG hp hk
theorem wY (i : Nat) (hr : (Region.ready .any ops (mkL ops.size d) == [i]) = true) (h : BrG P ops G d n Q l H m i) : APerG P ops G d (n + 1) Q ⟨l, H, m⟩ := by
  have hr' : Region.ready .any ops (mkL ops.size d) = [i] := by simpa using hr
  refine ⟨⟨fun h0 => (by rw [h0] at hr'; cases hr'), fun x hx => ?_⟩⟩
  rw [hr'] at hx
  simp at hx
  subst hx
  exact h
end
section
variable {P : Program} {l : List V} {H : List Reg}
theorem yi {f : FuncId} {fn : Func} {c : Code} {cargs : List V} {hs : List Reg} {r : V} {hs' : List Reg} {al : Bool} (t : Tmp) (ty : TypeId) (us : List Tmp) {n : Nat} [ht : Ag P ty n]
    (hf : P.funcs[f]? = some fn) (hb : fn.body = some c) (hus : us.isEmpty = false) (hr : fn.results = (.cell t ty :: us.map ResultVar.tmp).toArray)
    (h : AW P c (fun e S => (e = .ret ∨ e = .normal) ∧ ∃ v, CellIs S.tmps S.H t n v ∧ Out al r hs' (.tup (v :: us.map fun u => (S.tmps[u]?).getD .any)) S) ⟨cargs ++ List.replicate (fn.ntmps - cargs.length) (.k undef), hs, hs.length⟩) : zx P f cargs hs r hs' al := by
  intro A φ w xs hok hrel hsz
  refine calls_of_wp hf hb ?_
  have hI : Inv ⟨A, w, φ, hs⟩ φ ⟨cargs ++ List.replicate (fn.ntmps - cargs.length) (.k undef), hs, hs.length⟩ { tmps := xs ++ Array.replicate (fn.ntmps - xs.size) undef, defers := [] } w := by
    refine ⟨hok.len, ⟨A, ⟨hok, fun b hb => Or.inl hb, fun h b hl => Or.inr ⟨h, hl⟩, ⟨rfl, rfl, rfl, Nat.le_refl _, fun _ _ _ => rfl⟩, fun _ _ h => h⟩, ?_⟩, by simp [hsz], rfl⟩
    refine yd (yC hrel fun i hi => ?_) (yJ.2 fun i c hc => ⟨undef, ?_, ?_⟩)
    · simp [Array.getElem?_append, hsz, hi]
    · have hlt := (List.getElem?_eq_some_iff.1 hc).1
      simp only [List.length_replicate] at hlt
      simp only [Array.getElem?_append, hsz, Nat.not_lt.2 (Nat.le_add_right _ _), if_false, Nat.add_sub_cancel_left]
      simp [hlt]
    · have := List.mem_of_getElem? hc
      obtain rfl := List.eq_of_mem_replicate this
      simp [Rel]
  refine wp_mono (h.out ⟨A, w, φ, hs⟩ φ _ w hI) ?_
  rintro e a' w' ⟨S', φ1, hI', he, v, hc, ho⟩
  obtain ⟨hm, ⟨A1, hA1, hr1⟩, hs1, hd1⟩ := hI'
  obtain ⟨⟨h, off, r0, c1, c2, c3, c4, c5⟩⟩ := hc
  obtain ⟨y, y1, y2⟩ := yn hr1 c1
  rw [Rel] at y2
  obtain ⟨hd, b, e1, e2, e3⟩ := y2
  obtain ⟨xs', h2, h3, h4⟩ := xD (P := P) (yy (yz (xr hA1.ok e1 c2 c3 e2) off) n)
  have hl : ((r0.cells.drop off).take n).length = n := by simp; omega
  rw [hl] at h2
  have hx : Rel A1 w' φ1 v (.agg xs') := by subst c5; rw [Rel]; exact ⟨xs', rfl, h3, h4⟩
  have hrun : (results fn a'.tmps).run P w' = .ok (.tuple ((Value.agg xs') :: us.map fun u => a'.tmps.getD u undef).toArray) w' := by
    have hg : a'.tmps.getD t undef = .pointer (some ⟨b, off, none⟩) := by
      rw [Array.getD_eq_getD_getElem?, show a'.tmps[t]? = some y from y1, e3]
      rfl
    unfold results
    rw [hr]
    simp only [List.mapM_toArray, List.mapM_cons, hg, Sem.run_bind, Sem.run_map, Sem.run_pure, Result.andThen_ok, asAddr, loadVar, ht.a, ht.s, h2, if_true]
    rw [ux a'.tmps w' _ (fun t => rfl)]
    simp only [Result.andThen_ok, Sem.run_pure]
    cases us with
    | nil => cases hus
    | cons u us => simp
  have hxt : Rel A1 w' φ1 (.tup (v :: us.map fun u => (S'.tmps[u]?).getD .any)) (.tuple ((Value.agg xs') :: us.map fun u => a'.tmps.getD u undef).toArray) := by
    rw [Rel]
    refine ⟨_, rfl, by simp, ?_⟩
    rw [zv]
    refine ⟨⟨.agg xs', rfl, hx⟩, yJ.2 fun i c hc => ?_⟩
    rw [List.getElem?_map] at hc
    cases hi : us[i]? with
    | none => rw [hi] at hc; simp at hc
    | some u =>
      rw [hi] at hc
      simp only [Option.map_some, Option.some.injEq] at hc
      subst hc
      exact ⟨a'.tmps.getD u undef, by simp [hi], wS hr1 (.tmp u)⟩
  obtain ⟨φ', A', k1, k2, k3, k4, k5⟩ := ho ⟨A, w, φ, hs⟩ A1 φ1 w' _ hm hA1 hxt
  have key : a'.defers = [] ∧ ∃ v, (results fn a'.tmps).run P w' = .ok v w' ∧ ∃ x φ' A', (Ending.returned v) = .returned x ∧ HeapOk A' w' φ' hs' ∧ Rel A' w' φ' r x ∧ (∀ b, A' b → (al = true ∧ A b) ∨ w.heap.size ≤ b) ∧
      (∀ h b, zw φ' hs' h b → w.heap.size ≤ b ∨ ∃ h0, zw φ hs h0 b) ∧ Framed ⟨A, w, φ, hs⟩ w' ∧ (∀ (h : Nat) (hd : Hd), φ[h]? = some hd → φ'[h]? = some hd) :=
    ⟨hd1, _, hrun, _, φ', A', rfl, k1, k2, k3, k4, hA1.frame, k5⟩
  rcases he with rfl | rfl
  · exact key
  · exact key
theorem ww {t : Tmp} {us : List Tmp} {n : Nat} {v r : V} (hv : CellIs l H t n v) (hp : Pur true H (.tup (v :: us.map fun u => (l[u]?).getD .any)) r) : (Exit.ret = .ret ∨ Exit.ret = .normal) ∧ ∃ v, CellIs l H t n v ∧ Out true r [] (.tup (v :: us.map fun u => (l[u]?).getD .any)) ⟨l, H, 0⟩ := ⟨Or.inl rfl, v, hv, qh rfl hp⟩
end
theorem eO {P : Program} {o : Oper} {ρ : Operand → V} {K : List Reg} {α : Type} {T : Ty α} {s x : Operand} {t e n b : Nat} {xs : List α} [ht : Sl P t e n b] (ho : o.op = .call { callee := .builtin .append, args := #[s, x], argTypes := #[t, t] })
    (hs : ρ s = .k (.slice none 0 0)) (hx : ρ x = vF T xs) (hn : T.n = n) (hm : xs.length ≤ 1000000000) (hb : Nat.ble b 100000 = true) : z4 P o ρ K (.sl K.length 0 xs.length) (K ++ [yo T e xs]) := by
  have hb' := Nat.le_of_ble_eq_true hb
  have h := tw (P := P) (H := K) ho hs (m := xs.length) (src := T.flat xs) (by rw [hx]; exact Src.lst _ _) (by rw [yH, hn]) (qI T xs) (Nat.le_trans (Nat.mul_le_mul hm hb') (by decide)) (by simp only [maxLen]; omega)
  rw [← hn] at h
  exact h
section
variable {P : Program} {T : Tab} {ops : Array Oper} {Q : Exit → St → Prop} {l : List V} {H : List Reg} {m : Nat} {o : Oper} {ρ : Operand → V}
theorem nO {id : Nat} (h1 h2 n : Nat) (hn : ops.size = n) [hT : TabC P T] (h : APerG P ops (fun H' => H'[h1]? = H[h1]? ∧ H'[h2]? = H[h2]?) [] n Q ⟨l, H, m⟩) : AW P (.region id ops true) Q ⟨l, H, m⟩ := tO _ n hn h
theorem fv {t : TypeId} {x : Operand} {h off n : Nat} {r : Reg} {v : V} [ht : Ag P t n] (ho : o.op = .load t x) (hx : ρ x = .ptr h off) (hr : H[h]? = some r) (hm : Nat.ble r.mode 1 = true) (hn : Nat.ble (off + n) r.cells.length = true) (hv : V.agg ((r.cells.drop off).take n) = v) : z4 P o ρ H v H := by
  subst hv
  exact wN ho hx hr (Nat.le_of_ble_eq_true hm) (Nat.le_of_ble_eq_true hn)
theorem xE {t : TypeId} {x : Operand} {h off : Nat} {r : Reg} {c : V} [ht : Sc P t] (ho : o.op = .load t x) (hx : ρ x = .ptr h off) (hr : H[h]? = some r) (hm : Nat.ble r.mode 1 = true) (hc : r.cells[off]? = some c) : z4 P o ρ H c H := x4 ho hx hr (Nat.le_of_ble_eq_true hm) hc
end
end Go.Proofs.Ytojcojanokhnaaa.Ab
namespace Go.Proofs.Ytojcojanokhnaaa.Ab
open Go.RowKit
def bAnd (k : IntKind) (a b : Int) : Int := k.wrap ((BitVec.ofInt k.bits a &&& BitVec.ofInt k.bits b).toNat : Nat)
def bXor (k : IntKind) (a b : Int) : Int := k.wrap ((BitVec.ofInt k.bits a ^^^ BitVec.ofInt k.bits b).toNat : Nat)
def uC (k : IntKind) (a : Int) (n : Nat) : Int := a.fdiv (2 ^ (min n k.bits))
section
variable {P : Program} {o : Oper} {ρ : Operand → V} {H : List Reg}
theorem wj {t t' : TypeId} {x y : Operand} {k k' : IntKind} {a : Int} {n : Nat} (ho : o.op = .binOp .shr t x y t') (hx : ρ x = .k (.int k a)) (hy : ρ y = .k (.int k' n)) : z4 P o ρ H (.k (.int k (uC k a n))) H :=
  y5 ho hx hy fun w => by rw [Sem.run_bind, xO]; simp [binOp, Op.shift, uC, show ¬ ((n : Int) < 0) by omega]
end
end Go.Proofs.Ytojcojanokhnaaa.Ab
namespace Go.Proofs.Ytojcojanokhnaaa.Ab
open Go.RowKit
section
variable {P : Program} {o : Oper} {ρ : Operand → V} {H : List Reg} {C : Cx} {A : Nat → Prop} {φ : List Hd} {w : World}
theorem gF (w : World) (c : Array Value) (e : TypeId) (i : Nat) : ((w.drewN 0).alloc (.cells c e)).cell? ⟨w.heap.size, i, none⟩ = c[i]? := by
  have h : ((w.drewN 0).alloc (.cells c e)).heap[w.heap.size]? = some (.cells c e (0, 0)) := Go.heap_alloc_new (w.drewN 0) _
  unfold World.cell?
  rw [h]
  rfl
theorem InvA.alloc_read (hA : InvA C A φ H w) (ob : Obj) : InvA C (fun b => A b ∨ b = w.heap.size) φ H ((w.drewN 0).alloc ob) := by
  have hheap : ∀ b, b < w.heap.size → ((w.drewN 0).alloc ob).heap[b]? = w.heap[b]? := fun b hb => Below.heap_alloc (w.drewN 0) ob b hb
  have hsz : ((w.drewN 0).alloc ob).heap.size = w.heap.size + 1 := by show (Array.push _ _).size = _; rw [Array.size_push]; rfl
  have hlow : ∀ h b, zw φ H h b → b < w.heap.size := fun h b ⟨hd, r, h1, h2, h3, h4⟩ => xz hA.ok h1 h2 (by omega) h4
  refine ⟨⟨hA.ok.len, fun h hd r h1 h2 h3 => ?_, hA.ok.inj, fun h b h1 hb => ?_, fun h hd r b h1 h2 h3 h4 => Or.inl (hA.ok.frz h hd r b h1 h2 h3 h4), fun b hb => ?_⟩, fun b hb => ?_, hA.own, ?_, hA.pre⟩
  · obtain ⟨e1, e2⟩ := hA.ok.regs h hd r h1 h2 h3
    refine ⟨e1, ?_⟩
    cases hk : hd.blk with
    | none => rw [hk] at e2; exact e2
    | some b =>
      rw [hk] at e2
      obtain ⟨c, k1, k2, k3, k4⟩ := e2
      exact ⟨c, (hheap b (Array.getElem?_eq_some_iff.1 k1).1).trans k1, k2, k3, zv.mono (fun b hb => ⟨Or.inl hb, hheap b (hA.ok.low b hb)⟩) (fun _ _ h => h) k4⟩
  · rcases hb with hb | rfl
    · exact hA.ok.apart _ _ h1 hb
    · exact absurd (hlow _ _ h1) (Nat.lt_irrefl _)
  · rcases hb with hb | rfl
    · rw [hsz]; exact Nat.lt_succ_of_lt (hA.ok.low b hb)
    · rw [hsz]; exact Nat.lt_succ_self _
  · rcases hb with hb | rfl
    · exact hA.old b hb
    · exact Or.inr hA.frame.size
  · obtain ⟨f1, f2, f3, f4, f5⟩ := hA.frame
    exact ⟨f1, f2, f3, by rw [hsz]; omega, fun i hi hno => (hheap i (by omega)).trans (f5 i hi hno)⟩
theorem kG {t e n b len : Nat} {ps : List (Nat × Operand)} {cs : List V} [ht : Sl P t e n b] (ho : o.op = .buildSlice t len ps.toArray) (hlen : len * n ≤ 16777216)
    (hf : ud (fun i => some (i * n, n)) (List.replicate (len * n) V.any) (ps.map fun p => (p.1, ρ p.2)) = some cs) (hcs : cs.length = len * n) (hN : NoH cs) : z4 P o ρ H (.lst len cs) H := xk fun C A φ a w hA hh => by
  have hx : ∀ p ∈ ps, Rel A w φ (ρ p.2) (a.eval p.2) := fun p hm => hh p.2 (by simp only [ho, Op.operands]; simpa using ⟨p.1, hm⟩)
  obtain ⟨i, z, i1, i2, i3, i4, i5⟩ := ht.i
  have hpos := ht.pos
  have e1 : (List.map (fun p : Nat × Operand => (p.1, a.eval p.2)) ps) = (ps.toArray.map fun (i, x) => (i, a.eval x)).toList := by simp
  have key : ∀ c0 : Array Value, c0.size = len * n → ∃ c', Instr.fill (fun i => some (i * n, n)) c0 (ps.toArray.map fun (i, x) => (i, a.eval x)).toList = some c' ∧ c'.size = cs.length ∧ zv A w φ cs (fun i => c'[i]?) := fun c0 h0 => by
    rw [← e1]
    exact tG hx hf (by simp [h0]) (qP _ c0 h0)
  have hle : ¬ (len * n > 2 ^ 24) := by omega
  have fin : ∀ c' : Array Value, c'.size = cs.length → zv A w φ cs (fun i => c'[i]?) → ((execOp a.eval o).run P w = .ok (.value (.slice (some ⟨w.heap.size, 0, none⟩) len len)) (w.alloc (.cells c' e))) → _ := fun c' k2 k3 hrun =>
    (⟨.slice (some ⟨w.heap.size, 0, none⟩) len len, (w.drewN 0).alloc (.cells c' e), (fun b => A b ∨ b = w.heap.size), φ, Or.inl hrun, hA.alloc_read _, fun b hb => ⟨Or.inl hb, (wJ hA _ 0 b hb).2⟩, fun h hd hh => hh, by
      rw [Rel]
      refine ⟨_, len, rfl, Nat.le_refl _, by rw [hcs]; exact Nat.le_mul_of_pos_right len hpos, Or.inr ⟨w.heap.size, 0, rfl, Or.inr rfl, ?_⟩⟩
      refine yC (zv.mono (fun b hb => ⟨Or.inl hb, (wJ hA (.cells c' e) 0 b hb).2⟩) (fun _ _ h => h) (wq (φ' := []) hN k3)) fun i hi => ?_
      rw [Nat.zero_add]
      exact gF w c' e i⟩ : ∃ x w' A' φ', ((execOp a.eval o).run P w = .ok (.value x) w' ∨ ((execOp a.eval o).run P w = .ok .skip w' ∧ x = undef)) ∧ InvA C A' φ' H w' ∧ (∀ b, A b → A' b ∧ w'.heap[b]? = w.heap[b]?) ∧ (∀ (h : Nat) (hd : Hd), φ[h]? = some hd → φ'[h]? = some hd) ∧ Rel A' w' φ' (.lst len cs) x)
  by_cases h0 : len * n = 0
  · obtain ⟨c', k1, k2, k3⟩ := key ((Array.range (len * n)).map (fun i => (#[] : Array Value)[i % (#[] : Array Value).size]!)) (by simp)
    refine fin c' k2 k3 ?_
    simp only [execOp, ho, Instr.buildSlice, Sem.run_bind, run_underlying ht.u, Result.andThen_ok, sizeOf, typeInfo, run_program, i1, Sem.run_pure, i2, if_neg hle]
    rw [if_pos h0]
    rw [Sem.run_bind, Sem.run_pure, Result.andThen_ok, k1]
    simp [newRow]
  · obtain ⟨c', k1, k2, k3⟩ := key ((Array.range (len * n)).map (fun i => z.cells[i % z.cells.size]!)) (by simp)
    refine fin c' k2 k3 ?_
    simp only [execOp, ho, Instr.buildSlice, Sem.run_bind, run_underlying ht.u, Result.andThen_ok, sizeOf, typeInfo, run_program, i1, Sem.run_pure, i2, if_neg hle]
    rw [if_neg h0]
    simp only [zeroValue, Sem.run_bind, typeInfo, run_program, i1, i4, Sem.run_pure, Result.andThen_ok, k1]
    simp [newRow]
theorem yR {t e n b len : Nat} {ps : List (Nat × Operand)} {cs : List V} [ht : Sl P t e n b] (ho : o.op = .buildSlice t len ps.toArray) (hlen : Nat.ble (len * n) 16777216 = true)
    (hf : ud (fun i => some (i * n, n)) (List.replicate (len * n) V.any) (ps.map fun p => (p.1, ρ p.2)) = some cs) (hcs : Nat.beq cs.length (len * n) = true) (hN : noHs cs = true) : z4 P o ρ H (.lst len cs) H :=
  kG ho (Nat.le_of_ble_eq_true hlen) hf (Nat.eq_of_beq_eq_true hcs) (pb hN)
end
end Go.Proofs.Ytojcojanokhnaaa.Ab
namespace Go.Proofs.Ytojcojanokhnaaa.Ab
open Go.RowKit
section
variable {P : Program} {o : Oper} {ρ : Operand → V} {H : List Reg}
structure IntFs (P : Program) (t : TypeId) (fs : Array Field) : Prop where
  u : P.underlying t = some (.struct fs)
  held : P.stoodInHeld t = false
  guard : P.eqGuardType P.depth t = false
  fs : ∀ (i : Nat) (f : Field), fs.toList[i]? = some f → (f.name == "_") = false ∧ f.offset = i ∧ P.underlying f.type = some (.int .i64)
theorem pz {d : Nat} {xs ys : Array Value} {w : World} : ∀ (fs : List Field) (us bs : List Int), us.length = fs.length → bs.length = fs.length →
    (∀ (j : Nat) (f : Field) (a b : Int), fs[j]? = some f → us[j]? = some a → bs[j]? = some b → (f.name == "_") = false ∧ P.underlying f.type = some (.int .i64) ∧ xs[f.offset]? = some (.int .i64 a) ∧ ys[f.offset]? = some (.int .i64 b)) → (Op.eqFields (d + 1) xs ys fs).run P w = .ok (decide (us = bs)) w
  | [], [], [], _, _, _ => by simp [Op.eqFields]
  | f :: fs, a :: us, b :: bs, h1, h2, h => by
    obtain ⟨g1, g2, g3, g4⟩ := h 0 f a b rfl rfl rfl
    have hn' : f.name ≠ "_" := by simpa using g1
    have ha : (part f.type xs f.offset).run P w = .ok (.int .i64 a) w := by simp [part, isAgg, run_underlying g2, g3]
    have hb : (part f.type ys f.offset).run P w = .ok (.int .i64 b) w := by simp [part, isAgg, run_underlying g2, g4]
    have ih := pz (d := d) (xs := xs) (ys := ys) (w := w) fs us bs (by simpa using h1) (by simpa using h2) (fun j f' a' b' q1 q2 q3 => h (j + 1) f' a' b' q1 q2 q3)
    rw [Op.eqFields]
    simp only [if_pos hn', Sem.run_bind, ha, hb, run_equalIn_int w d f.type .i64 .i64 a b g2, Result.andThen_ok]
    by_cases hab : a = b
    · subst hab
      simpa using ih
    · simp [hab]
  | [], _ :: _, _, h1, _, _ => by simp at h1
  | [], [], _ :: _, _, h2, _ => by simp at h2
  | _ :: _, [], _, h1, _, _ => by simp at h1
  | _ :: _, _ :: _, [], _, h2, _ => by simp at h2
theorem ma {A : Nat → Prop} {w : World} {φ : List Hd} {us : List Int} {xs : Array Value} (h : zv A w φ (us.map I) (fun i => xs[i]?)) {j : Nat} {a : Int} (ha : us[j]? = some a) : xs[j]? = some (.int .i64 a) := by
  obtain ⟨y, h1, h2⟩ := yn h (i := j) (c := I a) (by rw [List.getElem?_map, ha]; rfl)
  simp only [Rel] at h2
  subst h2
  exact h1
theorem g9 {fs : Array Field} {t : TypeId} (hf : IntFs P t fs) {A : Nat → Prop} {w : World} {φ : List Hd} {us bs : List Int} {xs ys : Array Value} (ha : us.length = fs.size) (hb : bs.length = fs.size) (hx : zv A w φ (us.map I) (fun i => xs[i]?)) (hy : zv A w φ (bs.map I) (fun i => ys[i]?)) :
    (Op.equalIn 10000 t (.agg xs) (.agg ys)).run P w = .ok (decide (us = bs)) w := by
  have he : P.fieldsOf t = fs := by simp [Program.fieldsOf, hf.u]
  rw [show (10000 : Nat) = 9999 + 1 from rfl, run_equalIn_struct (P := P) w 9999 t xs ys (by rw [he]; exact hf.u) hf.held, he]
  refine pz (d := 9998) fs.toList us bs (by simpa using ha) (by simpa using hb) fun j f a b q1 q2 q3 => ?_
  obtain ⟨g1, g2, g3⟩ := hf.fs j f q1
  rw [g2]
  exact ⟨g1, g3, ma hx q2, ma hy q3⟩
theorem lH {t t' : TypeId} {x y : Operand} {us bs : List Int} (fs : Array Field) (hf : IntFs P t fs) (ho : o.op = .binOp .neq t x y t') (hx : ρ x = .agg (us.map I)) (hy : ρ y = .agg (bs.map I)) (ha : us.length = fs.size) (hb : bs.length = fs.size) : z4 P o ρ H (.k (.bool (!decide (us = bs)))) H := yB fun A φ a w _ h => by
  have h1 := h x (by simp [ho, Op.operands])
  have h2 := h y (by simp [ho, Op.operands])
  rw [hx, Rel] at h1
  rw [hy, Rel] at h2
  obtain ⟨xs, e1, _, r1⟩ := h1
  obtain ⟨ys, e2, _, r2⟩ := h2
  refine ⟨.bool (!decide (us = bs)), ?_, by simp [Rel]⟩
  have hr : ((do eqGuard .neq t x y (.agg xs) (.agg ys); binOp .neq t (.agg xs) (.agg ys) : Sem Value)).run P w = .ok (.bool (!decide (us = bs))) w := by
    rw [Sem.run_bind, run_eqGuard_agg w .neq t x y xs ys hf.guard]
    simp only [Result.andThen_ok, run_neq_struct, g9 hf ha hb r1 r2]
  simp only [execOp, ho, e1, e2]
  rw [Sem.run_bind, hr]
  rfl
end
end Go.Proofs.Ytojcojanokhnaaa.Ab
namespace Go.Proofs.Ytojcojanokhnaaa.Ab
open Go.RowKit
section
variable {C : Cx} {A A' : Nat → Prop} {φ φ' : List Hd} {H : List Reg} {w w' : World} {P : Program} {o : Oper} {ρ : Operand → V}
end
end Go.Proofs.Ytojcojanokhnaaa.Ab
namespace Go.Proofs.Ytojcojanokhnaaa.Ab
open Go.RowKit
section
variable {C : Cx} {A A' : Nat → Prop} {φ φ' : List Hd} {H : List Reg} {w w' : World} {P : Program} {o : Oper} {ρ : Operand → V} {ops : Array Oper} {rest : List Oper} {Q : Exit → St → Prop} {S T : St}
mutual
inductive Nz (k : Nat) : V → V → Prop where
  | same (v : V) : Nz k v v
  | nil : Nz k (.k (.slice none 0 0)) (.sl k 0 0)
  | agg {cs ds : List V} (h : NzS k cs ds) : Nz k (.agg cs) (.agg ds)
  | tup {cs ds : List V} (h : NzS k cs ds) : Nz k (.tup cs) (.tup ds)
inductive NzS (k : Nat) : List V → List V → Prop where
  | rest (cs : List V) : NzS k cs cs
  | cons {c d : V} {cs ds : List V} (h : Nz k c d) (hs : NzS k cs ds) : NzS k (c :: cs) (d :: ds)
end
theorem NzS.length {k : Nat} : ∀ {cs ds : List V}, NzS k cs ds → ds.length = cs.length
  | _, _, .rest _ => rfl
  | _, _, .cons h hs => by simp [NzS.length hs]
inductive NzR (k : Nat) : List Reg → List Reg → Prop where
  | rest (H : List Reg) : NzR k H H
  | cons {r : Reg} {cs : List V} {H K : List Reg} (h : NzS k r.cells cs) (hs : NzR k H K) : NzR k (r :: H) ({ r with cells := cs } :: K)
theorem NzR.get {k : Nat} : ∀ {H K : List Reg}, NzR k H K → K.length = H.length ∧ ∀ (i : Nat) (r' : Reg), K[i]? = some r' → ∃ r, H[i]? = some r ∧ r'.mode = r.mode ∧ r'.esz = r.esz ∧ r'.e = r.e ∧ NzS k r.cells r'.cells
  | _, _, .rest H => ⟨rfl, fun i r h => ⟨r, h, rfl, rfl, rfl, .rest _⟩⟩
  | _, _, .cons h hs => by
    obtain ⟨e1, e2⟩ := hs.get
    refine ⟨by simp [e1], fun i r' hi => ?_⟩
    cases i with
    | zero => simp at hi; subst hi; exact ⟨_, rfl, rfl, rfl, rfl, h⟩
    | succ i => simp only [List.getElem?_cons_succ] at hi ⊢; exact e2 i r' hi
mutual
theorem Nz.rel {k : Nat} {hd : Hd} (hφ : φ[k]? = some hd) (hb : hd.blk = none) (hc : hd.cap = 0) : ∀ {v v' : V} {x : Value}, Nz k v v' → Rel A w φ v x → Rel A w φ v' x
  | _, _, x, .same v, h => h
  | _, _, x, .nil, h => by
    rw [Rel] at h
    rw [Rel]
    exact ⟨hd, hφ, Or.inl ⟨by rw [h, hb, hc]; rfl, by omega⟩⟩
  | _, _, x, .agg hs, h => by
    rw [Rel] at h ⊢
    obtain ⟨xs, e1, e2, h1⟩ := h
    exact ⟨xs, e1, e2.trans (NzS.length hs).symm, NzS.rels hφ hb hc hs h1⟩
  | _, _, x, .tup hs, h => by
    rw [Rel] at h ⊢
    obtain ⟨xs, e1, e2, h1⟩ := h
    exact ⟨xs, e1, e2.trans (NzS.length hs).symm, NzS.rels hφ hb hc hs h1⟩
theorem NzS.rels {k : Nat} {hd : Hd} (hφ : φ[k]? = some hd) (hb : hd.blk = none) (hc : hd.cap = 0) : ∀ {cs ds : List V} {g : Nat → Option Value}, NzS k cs ds → zv A w φ cs g → zv A w φ ds g
  | _, _, g, .rest _, h => h
  | _, _, g, .cons h hs, hr => by
    rw [zv] at hr ⊢
    obtain ⟨⟨y, h1, h2⟩, h3⟩ := hr
    exact ⟨⟨y, h1, Nz.rel hφ hb hc h h2⟩, NzS.rels hφ hb hc hs h3⟩
end
theorem uu {l l' : List V} {H K : List Reg} {m : Nat} (e n : Nat) (ht : NzS H.length l l') (hH : NzR H.length H K) : Sub ⟨l', K ++ [⟨e, n, [], 0⟩], m⟩ ⟨l, H, m⟩ := fun C φ a w hI => by
  obtain ⟨hm0, ⟨A, hA, hr⟩, hs, hd⟩ := hI
  obtain ⟨k1, k2⟩ := hH.get
  have hA1 := hA.addNil e n
  have hφ : (φ ++ [(⟨none, 0, n, e⟩ : Hd)])[H.length]? = some ⟨none, 0, n, e⟩ := by
    rw [← hA.ok.len]; simp
  have hup : ∀ (i : Nat) (d : Hd), φ[i]? = some d → (φ ++ [(⟨none, 0, n, e⟩ : Hd)])[i]? = some d := fun i d h => zZ h
  have hcell : ∀ (i : Nat) (r' : Reg), (K ++ [(⟨e, n, [], 0⟩ : Reg)])[i]? = some r' → ∃ r, (H ++ [(⟨e, n, [], 0⟩ : Reg)])[i]? = some r ∧ r'.mode = r.mode ∧ r'.esz = r.esz ∧ r'.e = r.e ∧ NzS H.length r.cells r'.cells := fun i r' hi => by
    rcases Nat.lt_or_ge i K.length with hlt | hge
    · rw [List.getElem?_append_left hlt] at hi
      obtain ⟨r, q1, q2, q3, q4, q5⟩ := k2 i r' hi
      exact ⟨r, zZ q1, q2, q3, q4, q5⟩
    · rw [List.getElem?_append_right hge, k1] at hi
      exact ⟨r', by rw [List.getElem?_append_right (by omega)]; exact hi, rfl, rfl, rfl, .rest _⟩
  have hlive : ∀ i b, zw (φ ++ [(⟨none, 0, n, e⟩ : Hd)]) (K ++ [(⟨e, n, [], 0⟩ : Reg)]) i b → zw (φ ++ [(⟨none, 0, n, e⟩ : Hd)]) (H ++ [(⟨e, n, [], 0⟩ : Reg)]) i b := fun i b ⟨d, r', q1, q2, q3, q4⟩ => by
    obtain ⟨r, p1, p2, _⟩ := hcell i r' q2
    exact ⟨d, r, q1, p1, by omega, q4⟩
  refine ⟨φ ++ [⟨none, 0, n, e⟩], hm0, ⟨A, ⟨⟨?_, fun i d r' q1 q2 q3 => ?_, fun i j b q1 q2 => hA1.ok.inj i j b (hlive i b q1) (hlive j b q2), fun i b q1 => hA1.ok.apart i b (hlive i b q1), fun i d r' b q1 q2 q3 q4 => ?_, hA1.ok.low⟩, hA1.old, fun i b q1 => hA1.own i b (hlive i b q1), hA1.frame, hA1.pre⟩, ?_⟩, hs.trans (NzS.length ht).symm, hd⟩
  · have := hA1.ok.len
    simp only [List.length_append] at this ⊢
    omega
  · obtain ⟨r, p1, p2, p3, p4, p5⟩ := hcell i r' q2
    obtain ⟨f1, f2⟩ := hA1.ok.regs i d r q1 p1 (by omega)
    refine ⟨⟨f1.1.trans p3.symm, f1.2.1.trans p4.symm, f1.2.2⟩, ?_⟩
    cases hb : d.blk with
    | none =>
      rw [hb] at f2
      have := NzS.length p5
      rw [f2.1] at this
      exact ⟨List.length_eq_zero_iff.1 this, f2.2⟩
    | some b =>
      rw [hb] at f2
      obtain ⟨c, c1, c2, c3, c4⟩ := f2
      exact ⟨c, c1, c2, by rw [NzS.length p5]; exact c3, NzS.rels hφ rfl rfl p5 c4⟩
  · obtain ⟨r, p1, p2, _⟩ := hcell i r' q2
    exact hA1.ok.frz i d r b q1 p1 (by omega) q4
  · exact NzS.rels hφ rfl rfl ht (zv.mono (fun b hb => ⟨hb, rfl⟩) hup hr)
theorem pJ {l : List V} {H : List Reg} {m h : Nat} {r : Reg} (hh : H[h]? = some r) (hm : r.mode = 0) (hge : m ≤ h) (hlive : ∀ i, i < m → ∃ q, H[i]? = some q ∧ q.mode = 0) : Sub ⟨l, H.set h { r with mode := 1 }, m⟩ ⟨l, H, m⟩ := fun C φ a w hI => by
  obtain ⟨hm0, ⟨A, hA, hr⟩, hs, hd⟩ := hI
  have hlt : h < H.length := (List.getElem?_eq_some_iff.1 hh).1
  have xY : ∀ i b, zw φ (H.set h { r with mode := 1 }) i b → i ≠ h ∧ zw φ H i b := fun i b ⟨d, q, q1, q2, q3, q4⟩ => by
    rcases getElem?_set' q2 with ⟨rfl, rfl⟩ | ⟨hne, q2⟩
    · cases q3
    · exact ⟨hne, d, q, q1, q2, q3, q4⟩
  let B : Nat → Prop := fun b => ∃ d, φ[h]? = some d ∧ d.blk = some b
  have hB : ∀ b, B b → zw φ H h b := fun b ⟨d, q1, q2⟩ => ⟨d, r, q1, hh, hm, q2⟩
  refine ⟨φ, hm0, ⟨fun b => A b ∨ B b, ⟨⟨by rw [List.length_set]; exact hA.ok.len, fun i d q q1 q2 q3 => ?_, fun i j b q1 q2 => hA.ok.inj i j b (xY i b q1).2 (xY j b q2).2, fun i b q1 hb => ?_, fun i d q b q1 q2 q3 q4 => ?_, fun b hb => ?_⟩, fun b hb => ?_, fun i b q1 => hA.own i b (xY i b q1).2, hA.frame, hA.pre⟩, zv.mono (fun b hb => ⟨Or.inl hb, rfl⟩) (fun _ _ h => h) hr⟩, hs, hd⟩
  · obtain ⟨q', p1, p2⟩ : ∃ q', H[i]? = some q' ∧ q'.mode ≤ 1 ∧ q.esz = q'.esz ∧ q.e = q'.e ∧ q.cells = q'.cells := by
      rcases getElem?_set' q2 with ⟨rfl, rfl⟩ | ⟨hne, q2⟩
      · exact ⟨r, hh, by omega, rfl, rfl, rfl⟩
      · exact ⟨q, q2, q3, rfl, rfl, rfl⟩
    obtain ⟨f1, f2⟩ := hA.ok.regs i d q' q1 p1 p2.1
    refine ⟨⟨f1.1.trans p2.2.1.symm, f1.2.1.trans p2.2.2.1.symm, f1.2.2⟩, ?_⟩
    cases hb : d.blk with
    | none => rw [hb] at f2; rw [p2.2.2.2]; exact f2
    | some b =>
      rw [hb] at f2
      obtain ⟨c, c1, c2, c3, c4⟩ := f2
      exact ⟨c, c1, c2, by rw [p2.2.2.2]; exact c3, by rw [p2.2.2.2]; exact zv.mono (fun b hb => ⟨Or.inl hb, rfl⟩) (fun _ _ h => h) c4⟩
  · obtain ⟨hne, hl⟩ := xY i b q1
    rcases hb with hb | hb
    · exact hA.ok.apart i b hl hb
    · exact hne (hA.ok.inj _ _ _ hl (hB b hb))
  · rcases getElem?_set' q2 with ⟨rfl, rfl⟩ | ⟨hne, q2⟩
    · exact Or.inr ⟨d, q1, q4⟩
    · exact Or.inl (hA.ok.frz i d q b q1 q2 q3 q4)
  · rcases hb with hb | ⟨d, q1, q2⟩
    · exact hA.ok.low b hb
    · exact xz hA.ok q1 hh (by omega) q2
  · rcases hb with hb | hb
    · exact hA.old b hb
    · rcases hA.own h b (hB b hb) with h1 | ⟨h0, d0, q0, p1, p2, p3, p4⟩
      · exact Or.inr h1
      · exfalso
        have hlt0 : h0 < m := by
          have := (List.getElem?_eq_some_iff.1 p1).1
          have e : C.φ0.length = m := hm0
          omega
        obtain ⟨q, k1, k2⟩ := hlive h0 hlt0
        have := hA.ok.inj h0 h b ⟨d0, q, hA.pre h0 d0 p1, k1, k2, p4⟩ (hB b hb)
        omega
mutual
inductive Vw (H : List Reg) : V → V → Prop where
  | same (v : V) : Vw H v v
  | pur {v v' : V} (h : Pur false H v v') : Vw H v v'
  | agg {cs ds : List V} (h : VwS H cs ds) : Vw H (.agg cs) (.agg ds)
  | tup {cs ds : List V} (h : VwS H cs ds) : Vw H (.tup cs) (.tup ds)
inductive VwS (H : List Reg) : List V → List V → Prop where
  | rest (cs : List V) : VwS H cs cs
  | cons {c d : V} {cs ds : List V} (h : Vw H c d) (hs : VwS H cs ds) : VwS H (c :: cs) (d :: ds)
end
theorem VwS.length : ∀ {cs ds : List V}, VwS H cs ds → ds.length = cs.length
  | _, _, .rest _ => rfl
  | _, _, .cons h hs => by simp [VwS.length hs]
theorem VwS.all {f : V → V} (hf : ∀ c, Vw H c (f c)) : ∀ cs : List V, VwS H cs (cs.map f)
  | [] => .rest _
  | c :: cs => .cons (hf c) (VwS.all hf cs)
mutual
theorem Vw.rel (hok : HeapOk A w φ H) : ∀ {v v' : V} {x : Value}, Vw H v v' → Rel A w φ v x → Rel A w φ v' x
  | _, _, x, .same _, h => h
  | _, _, x, .pur hp, h => vN (Pur.noH hp) (Pur.rel hok (fun b hb => hb) (fun h => by cases h) hp h)
  | _, _, x, .agg hs, h => by
    rw [Rel] at h ⊢
    obtain ⟨xs, e1, e2, h1⟩ := h
    exact ⟨xs, e1, e2.trans (VwS.length hs).symm, VwS.rels hok hs h1⟩
  | _, _, x, .tup hs, h => by
    rw [Rel] at h ⊢
    obtain ⟨xs, e1, e2, h1⟩ := h
    exact ⟨xs, e1, e2.trans (VwS.length hs).symm, VwS.rels hok hs h1⟩
theorem VwS.rels (hok : HeapOk A w φ H) : ∀ {cs ds : List V} {g : Nat → Option Value}, VwS H cs ds → zv A w φ cs g → zv A w φ ds g
  | _, _, g, .rest _, h => h
  | _, _, g, .cons h hs, hr => by
    rw [zv] at hr ⊢
    obtain ⟨⟨y, h1, h2⟩, h3⟩ := hr
    exact ⟨⟨y, h1, Vw.rel hok h h2⟩, VwS.rels hok hs h3⟩
end
inductive VwR (H : List Reg) : List Reg → List Reg → Prop where
  | rest (L : List Reg) : VwR H L L
  | cons {r : Reg} {cs : List V} {L K : List Reg} (h : VwS H r.cells cs) (hs : VwR H L K) : VwR H (r :: L) ({ r with cells := cs } :: K)
theorem VwR.get {G : List Reg} : ∀ {H K : List Reg}, VwR G H K → K.length = H.length ∧ ∀ (i : Nat) (r' : Reg), K[i]? = some r' → ∃ r, H[i]? = some r ∧ r'.mode = r.mode ∧ r'.esz = r.esz ∧ r'.e = r.e ∧ VwS G r.cells r'.cells
  | _, _, .rest H => ⟨rfl, fun i r h => ⟨r, h, rfl, rfl, rfl, .rest _⟩⟩
  | _, _, .cons h hs => by
    obtain ⟨e1, e2⟩ := hs.get
    refine ⟨by simp [e1], fun i r' hi => ?_⟩
    cases i with
    | zero => simp at hi; subst hi; exact ⟨_, rfl, rfl, rfl, rfl, h⟩
    | succ i => simp only [List.getElem?_cons_succ] at hi ⊢; exact e2 i r' hi
theorem l4 {l l' : List V} {H K : List Reg} {m : Nat} (ht : VwS H l l') (hH : VwR H H K) : Sub ⟨l', K, m⟩ ⟨l, H, m⟩ := fun C φ a w hI => by
  obtain ⟨hm0, ⟨A, hA, hr⟩, hs, hd⟩ := hI
  obtain ⟨k1, k2⟩ := hH.get
  have hlive : ∀ i b, zw φ K i b → zw φ H i b := fun i b ⟨d, r', q1, q2, q3, q4⟩ => by
    obtain ⟨r, p1, p2, _⟩ := k2 i r' q2
    exact ⟨d, r, q1, p1, by omega, q4⟩
  refine ⟨φ, hm0, ⟨A, ⟨⟨by rw [k1]; exact hA.ok.len, fun i d r' q1 q2 q3 => ?_, fun i j b q1 q2 => hA.ok.inj i j b (hlive i b q1) (hlive j b q2), fun i b q1 => hA.ok.apart i b (hlive i b q1), fun i d r' b q1 q2 q3 q4 => ?_, hA.ok.low⟩, hA.old, fun i b q1 => hA.own i b (hlive i b q1), hA.frame, hA.pre⟩, VwS.rels hA.ok ht hr⟩, hs.trans (VwS.length ht).symm, hd⟩
  · obtain ⟨r, p1, p2, p3, p4, p5⟩ := k2 i r' q2
    obtain ⟨f1, f2⟩ := hA.ok.regs i d r q1 p1 (by omega)
    refine ⟨⟨f1.1.trans p3.symm, f1.2.1.trans p4.symm, f1.2.2⟩, ?_⟩
    cases hb : d.blk with
    | none =>
      rw [hb] at f2
      have := VwS.length p5
      rw [f2.1] at this
      exact ⟨List.length_eq_zero_iff.1 this, f2.2⟩
    | some b =>
      rw [hb] at f2
      obtain ⟨c, c1, c2, c3, c4⟩ := f2
      exact ⟨c, c1, c2, by rw [VwS.length p5]; exact c3, VwS.rels hA.ok p5 c4⟩
  · obtain ⟨r, p1, p2, _⟩ := k2 i r' q2
    exact hA.ok.frz i d r b q1 p1 (by omega) q4
theorem ge {l : List Oper} {T S : St} (hs : Sub T S) (h : AOps P ops l Q T) : AOps P ops l Q S := ⟨fun C φ a w hI => let ⟨φ', h'⟩ := hs C φ a w hI; h.out C φ' a w h'⟩
end
end Go.Proofs.Ytojcojanokhnaaa.Ab
namespace Go.Proofs.Ytojcojanokhnaaa.Ab
open Go.RowKit
def bkI (hs : List Nat) (n i : Nat) : Nat := (hs[i]?).getD (n + (i - hs.length))
mutual
inductive Bk (hs : List Nat) (n : Nat) : V → V → Prop where
  | same {v : V} (h : noH v = true) : Bk hs n v v
  | sl {i h off m : Nat} (h1 : bkI hs n i = h) : Bk hs n (.sl i off m) (.sl h off m)
  | ptr {i h off : Nat} (h1 : bkI hs n i = h) : Bk hs n (.ptr i off) (.ptr h off)
  | agg {cs ds : List V} (h : BkS hs n cs ds) : Bk hs n (.agg cs) (.agg ds)
  | tup {cs ds : List V} (h : BkS hs n cs ds) : Bk hs n (.tup cs) (.tup ds)
inductive BkS (hs : List Nat) (n : Nat) : List V → List V → Prop where
  | rest {cs : List V} (h : NoH cs) : BkS hs n cs cs
  | cons {c d : V} {cs ds : List V} (h : Bk hs n c d) (ht : BkS hs n cs ds) : BkS hs n (c :: cs) (d :: ds)
end
theorem BkS.nil {hs : List Nat} {n : Nat} : BkS hs n [] [] := .rest fun c hc => by cases hc
theorem BkS.length {hs : List Nat} {n : Nat} : ∀ {cs ds : List V}, BkS hs n cs ds → ds.length = cs.length
  | _, _, .rest _ => rfl
  | _, _, .cons h ht => by simp [BkS.length ht]
theorem BkS.map {α : Type} {hs : List Nat} {n : Nat} {f g : α → V} : ∀ (l : List α), (∀ x ∈ l, Bk hs n (f x) (g x)) → BkS hs n (l.map f) (l.map g)
  | [], _ => .nil
  | x :: l, h => .cons (h x (List.mem_cons_self ..)) (BkS.map l fun y hy => h y (List.mem_cons_of_mem _ hy))
section
variable {A : Nat → Prop} {w : World} {φ φ' : List Hd} {hs : List Nat} {n : Nat}
mutual
theorem Bk.rel (hg : ∀ (i : Nat) hd, φ'[i]? = some hd → φ[bkI hs n i]? = some hd) : ∀ {v v' : V} {x : Value}, Bk hs n v v' → Rel A w φ' v x → Rel A w φ v' x
  | v, _, x, .same h, hr => vN h hr
  | _, _, x, .sl h1, hr => by
    rw [Rel] at hr ⊢
    obtain ⟨hd, h2, h3⟩ := hr
    exact ⟨hd, h1 ▸ hg _ _ h2, h3⟩
  | _, _, x, .ptr h1, hr => by
    rw [Rel] at hr ⊢
    obtain ⟨hd, b, h2, h3⟩ := hr
    exact ⟨hd, b, h1 ▸ hg _ _ h2, h3⟩
  | .agg cs, .agg ds, x, .agg h, hr => by
    rw [Rel] at hr ⊢
    obtain ⟨xs, e1, e2, h2⟩ := hr
    exact ⟨xs, e1, e2.trans (BkS.length h).symm, BkS.rels hg h h2⟩
  | .tup cs, .tup ds, x, .tup h, hr => by
    rw [Rel] at hr ⊢
    obtain ⟨xs, e1, e2, h2⟩ := hr
    exact ⟨xs, e1, e2.trans (BkS.length h).symm, BkS.rels hg h h2⟩
theorem BkS.rels (hg : ∀ (i : Nat) hd, φ'[i]? = some hd → φ[bkI hs n i]? = some hd) : ∀ {cs ds : List V} {g : Nat → Option Value}, BkS hs n cs ds → zv A w φ' cs g → zv A w φ ds g
  | _, _, g, .rest h, hr => wq h hr
  | c :: cs, _, g, .cons h ht, hr => by
    rw [zv] at hr ⊢
    obtain ⟨⟨y, h1, h2⟩, h3⟩ := hr
    exact ⟨⟨y, h1, Bk.rel hg h h2⟩, BkS.rels hg ht h3⟩
end
end
theorem tV {hs : List Nat} : ∀ {cs : List V}, NoH cs → PassS hs cs cs
  | [], _ => .nil
  | c :: cs, h => .cons (.same (h c (List.mem_cons_self ..))) (tV fun d hd => h d (List.mem_cons_of_mem _ hd))
inductive BkR (hs : List Nat) (n : Nat) : List Reg → List Reg → Prop where
  | nil : BkR hs n [] []
  | cons {R : Reg} {cs : List V} {K K2 : List Reg} (h : BkS hs n R.cells cs) (ht : BkR hs n K K2) : BkR hs n (R :: K) ({ R with cells := cs } :: K2)
theorem BkR.get {hs : List Nat} {n : Nat} : ∀ {K K2 : List Reg}, BkR hs n K K2 → K2.length = K.length ∧ ∀ (i : Nat) (r : Reg), K2[i]? = some r → ∃ R, K[i]? = some R ∧ r.mode = R.mode ∧ r.esz = R.esz ∧ r.e = R.e ∧ BkS hs n R.cells r.cells
  | _, _, .nil => ⟨rfl, fun i r h => by simp at h⟩
  | _, _, .cons h ht => by
    obtain ⟨e1, e2⟩ := ht.get
    refine ⟨by simp [e1], fun i r hi => ?_⟩
    cases i with
    | zero => simp at hi; subst hi; exact ⟨_, rfl, rfl, rfl, rfl, h⟩
    | succ i => simp only [List.getElem?_cons_succ] at hi ⊢; exact e2 i r hi
inductive GiveN (H : List Reg) (hs0 : List Nat) (n : Nat) : List Nat → List Reg → List Reg → List Reg → Prop where
  | nil : GiveN H hs0 n [] [] [] []
  | cons {h : Nat} {R0 R' : Reg} {cs cs2 : List V} {hs : List Nat} {Rs Rs' R2 : List Reg} (hH : H[h]? = some R0) (hm : R0.mode = 0) (hp : PassS hs0 R0.cells cs) (hm' : R'.mode ≠ 1) (hb : BkS hs0 n R'.cells cs2) (ht : GiveN H hs0 n hs Rs Rs' R2) :
      GiveN H hs0 n (h :: hs) ({ R0 with cells := cs } :: Rs) (R' :: Rs') ({ R' with cells := cs2 } :: R2)
theorem GiveN.spec {H : List Reg} {hs0 : List Nat} {n : Nat} : ∀ {hs : List Nat} {Rs Rs' R2 : List Reg}, GiveN H hs0 n hs Rs Rs' R2 → Rs.length = hs.length ∧ Rs'.length = hs.length ∧ R2.length = hs.length ∧ ∀ (i h : Nat), hs[i]? = some h →
    ∃ R0 R R' RR, H[h]? = some R0 ∧ R0.mode = 0 ∧ Rs[i]? = some R ∧ R.mode = 0 ∧ R.esz = R0.esz ∧ R.e = R0.e ∧ PassS hs0 R0.cells R.cells ∧ Rs'[i]? = some R' ∧ R'.mode ≠ 1 ∧ R2[i]? = some RR ∧ RR.mode = R'.mode ∧ RR.esz = R'.esz ∧ RR.e = R'.e ∧ BkS hs0 n R'.cells RR.cells
  | _, _, _, _, .nil => ⟨rfl, rfl, rfl, fun i h hi => by simp at hi⟩
  | _, _, _, _, .cons hH hm hp hm' hb ht => by
    obtain ⟨e1, e2, e3, e4⟩ := ht.spec
    refine ⟨by simp [e1], by simp [e2], by simp [e3], fun i h hi => ?_⟩
    cases i with
    | zero =>
      simp at hi
      subst hi
      exact ⟨_, _, _, _, hH, hm, rfl, hm, rfl, rfl, hp, rfl, hm', rfl, rfl, rfl, rfl, hb⟩
    | succ i =>
      simp only [List.getElem?_cons_succ] at hi ⊢
      exact e4 i h hi
section
variable {P : Program} {o : Oper} {ρ : Operand → V} {H : List Reg}
theorem na {f : FuncId} {args : List Operand} {ats : Array TypeId} {cargs : List V} {r r2 : V} {Rs Rs' R2 K K2 : List Reg} {al : Bool} (hs : List Nat) (hnd : hs.Nodup) [he : Ent P f] (ho : o.op = .call { callee := .value (.func f), args := args.toArray, argTypes := ats })
    (hm : zx P f cargs Rs r (Rs' ++ K) al) (hg : GiveN H hs H.length hs Rs Rs' R2) (hargs : PassS hs (args.map ρ) cargs) (hK : BkR hs H.length K K2) (hr : Bk hs H.length r r2) : z4 P o ρ H r2 (yj H hs R2 ++ K2) := by
  intro S hS hρ C φ a w hI next Q hn
  obtain ⟨hm2, ⟨A, hA, hrr⟩, hsz, hd0⟩ := hI
  subst hS
  obtain ⟨g1, g2, g2', g3⟩ := hg.spec
  obtain ⟨q1, q2⟩ := hK.get
  have hlen := hA.ok.len
  have hargr : zv A w φ (args.map ρ) (fun i => (args.map a.eval).toArray[i]?) := ws fun x hx => by
    rw [← hρ x (by rw [ho]; simp only [Op.operands, Call.operands]; simp [hx])]
    exact wS hrr x
  have hlt : ∀ (i h : Nat), hs[i]? = some h → h < S.H.length := fun i h hi => by
    obtain ⟨R0, _, _, _, q, _⟩ := g3 i h hi
    exact (List.getElem?_eq_some_iff.1 q).1
  let hds : List Hd := hs.map fun h => φ.getD h ⟨none, 0, 0, 0⟩
  have hl1 : hds.length = hs.length := by simp [hds]
  have hget : ∀ (i h : Nat), hs[i]? = some h → ∃ hd, φ[h]? = some hd ∧ hds[i]? = some hd := fun i h hi => by
    have h1 : h < φ.length := by rw [hA.ok.len]; exact hlt i h hi
    refine ⟨φ[h], List.getElem?_eq_getElem h1, ?_⟩
    simp only [hds, List.getElem?_map, hi, Option.map_some, List.getD, List.getElem?_eq_getElem h1, Option.getD_some]
  have hback : ∀ (i : Nat) (d : Hd), hds[i]? = some d → ∃ h, hs[i]? = some h ∧ φ[h]? = some d := fun i d hi => by
    cases hx : hs[i]? with
    | none =>
      have : hds[i]? = none := by simp [hds, hx]
      rw [this] at hi
      cases hi
    | some h =>
      obtain ⟨hd, q1, q2⟩ := hget i h hx
      rw [q2] at hi
      cases hi
      exact ⟨h, rfl, q1⟩
  have hpas : ∀ (i h : Nat), hs[i]? = some h → ∀ hd, φ[h]? = some hd → hds[i]? = some hd := fun i h hi hd hhd => by
    obtain ⟨hd', p1, p2⟩ := hget i h hi
    rw [hhd] at p1
    cases p1
    exact p2
  have hli : ∀ j b, zw hds Rs j b → ∃ h, hs[j]? = some h ∧ zw φ S.H h b := fun j b ⟨d, r', q1, q2, q3, q4⟩ => by
    obtain ⟨h, p1, p2⟩ := hback j d q1
    obtain ⟨R0, R, R', RR, e1, e2, e3, _⟩ := g3 j h p1
    exact ⟨h, p1, d, R0, p2, e1, e2, q4⟩
  have hok1 : HeapOk A w hds Rs := by
    refine ⟨by rw [hl1, g1], fun j d r' q1 q2 q3 => ?_, fun j j' b q1 q2 => ?_, fun j b q1 => ?_, fun j d r' b q1 q2 q3 q4 => ?_, hA.ok.low⟩
    · obtain ⟨h, p1, p2⟩ := hback j d q1
      obtain ⟨R0, R, R', RR, e1, e2, e3, e4, e5, e6, e7, _⟩ := g3 j h p1
      rw [e3] at q2
      cases q2
      obtain ⟨f1, f2⟩ := hA.ok.regs h d R0 p2 e1 (by omega)
      refine ⟨⟨f1.1.trans e5.symm, f1.2.1.trans e6.symm, f1.2.2⟩, ?_⟩
      cases hk : d.blk with
      | none =>
        rw [hk] at f2
        have := PassS.length e7
        rw [f2.1] at this
        exact ⟨List.length_eq_zero_iff.1 this.symm, f2.2⟩
      | some b =>
        rw [hk] at f2
        obtain ⟨c, k1, k2, k3, k4⟩ := f2
        exact ⟨c, k1, k2, by rw [← PassS.length e7]; exact k3, PassS.rels hpas e7 k4⟩
    · obtain ⟨h, p1, p2⟩ := hli j b q1
      obtain ⟨h', p1', p2'⟩ := hli j' b q2
      have := hA.ok.inj _ _ _ p2 p2'
      subst this
      exact (List.getElem?_inj (List.getElem?_eq_some_iff.1 p1).1 hnd).1 (p1.trans p1'.symm)
    · obtain ⟨h, p1, p2⟩ := hli j b q1
      exact hA.ok.apart _ _ p2
    · obtain ⟨h, p1, p2⟩ := hback j d q1
      obtain ⟨R0, R, R', RR, e1, e2, e3, e4, _⟩ := g3 j h p1
      rw [e3] at q2
      cases q2
      omega
  have hcall := hm A hds w (args.map a.eval).toArray hok1 (PassS.rels hpas hargs hargr) (by simp [← PassS.length hargs])
  unfold Oper.wp
  rw [vD ho, Oper.upon_enter]
  refine hcall.mono ?_
  rintro e w' ⟨x, φ', A', rfl, k1, k2, k3, k4, k5, k6⟩
  obtain ⟨ψ', rfl⟩ : ∃ ψ', φ' = hds ++ ψ' := by
    refine ⟨φ'.drop hds.length, ?_⟩
    refine List.ext_getElem? fun i => ?_
    rcases Nat.lt_or_ge i hds.length with hi | hi
    · rw [List.getElem?_append_left hi, k6 i _ (List.getElem?_eq_getElem hi), List.getElem?_eq_getElem hi]
    · rw [List.getElem?_append_right hi, List.getElem?_drop, Nat.add_sub_cancel' hi]
  have hno : ∀ b, (∀ h ∈ hs, ¬ zw φ S.H h b) → ∀ j, ¬ zw hds Rs j b := fun b hn j hl => by
    obtain ⟨h, p1, p2⟩ := hli j b hl
    exact hn h (List.mem_of_getElem? p1) p2
  have hA' : ∀ b, A' b → A b ∨ w.heap.size ≤ b := fun b hb => (k3 b hb).imp (fun h => h.2) id
  have hl : ∀ j b, zw (hds ++ ψ') (Rs' ++ K) j b → w.heap.size ≤ b ∨ ∃ h ∈ hs, zw φ S.H h b := fun j b hl => (k4 j b hl).imp id fun ⟨j0, h⟩ => by obtain ⟨g, p1, p2⟩ := hli j0 b h; exact ⟨g, List.mem_of_getElem? p1, p2⟩
  have hoth : ∀ b, b < w.heap.size → (∀ h ∈ hs, ¬ zw φ S.H h b) → w'.heap[b]? = w.heap[b]? := fun b hb hn => k5.block b hb (hno b hn)
  have hset : ∀ (i h : Nat), hs[i]? = some h → (yj S.H hs R2)[h]? = R2[i]? := uI S.H hs R2 hnd g2' (fun x hx => by obtain ⟨i, hi⟩ := List.getElem?_of_mem hx; exact hlt i x hi)
  have hkeep : ∀ x, x ∉ hs → (yj S.H hs R2)[x]? = S.H[x]? := fun x hx => vM S.H hs R2 x hx
  have hl2 : (yj S.H hs R2).length = S.H.length := wg S.H hs R2
  generalize yj S.H hs R2 = H2 at hset hkeep hl2 hn
  have hφm : ∀ (i : Nat) (d : Hd), φ[i]? = some d → (φ ++ ψ')[i]? = some d := fun i d hh => zZ hh
  have hAm : ∀ b, A b → (A b ∨ A' b) ∧ w'.heap[b]? = w.heap[b]? := fun b hb => ⟨Or.inl hb, hoth b (hA.ok.low b hb) fun h _ hl => hA.ok.apart h b hl hb⟩
  have hψ : ψ'.length = K.length := by have := k1.len; rw [List.length_append, List.length_append, hl1, g2] at this; omega
  have hbk : ∀ (i : Nat) hd, (hds ++ ψ')[i]? = some hd → (φ ++ ψ')[bkI hs S.H.length i]? = some hd := fun i hd hi => by
    rcases Nat.lt_or_ge i hds.length with h1 | h1
    · rw [List.getElem?_append_left h1] at hi
      obtain ⟨h, p1, p2⟩ := hback i hd hi
      unfold bkI
      rw [p1]
      exact hφm _ _ p2
    · rw [List.getElem?_append_right h1] at hi
      unfold bkI
      rw [show hs[i]? = none from List.getElem?_eq_none (by omega), Option.getD_none, ← hlen, List.getElem?_append_right (by omega)]
      rw [← hi]
      congr 1
      omega
  have hleft : ∀ {α : Type} (a b : List α) (j : Nat), (a ++ b)[a.length + j]? = b[j]? := fun a b j => by
    rw [List.getElem?_append_right (Nat.le_add_right _ _), Nat.add_sub_cancel_left]
  have hsplit : ∀ (i : Nat) (d : Hd) (r : Reg), (φ ++ ψ')[i]? = some d → (H2 ++ K2)[i]? = some r → (∃ y R', i ∈ hs ∧ y < hs.length ∧ (hds ++ ψ')[y]? = some d ∧ (Rs' ++ K)[y]? = some R' ∧ (∃ R0, φ[i]? = some d ∧ S.H[i]? = some R0 ∧ R0.mode = 0) ∧ r.mode = R'.mode ∧ r.esz = R'.esz ∧ r.e = R'.e ∧ BkS hs S.H.length R'.cells r.cells ∧ R'.mode ≠ 1) ∨ (i ∉ hs ∧ φ[i]? = some d ∧ S.H[i]? = some r) ∨
      (∃ j R', i = φ.length + j ∧ (hds ++ ψ')[hs.length + j]? = some d ∧ (Rs' ++ K)[hs.length + j]? = some R' ∧ r.mode = R'.mode ∧ r.esz = R'.esz ∧ r.e = R'.e ∧ BkS hs S.H.length R'.cells r.cells) := fun i d r h1 h2 => by
    rcases Nat.lt_or_ge i φ.length with hlt | hge
    · rw [List.getElem?_append_left hlt] at h1
      rw [List.getElem?_append_left (by omega)] at h2
      by_cases hmm : i ∈ hs
      · obtain ⟨y, hy⟩ := List.getElem?_of_mem hmm
        obtain ⟨R0, R, R', RR, e1, e2, e3, e4, e5, e6, e7, e8, e9, e10, e11, e12, e13, e14⟩ := g3 y i hy
        rw [hset y i hy, e10] at h2
        cases h2
        exact Or.inl ⟨y, R', hmm, (List.getElem?_eq_some_iff.1 hy).1, zZ (hpas y i hy d h1), zZ e8, ⟨R0, h1, e1, e2⟩, e11, e12, e13, e14, e9⟩
      · rw [hkeep i hmm] at h2
        exact Or.inr (Or.inl ⟨hmm, h1, h2⟩)
    · rw [List.getElem?_append_right hge] at h1
      rw [List.getElem?_append_right (by omega), hl2, ← hlen] at h2
      obtain ⟨R', p1, p2, p3, p4, p5⟩ := q2 _ _ h2
      exact Or.inr (Or.inr ⟨i - φ.length, R', by omega, by rw [← hl1, hleft]; exact h1, by rw [← g2, hleft]; exact p1, p2, p3, p4, p5⟩)
  have hlive : ∀ i b, zw (φ ++ ψ') (H2 ++ K2) i b → (i ∈ hs ∧ zw φ S.H i b ∧ ∃ y, y < hs.length ∧ zw (hds ++ ψ') (Rs' ++ K) y b) ∨ (i ∉ hs ∧ zw φ S.H i b) ∨ (∃ j, i = φ.length + j ∧ zw (hds ++ ψ') (Rs' ++ K) (hs.length + j) b) := by
    rintro i b ⟨d, r, h1, h2, h3, h4⟩
    rcases hsplit i d r h1 h2 with ⟨y, R', p1, p2, p3, p4, ⟨R0, p5, p6, p7⟩, p8, _⟩ | ⟨hne, p1, p2⟩ | ⟨j, R', p0, p1, p2, p3, _⟩
    · exact Or.inl ⟨p1, ⟨d, R0, p5, p6, p7, h4⟩, y, p2, d, R', p3, p4, by omega, h4⟩
    · exact Or.inr (Or.inl ⟨hne, d, r, p1, p2, h3, h4⟩)
    · exact Or.inr (Or.inr ⟨j, p0, d, R', p1, p2, by omega, h4⟩)
  have hlow : ∀ i b, zw φ S.H i b → b < w.heap.size := fun i b ⟨d, r, h1, h2, h3, h4⟩ => xz hA.ok h1 h2 (by omega) h4
  have hcells : ∀ (d : Hd) (R' r : Reg) (y : Nat), (hds ++ ψ')[y]? = some d → (Rs' ++ K)[y]? = some R' → r.mode ≤ 1 → r.mode = R'.mode → r.esz = R'.esz → r.e = R'.e → BkS hs S.H.length R'.cells r.cells → eX (fun b => A b ∨ A' b) w' (φ ++ ψ') d r := fun d R' r y p1 p2 p3 p4 p5 p6 p7 => by
    obtain ⟨e1, e2⟩ := k1.regs y d R' p1 p2 (by omega)
    refine ⟨⟨e1.1.trans p5.symm, e1.2.1.trans p6.symm, e1.2.2⟩, ?_⟩
    cases hk : d.blk with
    | none =>
      rw [hk] at e2
      have := BkS.length p7
      rw [e2.1] at this
      exact ⟨List.length_eq_zero_iff.1 this, e2.2⟩
    | some b =>
      rw [hk] at e2
      obtain ⟨c, c1, c2, c3, c4⟩ := e2
      exact ⟨c, c1, c2, by rw [BkS.length p7]; exact c3, zv.mono (fun b hb => ⟨Or.inr hb, rfl⟩) (fun _ _ h => h) (BkS.rels hbk p7 c4)⟩
  have hJ : InvA C (fun b => A b ∨ A' b) (φ ++ ψ') (H2 ++ K2) w' := by
    refine ⟨⟨by simp [hlen, hψ, hl2, q1], fun i d r h1 h2 h3 => ?_, fun i i' b h1 h2 => ?_, fun i b h1 => ?_, fun i d r b h1 h2 h3 h4 => ?_, fun b hb => ?_⟩, fun b hb => ?_, fun i b h1 => ?_, ?_, fun i d hh => hφm i d (hA.pre i d hh)⟩
    · rcases hsplit i d r h1 h2 with ⟨y, R', p1, p2, p3, p4, _, p8, p9, p10, p11, p12⟩ | ⟨hne, p1, p2⟩ | ⟨j, R', p0, p1, p2, p3, p4, p5, p6⟩
      · exact hcells d R' r y p3 p4 h3 p8 p9 p10 p11
      · obtain ⟨e1, e2⟩ := hA.ok.regs i d r p1 p2 h3
        refine ⟨e1, ?_⟩
        cases hk : d.blk with
        | none => rw [hk] at e2; exact e2
        | some b =>
          rw [hk] at e2
          obtain ⟨c, c1, c2, c3, c4⟩ := e2
          have hnl : ∀ h ∈ hs, ¬ zw φ S.H h b := fun h hmm hl => by
            rcases Nat.lt_or_ge r.mode 1 with hm1 | hm1
            · have := hA.ok.inj _ _ _ ⟨d, r, p1, p2, by omega, hk⟩ hl
              exact hne (this ▸ hmm)
            · exact hA.ok.apart h b hl (hA.ok.frz i d r b p1 p2 (by omega) hk)
          exact ⟨c, (hoth b (xz hA.ok p1 p2 h3 hk) hnl).trans c1, c2, c3, zv.mono hAm hφm c4⟩
      · exact hcells d R' r _ p1 p2 h3 p3 p4 p5 p6
    · have hnew : ∀ j i, i ∉ hs → zw φ S.H i b → zw (hds ++ ψ') (Rs' ++ K) (hs.length + j) b → False := fun j i hi h1 h2 => by
        rcases hl _ _ h2 with h3 | ⟨h, hmm, h3⟩
        · have := hlow _ _ h1; omega
        · have := hA.ok.inj _ _ _ h1 h3
          exact hi (this ▸ hmm)
      rcases hlive i b h1 with ⟨p1, p2, y, p3, p4⟩ | ⟨p1, p2⟩ | ⟨j, p1, p2⟩ <;> rcases hlive i' b h2 with ⟨r1, r2', y', r3, r4⟩ | ⟨r1, r2'⟩ | ⟨j', r1, r2'⟩
      · exact hA.ok.inj _ _ _ p2 r2'
      · exact hA.ok.inj _ _ _ p2 r2'
      · have := k1.inj _ _ _ p4 r2'; omega
      · exact hA.ok.inj _ _ _ p2 r2'
      · exact hA.ok.inj _ _ _ p2 r2'
      · exact (hnew j' i p1 p2 r2').elim
      · have := k1.inj _ _ _ r4 p2; omega
      · exact (hnew j i' r1 r2' p2).elim
      · have := k1.inj _ _ _ p2 r2'; omega
    · have xY : zw φ S.H i b → ¬ (A b ∨ A' b) := fun h1 hb => by
        rcases hb with hb | hb
        · exact hA.ok.apart _ _ h1 hb
        · rcases hA' b hb with hb | hb
          · exact hA.ok.apart _ _ h1 hb
          · have := hlow _ _ h1; omega
      rcases hlive i b h1 with ⟨p1, p2, _⟩ | ⟨p1, p2⟩ | ⟨j, p1, p2⟩
      · exact xY p2
      · exact xY p2
      · rintro (hb | hb)
        · rcases hl _ _ p2 with h3 | ⟨h, hmm, h3⟩
          · have := hA.ok.low b hb; omega
          · exact hA.ok.apart _ _ h3 hb
        · exact k1.apart _ _ p2 hb
    · rcases hsplit i d r h1 h2 with ⟨y, R', p1, p2, p3, p4, _, p8, p9, p10, p11, p12⟩ | ⟨hne, p1, p2⟩ | ⟨j, R', p0, p1, p2, p3, p4, p5, p6⟩
      · omega
      · exact Or.inl (hA.ok.frz i d r b p1 p2 h3 h4)
      · exact Or.inr (k1.frz (hs.length + j) d R' b p1 p2 (by omega) h4)
    · rcases hb with hb | hb
      · exact Nat.lt_of_lt_of_le (hA.ok.low b hb) k5.size
      · exact k1.low b hb
    · rcases hb with hb | hb
      · exact hA.old b hb
      · rcases hA' b hb with hb | hb
        · exact hA.old b hb
        · exact Or.inr (Nat.le_trans hA.frame.size hb)
    · rcases hlive i b h1 with ⟨p1, p2, _⟩ | ⟨p1, p2⟩ | ⟨j, p1, p2⟩
      · exact hA.own _ _ p2
      · exact hA.own _ _ p2
      · rcases hl _ _ p2 with h3 | ⟨h, hmm, h3⟩
        · exact Or.inl (Nat.le_trans hA.frame.size h3)
        · exact hA.own _ _ h3
    · obtain ⟨f1, f2, f3, f4, f5⟩ := hA.frame
      refine ⟨k5.os.trans f1, k5.tape.trans f2, k5.output.trans f3, Nat.le_trans f4 k5.size, fun i hi hnn => ?_⟩
      rw [← f5 i hi hnn]
      refine hoth i (Nat.lt_of_lt_of_le hi f4) fun h hmm hl => ?_
      rcases hA.own h i hl with h1 | ⟨h9, h1⟩
      · omega
      · exact hnn h9 h1
  have hr' : zv (fun b => A b ∨ A' b) w' (φ ++ ψ') S.tmps (fun i => a.tmps[i]?) := zv.mono (fun b hb => ⟨Or.inl hb, k5.block b (hA.ok.low b hb) (hno b fun h hm hl => hA.ok.apart h b hl hb)⟩) (fun h hd hh => zZ hh) hrr
  have hx : Rel (fun b => A b ∨ A' b) w' (φ ++ ψ') r2 x := Bk.rel hbk hr (Rel.mono (fun b hb => ⟨Or.inr hb, rfl⟩) (fun _ _ h => h) k2)
  obtain ⟨h7, h8⟩ := wP (H := H2 ++ K2) hsz hr' hx o.dst
  refine hn x w' (φ ++ ψ') ⟨by cases o.dst <;> exact hm2, ⟨_, ?_, h7⟩, h8, by cases o.dst <;> exact hd0⟩
  rw [xv]
  exact hJ
theorem kO {f : FuncId} {args : List Operand} {ats : Array TypeId} {cargs : List V} {r r2 : V} {Rs Rs' R2 K K2 H' : List Reg} {al : Bool} (hs : List Nat) (hnd : hs.Nodup) [he : Ent P f] (ho : o.op = .call { callee := .value (.func f), args := args.toArray, argTypes := ats })
    (hm : zx P f cargs Rs r (Rs' ++ K) al) (hg : GiveN H hs H.length hs Rs Rs' R2) (hargs : PassS hs (args.map ρ) cargs) (hK : BkR hs H.length K K2) (hr : Bk hs H.length r r2) (hH : yj H hs R2 ++ K2 = H') : z4 P o ρ H r2 H' := by
  subst hH
  exact na hs hnd ho hm hg hargs hK hr
end
end Go.Proofs.Ytojcojanokhnaaa.Ab
namespace Go.Proofs.Ytojcojanokhnaaa.Ab
open Go.RowKit
section
variable {P : Program} {o : Oper} {ρ : Operand → V} {H : List Reg} {l : List V}
theorem kr {t : TypeId} {fs : Array Field} (hu : P.underlying t = some (.struct fs)) (hh : P.stoodInHeld t = false) (hg : P.eqGuardType P.depth t = false)
    (h : fs.toList.zipIdx.all (fun p => !(p.1.name == "_") && Nat.beq p.1.offset p.2 && (match P.underlying p.1.type with | some (.int .i64) => true | _ => false)) = true) : IntFs P t fs := ⟨hu, hh, hg, fun i f hf => by
  rw [List.all_eq_true] at h
  have := h (f, i) (List.mem_of_getElem? (i := i) (by rw [List.getElem?_zipIdx, hf]; simp))
  simp only [Bool.and_eq_true, Bool.not_eq_true', Nat.beq_eq] at this
  refine ⟨this.1.1, this.1.2, ?_⟩
  have h2 := this.2
  split at h2
  · assumption
  · cases h2⟩
theorem vZ {t t' : TypeId} {x y : Operand} {b : Bool} (ho : o.op = .binOp .neq t x y t') (hx : ρ x = B b) (hy : ρ y = B b) (ht : P.underlying t = some .bool) : z4 P o ρ H (B false) H := by
  have := s0 (P := P) (H := H) ho hx hy ht
  simpa using this
theorem uM {t t' : TypeId} {x y : Operand} {k : IntKind} {a : Int} (ho : o.op = .binOp .neq t x y t') (hx : ρ x = .k (.int k a)) (hy : ρ y = .k (.int k a)) : z4 P o ρ H (B false) H := by
  have := pK (P := P) (H := H) ho hx hy
  simpa using this
end
section
variable {P : Program} {T : Tab} {ops : Array Oper} {ds d : List Nat} {n : Nat} {Q : Exit → St → Prop} {o : Oper} {l l' : List V} {H K : List Reg} {m : Nat}
end
section
variable {P : Program} {o : Oper} {ρ : Operand → V} {K : List Reg}
theorem kw {α : Type} (T : Ty α) {xs : List α} {i off : Nat} {z : α} {v : V} (hz : xs[i]? = some z) (hv : (T.enc z)[off]? = some v) : (T.flat xs)[i * T.n + off]? = some v := by
  rw [← List.getElem?_drop, t9 T hz]
  exact zZ hv
theorem po {α : Type} {T : Ty α} {t e h i off : Nat} {x : Operand} {xs : List α} {z : α} {v : V} [ht : Sc P t] (ho : o.op = .load t x) (hx : ρ x = .ptr h (i * T.n + off)) (hH : K[h]? = some (yo T e xs)) (hz : xs[i]? = some z) (hv : (T.enc z)[off]? = some v) : z4 P o ρ K v K :=
  x4 ho hx hH (Nat.zero_le _) (kw T hz hv)
theorem yx {α : Type} {T : Ty α} {t e h i : Nat} {x : Operand} {xs : List α} {z : α} [ht : Ag P t T.n] (ho : o.op = .load t x) (hx : ρ x = .ptr h (i * T.n)) (hH : K[h]? = some (yo T e xs)) (hz : xs[i]? = some z) : z4 P o ρ K (.agg (T.enc z)) K := by
  have hlt := (List.getElem?_eq_some_iff.1 hz).1
  have := wN (P := P) (o := o) (ρ := ρ) (H := K) (n := T.n) ho hx hH (Nat.zero_le _) (by
    show i * T.n + T.n ≤ (T.flat xs).length
    rw [yH, ← Nat.succ_mul]
    exact Nat.mul_le_mul_right _ hlt)
  have e : ((yo T e xs).cells.drop (i * T.n)).take T.n = T.enc z := by
    show ((T.flat xs).drop (i * T.n)).take T.n = _
    rw [t9 T hz, ← T.len z, List.take_left']
    rfl
  rw [e] at this
  exact this
end
theorem GiveN.flat {H : List Reg} {hs0 : List Nat} {n h : Nat} {R R' : Reg} {hs : List Nat} {Rs Rs' R2 : List Reg} (hH : H[h]? = some R) (hm : R.mode = 0) (hm' : R'.mode = 0) (hN : NoH R.cells) (hN' : NoH R'.cells) (ht : GiveN H hs0 n hs Rs Rs' R2) : GiveN H hs0 n (h :: hs) (R :: Rs) (R' :: Rs') (R' :: R2) :=
  .cons (R0 := R) (R' := R') (cs := R.cells) (cs2 := R'.cells) hH hm (tV hN) (by omega) (.rest hN') ht
end Go.Proofs.Ytojcojanokhnaaa.Ab
namespace Go.Proofs.Ytojcojanokhnaaa.Ab
open Go.RowKit
theorem yM : ∀ {cs : List V}, NoH cs → noHs cs = true
  | [], _ => rfl
  | c :: cs, h => by simp only [noHs, h c (List.mem_cons_self ..), yM fun d hd => h d (List.mem_cons_of_mem _ hd), Bool.and_self]
def shR (k : Nat) (r : Reg) : Reg := { r with cells := wW k r.cells }
section
variable {A A' : Nat → Prop} {w w' : World} {φ φ' : List Hd} {H : List Reg}
theorem InvA.joinN {C : Cx} (hA : InvA C A φ H w) {K : List Reg} (hK : HeapOk A' w' φ' K) (hA' : ∀ b, A' b → A b ∨ w.heap.size ≤ b) (hl : ∀ h b, zw φ' K h b → w.heap.size ≤ b) (hoth : ∀ b, b < w.heap.size → w'.heap[b]? = w.heap[b]?)
    (hsz : w.heap.size ≤ w'.heap.size) (hos : w'.os = w.os) (htape : w'.tape = w.tape) (hout : w'.output = w.output) :
    InvA C (fun b => A b ∨ A' b) (φ ++ φ') (H ++ K.map (shR H.length)) w' := by
  have hlen := hA.ok.len
  have hφ : ∀ (h : Nat) (hd : Hd), φ[h]? = some hd → (φ ++ φ')[h]? = some hd := fun h hd hh => zZ hh
  have hAm : ∀ b, A b → (A b ∨ A' b) ∧ w'.heap[b]? = w.heap[b]? := fun b hb => ⟨Or.inl hb, hoth b (hA.ok.low b hb)⟩
  have hsplit : ∀ (h : Nat) (hd : Hd) (r : Reg), (φ ++ φ')[h]? = some hd → (H ++ K.map (shR H.length))[h]? = some r → (φ[h]? = some hd ∧ H[h]? = some r) ∨ (∃ j r0, h = φ.length + j ∧ φ'[j]? = some hd ∧ K[j]? = some r0 ∧ r = shR H.length r0) := fun h hd r h1 h2 => by
    rcases Nat.lt_or_ge h φ.length with hh | hh
    · rw [List.getElem?_append_left hh] at h1
      rw [List.getElem?_append_left (by omega)] at h2
      exact Or.inl ⟨h1, h2⟩
    · rw [List.getElem?_append_right hh] at h1
      rw [List.getElem?_append_right (by omega), ← hlen] at h2
      rw [List.getElem?_map] at h2
      cases hq : K[h - φ.length]? with
      | none => rw [hq] at h2; cases h2
      | some r0 =>
        rw [hq] at h2
        simp only [Option.map_some, Option.some.injEq] at h2
        exact Or.inr ⟨h - φ.length, r0, by omega, h1, hq, by rw [← hlen]; exact h2.symm⟩
  have hlive : ∀ h b, zw (φ ++ φ') (H ++ K.map (shR H.length)) h b → zw φ H h b ∨ ∃ j, h = φ.length + j ∧ zw φ' K j b := by
    rintro h b ⟨hd, r, h1, h2, h3, h4⟩
    rcases hsplit h hd r h1 h2 with ⟨p1, p2⟩ | ⟨j, r0, p0, p1, p2, rfl⟩
    · exact Or.inl ⟨hd, r, p1, p2, h3, h4⟩
    · exact Or.inr ⟨j, p0, hd, r0, p1, p2, h3, h4⟩
  have hlow : ∀ h b, zw φ H h b → b < w.heap.size := fun h b ⟨hd, r, h1, h2, h3, h4⟩ => xz hA.ok h1 h2 (by omega) h4
  refine ⟨⟨by simp [hlen, hK.len], fun h hd r h1 h2 h3 => ?_, fun h h' b h1 h2 => ?_, fun h b h1 => ?_, fun h hd r b h1 h2 h3 h4 => ?_, fun b hb => ?_⟩, fun b hb => ?_, fun h b h1 => ?_, ?_, fun h hd hh => hφ h hd (hA.pre h hd hh)⟩
  · rcases hsplit h hd r h1 h2 with ⟨p1, p2⟩ | ⟨j, r0, p0, p1, p2, rfl⟩
    · obtain ⟨e1, e2⟩ := hA.ok.regs h hd r p1 p2 h3
      refine ⟨e1, ?_⟩
      cases hk : hd.blk with
      | none => rw [hk] at e2; exact e2
      | some b =>
        rw [hk] at e2
        obtain ⟨c, k1, k2, k3, k4⟩ := e2
        exact ⟨c, (hoth b (xz hA.ok p1 p2 h3 hk)).trans k1, k2, k3, zv.mono hAm hφ k4⟩
    · obtain ⟨e1, e2⟩ := hK.regs j hd r0 p1 p2 h3
      refine ⟨e1, ?_⟩
      cases hk : hd.blk with
      | none => rw [hk] at e2; refine ⟨?_, e2.2⟩; show wW H.length r0.cells = []; rw [e2.1]; rfl
      | some b =>
        rw [hk] at e2
        obtain ⟨c, k1, k2, k3, k4⟩ := e2
        exact ⟨c, k1, k2, by show (wW H.length r0.cells).length ≤ _; rw [wn]; exact k3, zv.mono (fun b hb => ⟨Or.inr hb, rfl⟩) (fun _ _ h => h) (by rw [← hlen]; exact v3 k4)⟩
  · rcases hlive h b h1 with q1 | ⟨j, p1, q1⟩
    · rcases hlive h' b h2 with q2 | ⟨j', p2, q2⟩
      · exact hA.ok.inj _ _ _ q1 q2
      · have := hlow _ _ q1
        have := hl _ _ q2
        omega
    · rcases hlive h' b h2 with q2 | ⟨j', p2, q2⟩
      · have := hlow _ _ q2
        have := hl _ _ q1
        omega
      · rw [p1, p2, hK.inj _ _ _ q1 q2]
  · rcases hlive h b h1 with q1 | ⟨j, p1, q1⟩
    · rintro (hb | hb)
      · exact hA.ok.apart _ _ q1 hb
      · rcases hA' b hb with hb | hb
        · exact hA.ok.apart _ _ q1 hb
        · have := hlow _ _ q1
          omega
    · rintro (hb | hb)
      · have := hA.ok.low b hb
        have := hl _ _ q1
        omega
      · exact hK.apart _ _ q1 hb
  · rcases hsplit h hd r h1 h2 with ⟨p1, p2⟩ | ⟨j, r0, p0, p1, p2, rfl⟩
    · exact Or.inl (hA.ok.frz h hd r b p1 p2 h3 h4)
    · exact Or.inr (hK.frz j hd r0 b p1 p2 h3 h4)
  · rcases hb with hb | hb
    · exact Nat.lt_of_lt_of_le (hA.ok.low b hb) hsz
    · exact hK.low b hb
  · rcases hb with hb | hb
    · exact hA.old b hb
    · rcases hA' b hb with hb | hb
      · exact hA.old b hb
      · exact Or.inr (Nat.le_trans hA.frame.size hb)
  · rcases hlive h b h1 with q1 | ⟨j, p1, q1⟩
    · exact hA.own _ _ q1
    · exact Or.inl (Nat.le_trans hA.frame.size (hl _ _ q1))
  · obtain ⟨f1, f2, f3, f4, f5⟩ := hA.frame
    exact ⟨hos.trans f1, htape.trans f2, hout.trans f3, Nat.le_trans f4 hsz, fun i hi hno => (hoth i (Nat.lt_of_lt_of_le hi f4)).trans (f5 i hi hno)⟩
end
section
variable {P : Program} {o : Oper} {ρ : Operand → V} {H : List Reg}
theorem sN {f : FuncId} {vs cargs : List V} {r : V} {K : List Reg} {al : Bool}
    (hrun : ∀ (A : Nat → Prop) (φ : List Hd) (a : Act) (w : World), HeapOk A w φ H → (∀ x ∈ o.op.operands, Rel A w φ (ρ x) (a.eval x)) → ∃ xs : Array Value, (execOp a.eval o).run P w = .ok (.enter f xs) w ∧ xs.size = vs.length ∧ zv A w φ vs (fun i => xs[i]?))
    (hm : zx P f cargs [] r K al) (hargs : Purs (!al) H vs cargs) : z4 P o ρ H (shV H.length r) (H ++ K.map (shR H.length)) := by
  intro S hS hρ C φ a w hI next Q hn
  obtain ⟨hm0, ⟨A, hA, hr⟩, hs, hd⟩ := hI
  subst hS
  obtain ⟨xs, hexec, hxl, hargr⟩ := hrun A φ a w hA.ok (fun x hx => by rw [← hρ x hx]; exact wS hr x)
  let A1 : Nat → Prop := fun b => A b ∨ (al = false ∧ b < w.heap.size)
  have hok1 : HeapOk A1 w [] [] := ⟨rfl, fun h hd r h1 => by simp at h1, fun h h' b ⟨hd, r, h1, _⟩ => by simp at h1, fun h b ⟨hd, r, h1, _⟩ => by simp at h1, fun h hd r b h1 => by simp at h1, fun b hb => by
    rcases hb with hb | hb
    · exact hA.ok.low b hb
    · exact hb.2⟩
  have hargs1 : zv A1 w [] cargs (fun i => xs[i]?) := Purs.rels hA.ok (fun b hb => Or.inl hb) (fun hl h b hb => Or.inr ⟨by cases al <;> simp_all, by obtain ⟨hd, r, q1, q2, q3, q4⟩ := hb; exact xz hA.ok q1 q2 (by omega) q4⟩) hargs hargr
  have hcall := hm A1 [] w xs hok1 hargs1 (hxl.trans (Purs.length hargs))
  unfold Oper.wp
  rw [hexec, Oper.upon_enter]
  refine hcall.mono ?_
  rintro e w' ⟨x, φ', A', rfl, k1, k2, k3, k4, k5, k6⟩
  have hfr : ∀ b, b < w.heap.size → w'.heap[b]? = w.heap[b]? := fun b hb => k5.block b hb (fun h ⟨hd, r, h1, _⟩ => by simp at h1)
  have hJ : InvA C (fun b => A b ∨ A' b) (φ ++ φ') (S.H ++ K.map (shR S.H.length)) w' := hA.joinN k1 (fun b hb => by
      rcases k3 b hb with ⟨ha, hb | hb⟩ | hb
      · exact Or.inl hb
      · rw [ha] at hb; cases hb.1
      · exact Or.inr hb)
    (fun h b hl => by
      rcases k4 h b hl with h1 | ⟨h0, hd, r, h1, _⟩
      · exact h1
      · simp at h1) hfr k5.size k5.os k5.tape k5.output
  have hr' : zv (fun b => A b ∨ A' b) w' (φ ++ φ') S.tmps (fun i => a.tmps[i]?) := zv.mono (fun b hb => ⟨Or.inl hb, hfr b (hA.ok.low b hb)⟩) (fun h hd hh => zZ hh) hr
  have hx : Rel (fun b => A b ∨ A' b) w' (φ ++ φ') (shV S.H.length r) x := by
    rw [← hA.ok.len]
    exact t0 (Rel.mono (fun b hb => ⟨Or.inr hb, rfl⟩) (fun _ _ h => h) k2)
  obtain ⟨h7, h8⟩ := wP (H := S.H ++ K.map (shR S.H.length)) hs hr' hx o.dst
  refine hn x w' (φ ++ φ') ⟨by cases o.dst <;> exact hm0, ⟨_, ?_, h7⟩, h8, by cases o.dst <;> exact hd⟩
  rw [xv]
  exact hJ
theorem xf {f : FuncId} {args : List Operand} {ats : Array TypeId} {cargs : List V} {r : V} {Rs Rs' : List Reg} {K H' : List Reg} (hs : List Nat) (hnd : hs.Nodup) [he : Ent P f] (ho : o.op = .call { callee := .value (.func f), args := args.toArray, argTypes := ats })
    (hm : zx P f cargs Rs r (Rs' ++ K) true) (hg : Give H hs Rs Rs') (hargs : PassS hs (args.map ρ) cargs) (hN : ∀ r ∈ K, NoH r.cells) (hr : noH r = true) (hH : yj H hs Rs' ++ K = H') : z4 P o ρ H r H' := by
  subst hH
  exact z2 hs hnd ho hm hg hargs hN hr
theorem z0 {K H' : List Reg} {f : FuncId} {args : List Operand} {ats : Array TypeId} {cargs : List V} {r r' : V} {al : Bool} [he : Ent P f] (ho : o.op = .call { callee := .value (.func f), args := args.toArray, argTypes := ats })
    (hm : zx P f cargs [] r K al) (hargs : Purs (!al) H (args.map ρ) cargs) (hr : shV H.length r = r') (hH : H ++ K.map (shR H.length) = H') : z4 P o ρ H r' H' := by
  subst hr
  subst hH
  exact sN (fun A φ a w hok hh => ⟨_, vD ho, by simp, ws fun x hx => hh x (by rw [ho]; simp only [Op.operands, Call.operands]; simp [hx])⟩) hm hargs
end
section
variable {α : Type} {T : Ty α} {e : TypeId}
def nC (b : Nat) : List (List α) → List V
  | [] => []
  | x :: xs => .sl b 0 x.length :: nC (b + 1) xs
def nR (T : Ty α) (e : TypeId) (rs : List (List α)) : List Reg := rs.map (yo T e)
theorem xN : ∀ (b : Nat) (rs : List (List α)), (nC b rs).length = rs.length
  | _, [] => rfl
  | b, x :: xs => by simp [nC, xN (b + 1) xs]
theorem km : ∀ (b : Nat) (rs : List (List α)) (j : Nat), (nC b rs)[j]? = (rs[j]?).map fun x => .sl (b + j) 0 x.length
  | _, [], j => by simp [nC]
  | b, x :: xs, 0 => by simp [nC]
  | b, x :: xs, j + 1 => by
    simp only [nC, List.getElem?_cons_succ]
    rw [km (b + 1) xs j]
    congr 2
    funext y
    congr 1
    omega
theorem nC_at {b : Nat} {rs : List (List α)} {j : Nat} {x : List α} (h : rs[j]? = some x) : (nC b rs)[j]? = some (.sl (b + j) 0 x.length) := by rw [km, h]; rfl
theorem tY : ∀ (b : Nat) (rs ss : List (List α)), nC b (rs ++ ss) = nC b rs ++ nC (b + rs.length) ss
  | _, [], ss => by simp [nC]
  | b, x :: xs, ss => by
    simp only [List.cons_append, nC, List.length_cons]
    rw [tY (b + 1) xs ss]
    congr 3
    omega
theorem tz (n : Nat) : ∀ (b : Nat) (rs : List (List α)), wW n (nC b rs) = nC (b + n) rs
  | _, [] => rfl
  | b, x :: xs => by
    simp only [nC, wW, shV]
    rw [tz n (b + 1) xs]
    congr 2
    omega
theorem zh (rs : List (List α)) : (nR T e rs).length = rs.length := by simp [nR]
theorem yV {rs : List (List α)} {j : Nat} {x : List α} (h : rs[j]? = some x) : (nR T e rs)[j]? = some (yo T e x) := by simp [nR, h]
theorem qB (rs ss : List (List α)) : nR T e (rs ++ ss) = nR T e rs ++ nR T e ss := by simp [nR]
theorem kh (n : Nat) (rs : List (List α)) : (nR T e rs).map (shR n) = nR T e rs := by
  rw [nR, List.map_map]
  refine List.map_congr_left fun x hx => ?_
  simp only [Function.comp, shR, yA n (yM (zE T x))]
def lsT (T : Ty α) : Ty (List α) := ⟨1, fun xs => [vF T xs], fun _ => rfl, by decide, fun r c hc => by
  simp only [List.mem_cons, List.not_mem_nil, or_false] at hc
  subst hc
  exact ⟨rfl, rfl⟩⟩
theorem zy {H : List Reg} {h : Nat} {x : List α} (hH : H[h]? = some (yo T e x)) : Pur true H (.sl h 0 x.length) (vF T x) := pY hH rfl rfl rfl
theorem ni {H : List Reg} : ∀ {b : Nat} {rs : List (List α)}, (∀ j x, rs[j]? = some x → H[b + j]? = some (yo T e x)) → Purs true H (nC b rs) ((lsT T).flat rs)
  | _, [], _ => .nil
  | b, x :: xs, h => by
    rw [wa]
    exact .cons (zy (h 0 x rfl)) (ni fun j y hj => by have := h (j + 1) y (by simpa using hj); rw [show b + 1 + j = b + (j + 1) by omega]; exact this)
theorem ka {H : List Reg} {h b ty : Nat} {rs : List (List α)} (hH : H[h]? = some ⟨ty, 1, nC b rs, 0⟩) (hR : ∀ j x, rs[j]? = some x → H[b + j]? = some (yo T e x)) : Pur true H (.sl h 0 rs.length) (vF (lsT T) rs) :=
  .slN hH (Or.inr ⟨rfl, rfl⟩) (Nat.succ_pos 0) (by simp [xN]) (by
    have := ni (H := H) hR
    simpa [xN, List.take_of_length_le] using this)
theorem xM {ψ : List Nat} : ∀ {b b' : Nat} {rs : List (List α)}, (∀ j, j < rs.length → ψ[b + j]? = some (b' + j)) → Les ψ (nC b rs) (nC b' rs)
  | _, _, [], _ => zk
  | b, b', x :: xs, h => zc (zm (h 0 (by simp)) rfl) (xM fun j hj => by
      have := h (j + 1) (by simp; omega)
      rw [show b + 1 + j = b + (j + 1) by omega, show b' + 1 + j = b' + (j + 1) by omega]
      exact this)
theorem xL (hs : List Nat) (b n j : Nat) (h : j < n) : (hs ++ List.range' b n)[hs.length + j]? = some (b + j) := by
  rw [List.getElem?_append_right (Nat.le_add_right _ _), Nat.add_sub_cancel_left]
  simp [h]
theorem yb {hs : List Nat} {b n : Nat} (h1 : hs.Nodup) (h2 : ∀ h ∈ hs, h < b ∨ b + n ≤ h) : (hs ++ List.range' b n).Nodup := by
  rw [List.nodup_append]
  refine ⟨h1, List.nodup_range', fun x hx y hy => ?_⟩
  rw [List.mem_range'_1] at hy
  have := h2 x hx
  omega
theorem x5 {H : List Reg} {hs : List Nat} {K1 : List Reg} {rs : List (List α)} {b : Nat} (hn : (hs ++ List.range' b rs.length).Nodup) (h1 : HLes (hs ++ List.range' b rs.length) H hs K1) (h2 : ∀ j x, rs[j]? = some x → H[b + j]? = some (yo T e x)) :
    HLe (hs ++ List.range' b rs.length) (K1 ++ nR T e rs) H := by
  obtain ⟨e1, e2⟩ := h1.get
  refine ⟨by simp [e1, nR], hn, fun i h hi => ?_⟩
  rcases Nat.lt_or_ge i hs.length with hlt | hge
  · rw [List.getElem?_append_left hlt] at hi
    obtain ⟨r, r', q1, q2, q3⟩ := e2 i h hi
    exact ⟨r, r', zZ q1, q2, q3⟩
  · rw [List.getElem?_append_right hge] at hi
    have hlt : i - hs.length < rs.length := by
      have := (List.getElem?_eq_some_iff.1 hi).1
      simpa using this
    have hx := List.getElem?_eq_getElem hlt
    have hh : h = b + (i - hs.length) := by
      obtain ⟨_, q⟩ := List.getElem?_eq_some_iff.1 hi
      simp at q
      omega
    subst hh
    refine ⟨_, _, ?_, h2 _ _ hx, fun _ => ⟨rfl, rfl, rfl, zU (zE T _)⟩⟩
    rw [List.getElem?_append_right (by omega), ← e1]
    exact yV hx
end
def vf (cs : List V) : Prop := ∀ c ∈ cs, (match c with | .k _ | .sl _ _ _ | .ptr _ _ | .any => true | _ => false) = true
theorem qQ.flatS {cs : List V} (h : qQ cs) : vf cs := fun c hc => by obtain ⟨v, rfl⟩ := h c hc; rfl
theorem u7 {α : Type} : ∀ (b : Nat) (rs : List (List α)), vf (nC b rs)
  | _, [] => fun c hc => by cases hc
  | b, x :: xs => fun c hc => by
    rcases List.mem_cons.1 hc with rfl | hc
    · rfl
    · exact u7 (b + 1) xs c hc
theorem u6 {al : Bool} {r v : V} {K : List Reg} {S : St} (ψ : List Nat) (hfix : ∀ i, i < S.m → ψ[i]? = some i) (hH : HLe ψ K S.H) (hr : Le ψ r v)
    (hal : al = true ∨ (tE r = true ∧ ∀ q ∈ K, q.mode ≠ 1 ∧ (q.mode = 0 → vf q.cells))) : Out al r K v S := by
  intro C A φ w x hm hA hv
  obtain ⟨φ', h1, h2, h3, h4⟩ := hH.ok hA.ok
  have hown : ∀ h b, zw φ' K h b → C.w0.heap.size ≤ b ∨ ∃ h0, zw C.φ0 C.H0 h0 b := fun h b hl => by
    obtain ⟨h', hl'⟩ := h4 h b hl
    exact hA.own h' b hl'
  have hpre : ∀ (h : Nat) (hd : Hd), C.φ0[h]? = some hd → φ'[h]? = some hd := fun i hd hi =>
    h2 i i (hfix i (by rw [← hm]; exact (List.getElem?_eq_some_iff.1 hi).1)) hd (hA.pre i hd hi)
  rcases hal with hal | ⟨hf, hK⟩
  · exact ⟨φ', A, h3, Le.rel h2 hr hv, fun b hb => (hA.old b hb).imp (fun h => ⟨hal, h⟩) id, hown, hpre⟩
  · refine ⟨φ', fun _ => False, ⟨h3.len, fun h hd q q1 q2 q3 => ?_, h3.inj, fun _ _ _ h => h, fun h hd q b q1 q2 q3 q4 => absurd q3 (hK q (List.mem_of_getElem? q2)).1, fun _ h => h.elim⟩, pw hf (Le.rel h2 hr hv), fun _ h => h.elim, hown, hpre⟩
    obtain ⟨e1, e2⟩ := h3.regs h hd q q1 q2 q3
    have hq := hK q (List.mem_of_getElem? q2)
    refine ⟨e1, ?_⟩
    cases hb : hd.blk with
    | none => rw [hb] at e2; exact e2
    | some b =>
      rw [hb] at e2
      obtain ⟨c, k1, k2, k3, k4⟩ := e2
      have hs := hq.2 (by have := hq.1; omega)
      exact ⟨c, k1, k2, k3, uP (fun c hc x hx => wu hx (by have := hs c hc; cases c <;> first | rfl | exact this)) k4⟩
section
variable {l : List V} {H : List Reg}
theorem lm {al : Bool} {t : Tmp} {v r : V} {K : List Reg} (ψ : List Nat) (hv : evO l (.tmp t) = some v) (hH : HLe ψ K H) (hr : Le ψ r v) (hal : al = true ∨ (tE r = true ∧ ∀ q ∈ K, q.mode ≠ 1 ∧ (q.mode = 0 → vf q.cells))) :
    (Exit.ret = .ret ∨ Exit.ret = .normal) ∧ Out al r K (vg ⟨l, H, 0⟩ [t]) ⟨l, H, 0⟩ := by
  have : vg ⟨l, H, 0⟩ [t] = v := vr (H := H) (m := 0) (x := .tmp t) hv
  rw [this]
  exact ⟨Or.inl rfl, u6 ψ (fun i hi => absurd hi (Nat.not_lt_zero _)) hH hr hal⟩
theorem eH {al : Bool} {t : Tmp} {v r : V} {K : List Reg} (k : Nat) (ψ : List Nat) (hfix : ∀ i, i < k → ψ[i]? = some i) (hv : evO l (.tmp t) = some v) (hH : HLe ψ K H) (hr : Le ψ r v) (hal : al = true ∨ (tE r = true ∧ ∀ q ∈ K, q.mode ≠ 1 ∧ (q.mode = 0 → vf q.cells))) :
    (Exit.ret = .ret ∨ Exit.ret = .normal) ∧ Out al r K (vg ⟨l, H, k⟩ [t]) ⟨l, H, k⟩ := by
  have : vg ⟨l, H, k⟩ [t] = v := vr (H := H) (m := k) (x := .tmp t) hv
  rw [this]
  exact ⟨Or.inl rfl, u6 ψ hfix hH hr hal⟩
theorem fixR (n : Nat) : ∀ i, i < n + 1 → ([0] ++ List.range' 1 n)[i]? = some i := fun i hi => by
  cases i with
  | zero => rfl
  | succ i =>
    have := xL [0] 1 n i (by omega)
    rw [List.length_singleton, Nat.add_comm 1 i] at this
    exact this
inductive EqS : List V → List V → Prop where
  | nil : EqS [] []
  | any {d : V} {cs ds : List V} (h : EqS cs ds) : EqS (.any :: cs) (d :: ds)
  | same {c d : V} {cs ds : List V} (hc : d = c) (h : EqS cs ds) : EqS (c :: cs) (d :: ds)
theorem EqS.length : ∀ {cs ds : List V}, EqS cs ds → ds.length = cs.length
  | _, _, .nil => rfl
  | _, _, .any h => by simp [EqS.length h]
  | _, _, .same _ h => by simp [EqS.length h]
theorem EqS.rels {A : Nat → Prop} {w : World} {φ : List Hd} : ∀ {cs ds : List V} {g : Nat → Option Value}, EqS cs ds → zv A w φ ds g → zv A w φ cs g
  | _, _, g, .nil, h => h
  | _, _, g, .any hs, h => by
    rw [zv] at h ⊢
    obtain ⟨⟨y, h1, h2⟩, h3⟩ := h
    exact ⟨⟨y, h1, by simp [Rel]⟩, EqS.rels hs h3⟩
  | _, _, g, .same hc hs, h => by
    subst hc
    rw [zv] at h ⊢
    obtain ⟨h1, h3⟩ := h
    exact ⟨h1, EqS.rels hs h3⟩
theorem yg {l' : List V} {H H' : List Reg} {m : Nat} (hH : H' = H) (ht : EqS l' l) : Sub ⟨l', H', m⟩ ⟨l, H, m⟩ := fun C φ a w hI => by
  subst hH
  obtain ⟨hm0, ⟨A, hA, hr⟩, hs, hd⟩ := hI
  exact ⟨φ, hm0, ⟨A, hA, EqS.rels ht hr⟩, hs.trans (EqS.length ht), hd⟩
end
theorem v8 {i n : Nat} (h : i < n) (hn : n ≤ 1000000000000) : I (IntKind.i64.wrap ((i : Int) + 1)) = I ((i + 1 : Nat) : Int) := congrArg I (sy h hn)
section
variable {P : Program} {o : Oper} {ρ : Operand → V} {H : List Reg}
theorem mkN {t e b : Nat} {x y : Operand} {k k' : IntKind} {m : Nat} (z : Value) [ht : Sl P t e 1 b] [hz : Ze P e [z]] (ho : o.op = .makeSlice t x y) (hx : ρ x = .k (.int k m)) (hy : ρ y = .k (.int k' m)) (hm : m ≤ 1000000000) (hb : Nat.ble b 100000 = true) :
    z4 P o ρ H (.sl H.length 0 m) (H ++ [⟨e, 1, List.replicate m (.k z), 0⟩]) := by
  have hb' := Nat.le_of_ble_eq_true hb
  have h := s3 (P := P) (H := H) ho hx hy (b := b) (t := t) (n := 1) (zs := [z]) (Nat.le_trans (Nat.mul_le_mul hm hb') (by decide)) (by omega) rfl
  have e1 : (List.replicate m ([z].map V.k)).flatten = List.replicate m (.k z) := by
    induction m with
    | zero => rfl
    | succ m ih => simp [List.replicate_succ]
  rw [e1] at h
  exact h
theorem eJ {pre : List V} {n i : Nat} {z v : V} (hl : pre.length = i) (hi : i < n) : yT (pre ++ List.replicate (n - i) z) i [v] = pre ++ [v] ++ List.replicate (n - (i + 1)) z := by
  subst hl
  unfold yT
  rw [List.take_append_of_le_length (Nat.le_refl _), List.take_length]
  congr 1
  refine List.ext_getElem? fun j => ?_
  rw [List.getElem?_drop, List.getElem?_append_right (by simp; omega), List.getElem?_replicate, List.getElem?_replicate]
  simp only [List.length_cons, List.length_nil]
  split <;> split <;> first | rfl | omega
end
end Go.Proofs.Ytojcojanokhnaaa.Ab
namespace Go.Proofs.Ytojcojanokhnaaa.Ab
open Go.RowKit
theorem vC {K0 K K' D : List Reg} (h : K'.length = K.length) : yj (K0 ++ K ++ D) (List.range' K0.length K.length) K' = K0 ++ K' ++ D := by
  refine List.ext_getElem? fun i => ?_
  by_cases hi : i ∈ List.range' K0.length K.length
  · obtain ⟨j, hj⟩ := List.getElem?_of_mem hi
    rw [uI _ _ _ List.nodup_range' (by simp [h]) (fun x hx => by rw [List.mem_range'_1] at hx; simp; omega) j i hj]
    have e : j < K.length ∧ i = K0.length + j := by
      obtain ⟨q1, q2⟩ := List.getElem?_eq_some_iff.1 hj
      simp at q1 q2
      omega
    rw [e.2, List.append_assoc, List.getElem?_append_right (by omega), Nat.add_sub_cancel_left, List.getElem?_append_left (by omega)]
  · rw [vM _ _ _ _ hi]
    rw [List.mem_range'_1] at hi
    rcases Nat.lt_or_ge i K0.length with h1 | h1
    · rw [List.append_assoc, List.append_assoc, List.getElem?_append_left h1, List.getElem?_append_left h1]
    · have h2 : K0.length + K.length ≤ i := by omega
      rw [List.getElem?_append_right (by simp; omega), List.getElem?_append_right (by simp; omega)]
      simp only [List.length_append, h]
section
variable {α : Type} {T : Ty α} {e : TypeId}
theorem pX (h n j : Nat) (hj : j < n) : (List.range' h n)[j]? = some (h + j) := by simp [hj]
theorem gb {h n N j : Nat} (hj : j < n) : bkI (List.range' h n) N j = h + j := by rw [bkI, pX h n j hj]; rfl
theorem qg {h n : Nat} : ∀ {b b' : Nat} {rs : List (List α)}, b' = h + b → b + rs.length ≤ n → PassS (List.range' h n) (nC b' rs) (nC b rs)
  | _, _, [], _, _ => .nil
  | b, b', x :: xs, hb, hl => by
    simp only [List.length_cons] at hl
    exact .cons (.sl (by rw [hb]; exact pX h n b (by omega))) (qg (by omega) (by omega))
theorem gc {h n N : Nat} : ∀ {b b' : Nat} {rs : List (List α)}, b' = h + b → b + rs.length ≤ n → BkS (List.range' h n) N (nC b rs) (nC b' rs)
  | _, _, [], _, _ => .nil
  | b, b', x :: xs, hb, hl => by
    simp only [List.length_cons] at hl
    exact .cons (.sl (by rw [hb]; exact gb (by omega))) (gc (by omega) (by omega))
theorem qp {H : List Reg} {hs0 : List Nat} {N : Nat} : ∀ {b : Nat} {rs ss : List (List α)}, ss.map List.length = rs.map List.length → (∀ j x, rs[j]? = some x → H[b + j]? = some (yo T e x)) → GiveN H hs0 N (List.range' b rs.length) (nR T e rs) (nR T e ss) (nR T e ss)
  | _, [], [], _, _ => .nil
  | b, x :: xs, y :: ys, hl, hR => by
    simp only [List.map_cons, List.cons.injEq] at hl
    exact .cons (R0 := yo T e x) (R' := yo T e y) (cs := T.flat x) (cs2 := T.flat y) (hR 0 x rfl) rfl (tV (zE T x)) (by simp) (.rest (zE T y)) (qp hl.2 fun j z hz => by have := hR (j + 1) z (by simpa using hz); rw [show b + 1 + j = b + (j + 1) by omega]; exact this)
  | _, [], y :: ys, hl, _ => by simp at hl
  | _, x :: xs, [], hl, _ => by simp at hl
theorem qi (n ty : Nat) (rs : List (List α)) : ((⟨ty, 1, nC 1 rs, 0⟩ :: nR T e rs : List Reg)).map (shR n) = ⟨ty, 1, nC (1 + n) rs, 0⟩ :: nR T e rs := by
  rw [List.map_cons, kh]
  simp only [shR, tz]
theorem kX {H D : List Reg} {rs : List (List α)} {b : Nat} {K0 : List Reg} (hb : b = K0.length) (hH : H = K0 ++ nR T e rs ++ D) : ∀ j x, rs[j]? = some x → H[b + j]? = some (yo T e x) := fun j x hx => by
  subst hb
  subst hH
  rw [List.append_assoc, List.getElem?_append_right (Nat.le_add_right _ _), Nat.add_sub_cancel_left]
  exact zZ (yV hx)
end
section
variable {P : Program} {o : Oper} {ρ : Operand → V} {H : List Reg}
theorem xe {f : FuncId} {args : List Operand} {ats : Array TypeId} {cargs : List V} {r r2 : V} {Rs Rs' R2 H' : List Reg} {al : Bool} (hs : List Nat) (hnd : hs.Nodup) [he : Ent P f] (ho : o.op = .call { callee := .value (.func f), args := args.toArray, argTypes := ats })
    (hm : zx P f cargs Rs r Rs' al) (hg : GiveN H hs H.length hs Rs Rs' R2) (hargs : PassS hs (args.map ρ) cargs) (hr : Bk hs H.length r r2) (hH : yj H hs R2 = H') : z4 P o ρ H r2 H' := by
  refine kO (K := []) (K2 := []) hs hnd ho (by rw [List.append_nil]; exact hm) hg hargs .nil hr (by rw [List.append_nil]; exact hH)
end
end Go.Proofs.Ytojcojanokhnaaa.Ab
namespace Go.Proofs.Ytojcojanokhnaaa.Ab
theorem sc2 : Sc Go.Proofs.Try.prog 2 := wO Go.Proofs.Try.underlying2 rfl (by kernel_rfl)
instance : Sc Go.Proofs.Try.prog 2 := sc2
theorem ze2 : Ze Go.Proofs.Try.prog 2 [.int .i64 (0)] := yu (z := .int .i64 (0)) (by kernel_rfl) rfl
instance : Ze Go.Proofs.Try.prog 2 [.int .i64 (0)] := ze2
theorem ik2 : Ik Go.Proofs.Try.prog 2 .i64 := ⟨Go.Proofs.Try.underlying2⟩
instance : Ik Go.Proofs.Try.prog 2 .i64 := ik2
theorem sc3 : Sc Go.Proofs.Try.prog 3 := wO Go.Proofs.Try.underlying3 rfl (by kernel_rfl)
instance : Sc Go.Proofs.Try.prog 3 := sc3
theorem ze3 : Ze Go.Proofs.Try.prog 3 [.int .i64 (0)] := yu (z := .int .i64 (0)) (by kernel_rfl) rfl
instance : Ze Go.Proofs.Try.prog 3 [.int .i64 (0)] := ze3
theorem ik3 : Ik Go.Proofs.Try.prog 3 .i64 := ⟨Go.Proofs.Try.underlying3⟩
instance : Ik Go.Proofs.Try.prog 3 .i64 := ik3
theorem sc4 : Sc Go.Proofs.Try.prog 4 := wO Go.Proofs.Try.underlying4 rfl (by kernel_rfl)
instance : Sc Go.Proofs.Try.prog 4 := sc4
theorem ze4 : Ze Go.Proofs.Try.prog 4 [.bool false] := yu (z := .bool false) (by kernel_rfl) rfl
instance : Ze Go.Proofs.Try.prog 4 [.bool false] := ze4
theorem bl4 : Go.Proofs.Try.prog.underlying 4 = some .bool := Go.Proofs.Try.underlying4
theorem sc5 : Sc Go.Proofs.Try.prog 5 := wO Go.Proofs.Try.underlying5 rfl (by kernel_rfl)
instance : Sc Go.Proofs.Try.prog 5 := sc5
theorem ze5 : Ze Go.Proofs.Try.prog 5 [.int .u8 (0)] := yu (z := .int .u8 (0)) (by kernel_rfl) rfl
instance : Ze Go.Proofs.Try.prog 5 [.int .u8 (0)] := ze5
theorem ik5 : Ik Go.Proofs.Try.prog 5 .u8 := ⟨Go.Proofs.Try.underlying5⟩
instance : Ik Go.Proofs.Try.prog 5 .u8 := ik5
theorem sc9 : Sc Go.Proofs.Try.prog 9 := wO Go.Proofs.Try.underlying9 rfl (by kernel_rfl)
instance : Sc Go.Proofs.Try.prog 9 := sc9
theorem ze9 : Ze Go.Proofs.Try.prog 9 [.string .empty] := yu (z := .string .empty) (by kernel_rfl) rfl
instance : Ze Go.Proofs.Try.prog 9 [.string .empty] := ze9
theorem str9 : Str Go.Proofs.Try.prog 9 := ⟨Go.Proofs.Try.underlying9⟩
instance : Str Go.Proofs.Try.prog 9 := str9
theorem sc12 : Sc Go.Proofs.Try.prog 12 := wO Go.Proofs.Try.underlying12 rfl (by kernel_rfl)
instance : Sc Go.Proofs.Try.prog 12 := sc12
theorem ze12 : Ze Go.Proofs.Try.prog 12 [.int .u64 (0)] := yu (z := .int .u64 (0)) (by kernel_rfl) rfl
instance : Ze Go.Proofs.Try.prog 12 [.int .u64 (0)] := ze12
theorem ik12 : Ik Go.Proofs.Try.prog 12 .u64 := ⟨Go.Proofs.Try.underlying12⟩
instance : Ik Go.Proofs.Try.prog 12 .u64 := ik12
theorem ag13 : Ag Go.Proofs.Try.prog 13 2 := w5 Go.Proofs.Try.underlying13 (by kernel_rfl)
instance : Ag Go.Proofs.Try.prog 13 2 := ag13
theorem hQ : Fd Go.Proofs.Try.prog 13 0 0 1 false := yE Go.Proofs.Try.underlying13 (off := 0) (ft := 9) rfl Go.Proofs.Try.underlying9 (n := 1) (by kernel_rfl) rfl (by decide)
instance : Fd Go.Proofs.Try.prog 13 0 0 1 false := hQ
theorem hF : Fd Go.Proofs.Try.prog 13 1 1 1 false := yE Go.Proofs.Try.underlying13 (off := 1) (ft := 12) rfl Go.Proofs.Try.underlying12 (n := 1) (by kernel_rfl) rfl (by decide)
instance : Fd Go.Proofs.Try.prog 13 1 1 1 false := hF
theorem pl13 : Pl Go.Proofs.Try.prog 13 [(0, 1), (1, 1)] := w3 Go.Proofs.Try.underlying13 (by kernel_rfl)
instance : Pl Go.Proofs.Try.prog 13 [(0, 1), (1, 1)] := pl13
theorem ze13 : Ze Go.Proofs.Try.prog 13 [.string .empty, .int .u64 (0)] := yu (z := .agg #[.string .empty, .int .u64 (0)]) (by kernel_rfl) rfl
instance : Ze Go.Proofs.Try.prog 13 [.string .empty, .int .u64 (0)] := ze13
theorem sc21 : Sc Go.Proofs.Try.prog 21 := wO Go.Proofs.Try.underlying21 rfl (by kernel_rfl)
instance : Sc Go.Proofs.Try.prog 21 := sc21
theorem ze21 : Ze Go.Proofs.Try.prog 21 [.int .i32 (0)] := yu (z := .int .i32 (0)) (by kernel_rfl) rfl
instance : Ze Go.Proofs.Try.prog 21 [.int .i32 (0)] := ze21
theorem ik21 : Ik Go.Proofs.Try.prog 21 .i32 := ⟨Go.Proofs.Try.underlying21⟩
instance : Ik Go.Proofs.Try.prog 21 .i32 := ik21
theorem sc22 : Sc Go.Proofs.Try.prog 22 := wO Go.Proofs.Try.underlying22 rfl (by kernel_rfl)
instance : Sc Go.Proofs.Try.prog 22 := sc22
theorem ze22 : Ze Go.Proofs.Try.prog 22 [.slice none 0 0] := yu (z := .slice none 0 0) (by kernel_rfl) rfl
instance : Ze Go.Proofs.Try.prog 22 [.slice none 0 0] := ze22
theorem sl22 : Sl Go.Proofs.Try.prog 22 5 1 1 := sT (z := .int .u8 (0)) Go.Proofs.Try.underlying22 (by kernel_rfl) rfl (by decide)
instance : Sl Go.Proofs.Try.prog 22 5 1 1 := sl22
theorem sc24 : Sc Go.Proofs.Try.prog 24 := wO Go.Proofs.Try.underlying24 rfl (by kernel_rfl)
instance : Sc Go.Proofs.Try.prog 24 := sc24
theorem ze24 : Ze Go.Proofs.Try.prog 24 [.slice none 0 0] := yu (z := .slice none 0 0) (by kernel_rfl) rfl
instance : Ze Go.Proofs.Try.prog 24 [.slice none 0 0] := ze24
theorem sl24 : Sl Go.Proofs.Try.prog 24 78 3 24 := sT (z := .agg #[.int .i64 (0), .int .i64 (0), .int .i64 (0)]) Go.Proofs.Try.underlying24 (by kernel_rfl) rfl (by decide)
instance : Sl Go.Proofs.Try.prog 24 78 3 24 := sl24
theorem sc25 : Sc Go.Proofs.Try.prog 25 := wO Go.Proofs.Try.underlying25 rfl (by kernel_rfl)
instance : Sc Go.Proofs.Try.prog 25 := sc25
theorem ze25 : Ze Go.Proofs.Try.prog 25 [.slice none 0 0] := yu (z := .slice none 0 0) (by kernel_rfl) rfl
instance : Ze Go.Proofs.Try.prog 25 [.slice none 0 0] := ze25
theorem sl25 : Sl Go.Proofs.Try.prog 25 84 1 24 := sT (z := .agg #[.slice none 0 0]) Go.Proofs.Try.underlying25 (by kernel_rfl) rfl (by decide)
instance : Sl Go.Proofs.Try.prog 25 84 1 24 := sl25
theorem ag26 : Ag Go.Proofs.Try.prog 26 10 := w5 Go.Proofs.Try.underlying26 (by kernel_rfl)
instance : Ag Go.Proofs.Try.prog 26 10 := ag26
theorem j9 : Fd Go.Proofs.Try.prog 26 0 0 1 false := yE Go.Proofs.Try.underlying26 (off := 0) (ft := 24) rfl Go.Proofs.Try.underlying24 (n := 1) (by kernel_rfl) rfl (by decide)
instance : Fd Go.Proofs.Try.prog 26 0 0 1 false := j9
theorem j8 : Fd Go.Proofs.Try.prog 26 1 1 1 false := yE Go.Proofs.Try.underlying26 (off := 1) (ft := 3) rfl Go.Proofs.Try.underlying3 (n := 1) (by kernel_rfl) rfl (by decide)
instance : Fd Go.Proofs.Try.prog 26 1 1 1 false := j8
theorem j7 : Fd Go.Proofs.Try.prog 26 2 2 1 false := yE Go.Proofs.Try.underlying26 (off := 2) (ft := 24) rfl Go.Proofs.Try.underlying24 (n := 1) (by kernel_rfl) rfl (by decide)
instance : Fd Go.Proofs.Try.prog 26 2 2 1 false := j7
theorem jz : Fd Go.Proofs.Try.prog 26 3 3 1 false := yE Go.Proofs.Try.underlying26 (off := 3) (ft := 24) rfl Go.Proofs.Try.underlying24 (n := 1) (by kernel_rfl) rfl (by decide)
instance : Fd Go.Proofs.Try.prog 26 3 3 1 false := jz
theorem jy : Fd Go.Proofs.Try.prog 26 4 4 1 false := yE Go.Proofs.Try.underlying26 (off := 4) (ft := 24) rfl Go.Proofs.Try.underlying24 (n := 1) (by kernel_rfl) rfl (by decide)
instance : Fd Go.Proofs.Try.prog 26 4 4 1 false := jy
theorem jw : Fd Go.Proofs.Try.prog 26 5 5 1 false := yE Go.Proofs.Try.underlying26 (off := 5) (ft := 25) rfl Go.Proofs.Try.underlying25 (n := 1) (by kernel_rfl) rfl (by decide)
instance : Fd Go.Proofs.Try.prog 26 5 5 1 false := jw
theorem jv : Fd Go.Proofs.Try.prog 26 6 6 1 false := yE Go.Proofs.Try.underlying26 (off := 6) (ft := 3) rfl Go.Proofs.Try.underlying3 (n := 1) (by kernel_rfl) rfl (by decide)
instance : Fd Go.Proofs.Try.prog 26 6 6 1 false := jv
theorem ju : Fd Go.Proofs.Try.prog 26 7 7 1 false := yE Go.Proofs.Try.underlying26 (off := 7) (ft := 3) rfl Go.Proofs.Try.underlying3 (n := 1) (by kernel_rfl) rfl (by decide)
instance : Fd Go.Proofs.Try.prog 26 7 7 1 false := ju
theorem jt : Fd Go.Proofs.Try.prog 26 8 8 1 false := yE Go.Proofs.Try.underlying26 (off := 8) (ft := 3) rfl Go.Proofs.Try.underlying3 (n := 1) (by kernel_rfl) rfl (by decide)
instance : Fd Go.Proofs.Try.prog 26 8 8 1 false := jt
theorem js : Fd Go.Proofs.Try.prog 26 9 9 1 false := yE Go.Proofs.Try.underlying26 (off := 9) (ft := 3) rfl Go.Proofs.Try.underlying3 (n := 1) (by kernel_rfl) rfl (by decide)
instance : Fd Go.Proofs.Try.prog 26 9 9 1 false := js
theorem pl26 : Pl Go.Proofs.Try.prog 26 [(0, 1), (1, 1), (2, 1), (3, 1), (4, 1), (5, 1), (6, 1), (7, 1), (8, 1), (9, 1)] := w3 Go.Proofs.Try.underlying26 (by kernel_rfl)
instance : Pl Go.Proofs.Try.prog 26 [(0, 1), (1, 1), (2, 1), (3, 1), (4, 1), (5, 1), (6, 1), (7, 1), (8, 1), (9, 1)] := pl26
theorem ze26 : Ze Go.Proofs.Try.prog 26 [.slice none 0 0, .int .i64 (0), .slice none 0 0, .slice none 0 0, .slice none 0 0, .slice none 0 0, .int .i64 (0), .int .i64 (0), .int .i64 (0), .int .i64 (0)] := yu (z := .agg #[.slice none 0 0, .int .i64 (0), .slice none 0 0, .slice none 0 0, .slice none 0 0, .slice none 0 0, .int .i64 (0), .int .i64 (0), .int .i64 (0), .int .i64 (0)]) (by kernel_rfl) rfl
instance : Ze Go.Proofs.Try.prog 26 [.slice none 0 0, .int .i64 (0), .slice none 0 0, .slice none 0 0, .slice none 0 0, .slice none 0 0, .int .i64 (0), .int .i64 (0), .int .i64 (0), .int .i64 (0)] := ze26
theorem ag27 : Ag Go.Proofs.Try.prog 27 10 := w5 Go.Proofs.Try.underlying27 (by kernel_rfl)
instance : Ag Go.Proofs.Try.prog 27 10 := ag27
theorem jr : Fd Go.Proofs.Try.prog 27 0 0 1 false := yE Go.Proofs.Try.underlying27 (off := 0) (ft := 24) rfl Go.Proofs.Try.underlying24 (n := 1) (by kernel_rfl) rfl (by decide)
instance : Fd Go.Proofs.Try.prog 27 0 0 1 false := jr
theorem jq : Fd Go.Proofs.Try.prog 27 1 1 1 false := yE Go.Proofs.Try.underlying27 (off := 1) (ft := 3) rfl Go.Proofs.Try.underlying3 (n := 1) (by kernel_rfl) rfl (by decide)
instance : Fd Go.Proofs.Try.prog 27 1 1 1 false := jq
theorem jp : Fd Go.Proofs.Try.prog 27 2 2 1 false := yE Go.Proofs.Try.underlying27 (off := 2) (ft := 24) rfl Go.Proofs.Try.underlying24 (n := 1) (by kernel_rfl) rfl (by decide)
instance : Fd Go.Proofs.Try.prog 27 2 2 1 false := jp
theorem jo : Fd Go.Proofs.Try.prog 27 3 3 1 false := yE Go.Proofs.Try.underlying27 (off := 3) (ft := 24) rfl Go.Proofs.Try.underlying24 (n := 1) (by kernel_rfl) rfl (by decide)
instance : Fd Go.Proofs.Try.prog 27 3 3 1 false := jo
theorem jn : Fd Go.Proofs.Try.prog 27 4 4 1 false := yE Go.Proofs.Try.underlying27 (off := 4) (ft := 24) rfl Go.Proofs.Try.underlying24 (n := 1) (by kernel_rfl) rfl (by decide)
instance : Fd Go.Proofs.Try.prog 27 4 4 1 false := jn
theorem jm : Fd Go.Proofs.Try.prog 27 5 5 1 false := yE Go.Proofs.Try.underlying27 (off := 5) (ft := 25) rfl Go.Proofs.Try.underlying25 (n := 1) (by kernel_rfl) rfl (by decide)
instance : Fd Go.Proofs.Try.prog 27 5 5 1 false := jm
theorem jl : Fd Go.Proofs.Try.prog 27 6 6 1 false := yE Go.Proofs.Try.underlying27 (off := 6) (ft := 3) rfl Go.Proofs.Try.underlying3 (n := 1) (by kernel_rfl) rfl (by decide)
instance : Fd Go.Proofs.Try.prog 27 6 6 1 false := jl
theorem jk : Fd Go.Proofs.Try.prog 27 7 7 1 false := yE Go.Proofs.Try.underlying27 (off := 7) (ft := 3) rfl Go.Proofs.Try.underlying3 (n := 1) (by kernel_rfl) rfl (by decide)
instance : Fd Go.Proofs.Try.prog 27 7 7 1 false := jk
theorem jj : Fd Go.Proofs.Try.prog 27 8 8 1 false := yE Go.Proofs.Try.underlying27 (off := 8) (ft := 3) rfl Go.Proofs.Try.underlying3 (n := 1) (by kernel_rfl) rfl (by decide)
instance : Fd Go.Proofs.Try.prog 27 8 8 1 false := jj
theorem ji : Fd Go.Proofs.Try.prog 27 9 9 1 false := yE Go.Proofs.Try.underlying27 (off := 9) (ft := 3) rfl Go.Proofs.Try.underlying3 (n := 1) (by kernel_rfl) rfl (by decide)
instance : Fd Go.Proofs.Try.prog 27 9 9 1 false := ji
theorem pl27 : Pl Go.Proofs.Try.prog 27 [(0, 1), (1, 1), (2, 1), (3, 1), (4, 1), (5, 1), (6, 1), (7, 1), (8, 1), (9, 1)] := w3 Go.Proofs.Try.underlying27 (by kernel_rfl)
instance : Pl Go.Proofs.Try.prog 27 [(0, 1), (1, 1), (2, 1), (3, 1), (4, 1), (5, 1), (6, 1), (7, 1), (8, 1), (9, 1)] := pl27
theorem ze27 : Ze Go.Proofs.Try.prog 27 [.slice none 0 0, .int .i64 (0), .slice none 0 0, .slice none 0 0, .slice none 0 0, .slice none 0 0, .int .i64 (0), .int .i64 (0), .int .i64 (0), .int .i64 (0)] := yu (z := .agg #[.slice none 0 0, .int .i64 (0), .slice none 0 0, .slice none 0 0, .slice none 0 0, .slice none 0 0, .int .i64 (0), .int .i64 (0), .int .i64 (0), .int .i64 (0)]) (by kernel_rfl) rfl
instance : Ze Go.Proofs.Try.prog 27 [.slice none 0 0, .int .i64 (0), .slice none 0 0, .slice none 0 0, .slice none 0 0, .slice none 0 0, .int .i64 (0), .int .i64 (0), .int .i64 (0), .int .i64 (0)] := ze27
theorem sc36 : Sc Go.Proofs.Try.prog 36 := wO Go.Proofs.Try.underlying36 rfl (by kernel_rfl)
instance : Sc Go.Proofs.Try.prog 36 := sc36
theorem ze36 : Ze Go.Proofs.Try.prog 36 [.slice none 0 0] := yu (z := .slice none 0 0) (by kernel_rfl) rfl
instance : Ze Go.Proofs.Try.prog 36 [.slice none 0 0] := ze36
theorem sl36 : Sl Go.Proofs.Try.prog 36 3 1 8 := sT (z := .int .i64 (0)) Go.Proofs.Try.underlying36 (by kernel_rfl) rfl (by decide)
instance : Sl Go.Proofs.Try.prog 36 3 1 8 := sl36
theorem ag39 : Ag Go.Proofs.Try.prog 39 4 := w5 Go.Proofs.Try.underlying39 (by kernel_rfl)
instance : Ag Go.Proofs.Try.prog 39 4 := ag39
theorem jh : Fd Go.Proofs.Try.prog 39 0 0 1 false := yE Go.Proofs.Try.underlying39 (off := 0) (ft := 24) rfl Go.Proofs.Try.underlying24 (n := 1) (by kernel_rfl) rfl (by decide)
instance : Fd Go.Proofs.Try.prog 39 0 0 1 false := jh
theorem jg : Fd Go.Proofs.Try.prog 39 1 1 1 false := yE Go.Proofs.Try.underlying39 (off := 1) (ft := 3) rfl Go.Proofs.Try.underlying3 (n := 1) (by kernel_rfl) rfl (by decide)
instance : Fd Go.Proofs.Try.prog 39 1 1 1 false := jg
theorem jf : Fd Go.Proofs.Try.prog 39 2 2 1 false := yE Go.Proofs.Try.underlying39 (off := 2) (ft := 3) rfl Go.Proofs.Try.underlying3 (n := 1) (by kernel_rfl) rfl (by decide)
instance : Fd Go.Proofs.Try.prog 39 2 2 1 false := jf
theorem je : Fd Go.Proofs.Try.prog 39 3 3 1 false := yE Go.Proofs.Try.underlying39 (off := 3) (ft := 3) rfl Go.Proofs.Try.underlying3 (n := 1) (by kernel_rfl) rfl (by decide)
instance : Fd Go.Proofs.Try.prog 39 3 3 1 false := je
theorem pl39 : Pl Go.Proofs.Try.prog 39 [(0, 1), (1, 1), (2, 1), (3, 1)] := w3 Go.Proofs.Try.underlying39 (by kernel_rfl)
instance : Pl Go.Proofs.Try.prog 39 [(0, 1), (1, 1), (2, 1), (3, 1)] := pl39
theorem ze39 : Ze Go.Proofs.Try.prog 39 [.slice none 0 0, .int .i64 (0), .int .i64 (0), .int .i64 (0)] := yu (z := .agg #[.slice none 0 0, .int .i64 (0), .int .i64 (0), .int .i64 (0)]) (by kernel_rfl) rfl
instance : Ze Go.Proofs.Try.prog 39 [.slice none 0 0, .int .i64 (0), .int .i64 (0), .int .i64 (0)] := ze39
theorem ag40 : Ag Go.Proofs.Try.prog 40 4 := w5 Go.Proofs.Try.underlying40 (by kernel_rfl)
instance : Ag Go.Proofs.Try.prog 40 4 := ag40
theorem jd : Fd Go.Proofs.Try.prog 40 0 0 1 false := yE Go.Proofs.Try.underlying40 (off := 0) (ft := 24) rfl Go.Proofs.Try.underlying24 (n := 1) (by kernel_rfl) rfl (by decide)
instance : Fd Go.Proofs.Try.prog 40 0 0 1 false := jd
theorem jc : Fd Go.Proofs.Try.prog 40 1 1 1 false := yE Go.Proofs.Try.underlying40 (off := 1) (ft := 3) rfl Go.Proofs.Try.underlying3 (n := 1) (by kernel_rfl) rfl (by decide)
instance : Fd Go.Proofs.Try.prog 40 1 1 1 false := jc
theorem jb : Fd Go.Proofs.Try.prog 40 2 2 1 false := yE Go.Proofs.Try.underlying40 (off := 2) (ft := 3) rfl Go.Proofs.Try.underlying3 (n := 1) (by kernel_rfl) rfl (by decide)
instance : Fd Go.Proofs.Try.prog 40 2 2 1 false := jb
theorem ja : Fd Go.Proofs.Try.prog 40 3 3 1 false := yE Go.Proofs.Try.underlying40 (off := 3) (ft := 3) rfl Go.Proofs.Try.underlying3 (n := 1) (by kernel_rfl) rfl (by decide)
instance : Fd Go.Proofs.Try.prog 40 3 3 1 false := ja
theorem pl40 : Pl Go.Proofs.Try.prog 40 [(0, 1), (1, 1), (2, 1), (3, 1)] := w3 Go.Proofs.Try.underlying40 (by kernel_rfl)
instance : Pl Go.Proofs.Try.prog 40 [(0, 1), (1, 1), (2, 1), (3, 1)] := pl40
theorem ze40 : Ze Go.Proofs.Try.prog 40 [.slice none 0 0, .int .i64 (0), .int .i64 (0), .int .i64 (0)] := yu (z := .agg #[.slice none 0 0, .int .i64 (0), .int .i64 (0), .int .i64 (0)]) (by kernel_rfl) rfl
instance : Ze Go.Proofs.Try.prog 40 [.slice none 0 0, .int .i64 (0), .int .i64 (0), .int .i64 (0)] := ze40
theorem sc50 : Sc Go.Proofs.Try.prog 50 := wO Go.Proofs.Try.underlying50 rfl (by kernel_rfl)
instance : Sc Go.Proofs.Try.prog 50 := sc50
theorem ze50 : Ze Go.Proofs.Try.prog 50 [.slice none 0 0] := yu (z := .slice none 0 0) (by kernel_rfl) rfl
instance : Ze Go.Proofs.Try.prog 50 [.slice none 0 0] := ze50
theorem sl50 : Sl Go.Proofs.Try.prog 50 105 3 24 := sT (z := .agg #[.int .i64 (0), .int .i64 (0), .int .i64 (0)]) Go.Proofs.Try.underlying50 (by kernel_rfl) rfl (by decide)
instance : Sl Go.Proofs.Try.prog 50 105 3 24 := sl50
theorem sc51 : Sc Go.Proofs.Try.prog 51 := wO Go.Proofs.Try.underlying51 rfl (by kernel_rfl)
instance : Sc Go.Proofs.Try.prog 51 := sc51
theorem ze51 : Ze Go.Proofs.Try.prog 51 [.slice none 0 0] := yu (z := .slice none 0 0) (by kernel_rfl) rfl
instance : Ze Go.Proofs.Try.prog 51 [.slice none 0 0] := ze51
theorem sl51 : Sl Go.Proofs.Try.prog 51 119 1 24 := sT (z := .agg #[.slice none 0 0]) Go.Proofs.Try.underlying51 (by kernel_rfl) rfl (by decide)
instance : Sl Go.Proofs.Try.prog 51 119 1 24 := sl51
theorem ag52 : Ag Go.Proofs.Try.prog 52 10 := w5 Go.Proofs.Try.underlying52 (by kernel_rfl)
instance : Ag Go.Proofs.Try.prog 52 10 := ag52
theorem jZ : Fd Go.Proofs.Try.prog 52 0 0 1 false := yE Go.Proofs.Try.underlying52 (off := 0) (ft := 50) rfl Go.Proofs.Try.underlying50 (n := 1) (by kernel_rfl) rfl (by decide)
instance : Fd Go.Proofs.Try.prog 52 0 0 1 false := jZ
theorem jY : Fd Go.Proofs.Try.prog 52 1 1 1 false := yE Go.Proofs.Try.underlying52 (off := 1) (ft := 3) rfl Go.Proofs.Try.underlying3 (n := 1) (by kernel_rfl) rfl (by decide)
instance : Fd Go.Proofs.Try.prog 52 1 1 1 false := jY
theorem jX : Fd Go.Proofs.Try.prog 52 2 2 1 false := yE Go.Proofs.Try.underlying52 (off := 2) (ft := 50) rfl Go.Proofs.Try.underlying50 (n := 1) (by kernel_rfl) rfl (by decide)
instance : Fd Go.Proofs.Try.prog 52 2 2 1 false := jX
theorem jW : Fd Go.Proofs.Try.prog 52 3 3 1 false := yE Go.Proofs.Try.underlying52 (off := 3) (ft := 50) rfl Go.Proofs.Try.underlying50 (n := 1) (by kernel_rfl) rfl (by decide)
instance : Fd Go.Proofs.Try.prog 52 3 3 1 false := jW
theorem jV : Fd Go.Proofs.Try.prog 52 4 4 1 false := yE Go.Proofs.Try.underlying52 (off := 4) (ft := 50) rfl Go.Proofs.Try.underlying50 (n := 1) (by kernel_rfl) rfl (by decide)
instance : Fd Go.Proofs.Try.prog 52 4 4 1 false := jV
theorem jU : Fd Go.Proofs.Try.prog 52 5 5 1 false := yE Go.Proofs.Try.underlying52 (off := 5) (ft := 51) rfl Go.Proofs.Try.underlying51 (n := 1) (by kernel_rfl) rfl (by decide)
instance : Fd Go.Proofs.Try.prog 52 5 5 1 false := jU
theorem jT : Fd Go.Proofs.Try.prog 52 6 6 1 false := yE Go.Proofs.Try.underlying52 (off := 6) (ft := 3) rfl Go.Proofs.Try.underlying3 (n := 1) (by kernel_rfl) rfl (by decide)
instance : Fd Go.Proofs.Try.prog 52 6 6 1 false := jT
theorem jS : Fd Go.Proofs.Try.prog 52 7 7 1 false := yE Go.Proofs.Try.underlying52 (off := 7) (ft := 3) rfl Go.Proofs.Try.underlying3 (n := 1) (by kernel_rfl) rfl (by decide)
instance : Fd Go.Proofs.Try.prog 52 7 7 1 false := jS
theorem jR : Fd Go.Proofs.Try.prog 52 8 8 1 false := yE Go.Proofs.Try.underlying52 (off := 8) (ft := 3) rfl Go.Proofs.Try.underlying3 (n := 1) (by kernel_rfl) rfl (by decide)
instance : Fd Go.Proofs.Try.prog 52 8 8 1 false := jR
theorem jQ : Fd Go.Proofs.Try.prog 52 9 9 1 false := yE Go.Proofs.Try.underlying52 (off := 9) (ft := 3) rfl Go.Proofs.Try.underlying3 (n := 1) (by kernel_rfl) rfl (by decide)
instance : Fd Go.Proofs.Try.prog 52 9 9 1 false := jQ
theorem pl52 : Pl Go.Proofs.Try.prog 52 [(0, 1), (1, 1), (2, 1), (3, 1), (4, 1), (5, 1), (6, 1), (7, 1), (8, 1), (9, 1)] := w3 Go.Proofs.Try.underlying52 (by kernel_rfl)
instance : Pl Go.Proofs.Try.prog 52 [(0, 1), (1, 1), (2, 1), (3, 1), (4, 1), (5, 1), (6, 1), (7, 1), (8, 1), (9, 1)] := pl52
theorem ze52 : Ze Go.Proofs.Try.prog 52 [.slice none 0 0, .int .i64 (0), .slice none 0 0, .slice none 0 0, .slice none 0 0, .slice none 0 0, .int .i64 (0), .int .i64 (0), .int .i64 (0), .int .i64 (0)] := yu (z := .agg #[.slice none 0 0, .int .i64 (0), .slice none 0 0, .slice none 0 0, .slice none 0 0, .slice none 0 0, .int .i64 (0), .int .i64 (0), .int .i64 (0), .int .i64 (0)]) (by kernel_rfl) rfl
instance : Ze Go.Proofs.Try.prog 52 [.slice none 0 0, .int .i64 (0), .slice none 0 0, .slice none 0 0, .slice none 0 0, .slice none 0 0, .int .i64 (0), .int .i64 (0), .int .i64 (0), .int .i64 (0)] := ze52
theorem ag53 : Ag Go.Proofs.Try.prog 53 10 := w5 Go.Proofs.Try.underlying53 (by kernel_rfl)
instance : Ag Go.Proofs.Try.prog 53 10 := ag53
theorem jP : Fd Go.Proofs.Try.prog 53 0 0 1 false := yE Go.Proofs.Try.underlying53 (off := 0) (ft := 50) rfl Go.Proofs.Try.underlying50 (n := 1) (by kernel_rfl) rfl (by decide)
instance : Fd Go.Proofs.Try.prog 53 0 0 1 false := jP
theorem jO : Fd Go.Proofs.Try.prog 53 1 1 1 false := yE Go.Proofs.Try.underlying53 (off := 1) (ft := 3) rfl Go.Proofs.Try.underlying3 (n := 1) (by kernel_rfl) rfl (by decide)
instance : Fd Go.Proofs.Try.prog 53 1 1 1 false := jO
theorem jN : Fd Go.Proofs.Try.prog 53 2 2 1 false := yE Go.Proofs.Try.underlying53 (off := 2) (ft := 50) rfl Go.Proofs.Try.underlying50 (n := 1) (by kernel_rfl) rfl (by decide)
instance : Fd Go.Proofs.Try.prog 53 2 2 1 false := jN
theorem jM : Fd Go.Proofs.Try.prog 53 3 3 1 false := yE Go.Proofs.Try.underlying53 (off := 3) (ft := 50) rfl Go.Proofs.Try.underlying50 (n := 1) (by kernel_rfl) rfl (by decide)
instance : Fd Go.Proofs.Try.prog 53 3 3 1 false := jM
theorem jL : Fd Go.Proofs.Try.prog 53 4 4 1 false := yE Go.Proofs.Try.underlying53 (off := 4) (ft := 50) rfl Go.Proofs.Try.underlying50 (n := 1) (by kernel_rfl) rfl (by decide)
instance : Fd Go.Proofs.Try.prog 53 4 4 1 false := jL
theorem jK : Fd Go.Proofs.Try.prog 53 5 5 1 false := yE Go.Proofs.Try.underlying53 (off := 5) (ft := 51) rfl Go.Proofs.Try.underlying51 (n := 1) (by kernel_rfl) rfl (by decide)
instance : Fd Go.Proofs.Try.prog 53 5 5 1 false := jK
theorem jJ : Fd Go.Proofs.Try.prog 53 6 6 1 false := yE Go.Proofs.Try.underlying53 (off := 6) (ft := 3) rfl Go.Proofs.Try.underlying3 (n := 1) (by kernel_rfl) rfl (by decide)
instance : Fd Go.Proofs.Try.prog 53 6 6 1 false := jJ
theorem jI : Fd Go.Proofs.Try.prog 53 7 7 1 false := yE Go.Proofs.Try.underlying53 (off := 7) (ft := 3) rfl Go.Proofs.Try.underlying3 (n := 1) (by kernel_rfl) rfl (by decide)
instance : Fd Go.Proofs.Try.prog 53 7 7 1 false := jI
theorem jH : Fd Go.Proofs.Try.prog 53 8 8 1 false := yE Go.Proofs.Try.underlying53 (off := 8) (ft := 3) rfl Go.Proofs.Try.underlying3 (n := 1) (by kernel_rfl) rfl (by decide)
instance : Fd Go.Proofs.Try.prog 53 8 8 1 false := jH
theorem jG : Fd Go.Proofs.Try.prog 53 9 9 1 false := yE Go.Proofs.Try.underlying53 (off := 9) (ft := 3) rfl Go.Proofs.Try.underlying3 (n := 1) (by kernel_rfl) rfl (by decide)
instance : Fd Go.Proofs.Try.prog 53 9 9 1 false := jG
theorem pl53 : Pl Go.Proofs.Try.prog 53 [(0, 1), (1, 1), (2, 1), (3, 1), (4, 1), (5, 1), (6, 1), (7, 1), (8, 1), (9, 1)] := w3 Go.Proofs.Try.underlying53 (by kernel_rfl)
instance : Pl Go.Proofs.Try.prog 53 [(0, 1), (1, 1), (2, 1), (3, 1), (4, 1), (5, 1), (6, 1), (7, 1), (8, 1), (9, 1)] := pl53
theorem ze53 : Ze Go.Proofs.Try.prog 53 [.slice none 0 0, .int .i64 (0), .slice none 0 0, .slice none 0 0, .slice none 0 0, .slice none 0 0, .int .i64 (0), .int .i64 (0), .int .i64 (0), .int .i64 (0)] := yu (z := .agg #[.slice none 0 0, .int .i64 (0), .slice none 0 0, .slice none 0 0, .slice none 0 0, .slice none 0 0, .int .i64 (0), .int .i64 (0), .int .i64 (0), .int .i64 (0)]) (by kernel_rfl) rfl
instance : Ze Go.Proofs.Try.prog 53 [.slice none 0 0, .int .i64 (0), .slice none 0 0, .slice none 0 0, .slice none 0 0, .slice none 0 0, .int .i64 (0), .int .i64 (0), .int .i64 (0), .int .i64 (0)] := ze53
theorem sc70 : Sc Go.Proofs.Try.prog 70 := wO Go.Proofs.Try.underlying70 rfl (by kernel_rfl)
instance : Sc Go.Proofs.Try.prog 70 := sc70
theorem ze70 : Ze Go.Proofs.Try.prog 70 [.pointer none] := yu (z := .pointer none) (by kernel_rfl) rfl
instance : Ze Go.Proofs.Try.prog 70 [.pointer none] := ze70
theorem ag77 : Ag Go.Proofs.Try.prog 77 3 := w5 Go.Proofs.Try.underlying77 (by kernel_rfl)
instance : Ag Go.Proofs.Try.prog 77 3 := ag77
theorem jF : Fd Go.Proofs.Try.prog 77 0 0 1 false := yE Go.Proofs.Try.underlying77 (off := 0) (ft := 3) rfl Go.Proofs.Try.underlying3 (n := 1) (by kernel_rfl) rfl (by decide)
instance : Fd Go.Proofs.Try.prog 77 0 0 1 false := jF
theorem jE : Fd Go.Proofs.Try.prog 77 1 1 1 false := yE Go.Proofs.Try.underlying77 (off := 1) (ft := 3) rfl Go.Proofs.Try.underlying3 (n := 1) (by kernel_rfl) rfl (by decide)
instance : Fd Go.Proofs.Try.prog 77 1 1 1 false := jE
theorem jD : Fd Go.Proofs.Try.prog 77 2 2 1 false := yE Go.Proofs.Try.underlying77 (off := 2) (ft := 3) rfl Go.Proofs.Try.underlying3 (n := 1) (by kernel_rfl) rfl (by decide)
instance : Fd Go.Proofs.Try.prog 77 2 2 1 false := jD
theorem pl77 : Pl Go.Proofs.Try.prog 77 [(0, 1), (1, 1), (2, 1)] := w3 Go.Proofs.Try.underlying77 (by kernel_rfl)
instance : Pl Go.Proofs.Try.prog 77 [(0, 1), (1, 1), (2, 1)] := pl77
theorem ze77 : Ze Go.Proofs.Try.prog 77 [.int .i64 (0), .int .i64 (0), .int .i64 (0)] := yu (z := .agg #[.int .i64 (0), .int .i64 (0), .int .i64 (0)]) (by kernel_rfl) rfl
instance : Ze Go.Proofs.Try.prog 77 [.int .i64 (0), .int .i64 (0), .int .i64 (0)] := ze77
theorem ag78 : Ag Go.Proofs.Try.prog 78 3 := w5 Go.Proofs.Try.underlying78 (by kernel_rfl)
instance : Ag Go.Proofs.Try.prog 78 3 := ag78
theorem jC : Fd Go.Proofs.Try.prog 78 0 0 1 false := yE Go.Proofs.Try.underlying78 (off := 0) (ft := 3) rfl Go.Proofs.Try.underlying3 (n := 1) (by kernel_rfl) rfl (by decide)
instance : Fd Go.Proofs.Try.prog 78 0 0 1 false := jC
theorem jB : Fd Go.Proofs.Try.prog 78 1 1 1 false := yE Go.Proofs.Try.underlying78 (off := 1) (ft := 3) rfl Go.Proofs.Try.underlying3 (n := 1) (by kernel_rfl) rfl (by decide)
instance : Fd Go.Proofs.Try.prog 78 1 1 1 false := jB
theorem jA : Fd Go.Proofs.Try.prog 78 2 2 1 false := yE Go.Proofs.Try.underlying78 (off := 2) (ft := 3) rfl Go.Proofs.Try.underlying3 (n := 1) (by kernel_rfl) rfl (by decide)
instance : Fd Go.Proofs.Try.prog 78 2 2 1 false := jA
theorem pl78 : Pl Go.Proofs.Try.prog 78 [(0, 1), (1, 1), (2, 1)] := w3 Go.Proofs.Try.underlying78 (by kernel_rfl)
instance : Pl Go.Proofs.Try.prog 78 [(0, 1), (1, 1), (2, 1)] := pl78
theorem ze78 : Ze Go.Proofs.Try.prog 78 [.int .i64 (0), .int .i64 (0), .int .i64 (0)] := yu (z := .agg #[.int .i64 (0), .int .i64 (0), .int .i64 (0)]) (by kernel_rfl) rfl
instance : Ze Go.Proofs.Try.prog 78 [.int .i64 (0), .int .i64 (0), .int .i64 (0)] := ze78
theorem sc81 : Sc Go.Proofs.Try.prog 81 := wO Go.Proofs.Try.underlying81 rfl (by kernel_rfl)
instance : Sc Go.Proofs.Try.prog 81 := sc81
theorem ze81 : Ze Go.Proofs.Try.prog 81 [.pointer none] := yu (z := .pointer none) (by kernel_rfl) rfl
instance : Ze Go.Proofs.Try.prog 81 [.pointer none] := ze81
theorem ag83 : Ag Go.Proofs.Try.prog 83 1 := w5 Go.Proofs.Try.underlying83 (by kernel_rfl)
instance : Ag Go.Proofs.Try.prog 83 1 := ag83
theorem k9 : Fd Go.Proofs.Try.prog 83 0 0 1 false := yE Go.Proofs.Try.underlying83 (off := 0) (ft := 24) rfl Go.Proofs.Try.underlying24 (n := 1) (by kernel_rfl) rfl (by decide)
instance : Fd Go.Proofs.Try.prog 83 0 0 1 false := k9
theorem pl83 : Pl Go.Proofs.Try.prog 83 [(0, 1)] := w3 Go.Proofs.Try.underlying83 (by kernel_rfl)
instance : Pl Go.Proofs.Try.prog 83 [(0, 1)] := pl83
theorem ze83 : Ze Go.Proofs.Try.prog 83 [.slice none 0 0] := yu (z := .agg #[.slice none 0 0]) (by kernel_rfl) rfl
instance : Ze Go.Proofs.Try.prog 83 [.slice none 0 0] := ze83
theorem ag84 : Ag Go.Proofs.Try.prog 84 1 := w5 Go.Proofs.Try.underlying84 (by kernel_rfl)
instance : Ag Go.Proofs.Try.prog 84 1 := ag84
theorem k8 : Fd Go.Proofs.Try.prog 84 0 0 1 false := yE Go.Proofs.Try.underlying84 (off := 0) (ft := 24) rfl Go.Proofs.Try.underlying24 (n := 1) (by kernel_rfl) rfl (by decide)
instance : Fd Go.Proofs.Try.prog 84 0 0 1 false := k8
theorem pl84 : Pl Go.Proofs.Try.prog 84 [(0, 1)] := w3 Go.Proofs.Try.underlying84 (by kernel_rfl)
instance : Pl Go.Proofs.Try.prog 84 [(0, 1)] := pl84
theorem ze84 : Ze Go.Proofs.Try.prog 84 [.slice none 0 0] := yu (z := .agg #[.slice none 0 0]) (by kernel_rfl) rfl
instance : Ze Go.Proofs.Try.prog 84 [.slice none 0 0] := ze84
theorem eV : Ag Go.Proofs.Try.prog 105 3 := w5 Go.Proofs.Try.underlying105 (by kernel_rfl)
instance : Ag Go.Proofs.Try.prog 105 3 := eV
theorem ms : Fd Go.Proofs.Try.prog 105 0 0 1 false := yE Go.Proofs.Try.underlying105 (off := 0) (ft := 3) rfl Go.Proofs.Try.underlying3 (n := 1) (by kernel_rfl) rfl (by decide)
instance : Fd Go.Proofs.Try.prog 105 0 0 1 false := ms
theorem mr : Fd Go.Proofs.Try.prog 105 1 1 1 false := yE Go.Proofs.Try.underlying105 (off := 1) (ft := 3) rfl Go.Proofs.Try.underlying3 (n := 1) (by kernel_rfl) rfl (by decide)
instance : Fd Go.Proofs.Try.prog 105 1 1 1 false := mr
theorem mq : Fd Go.Proofs.Try.prog 105 2 2 1 false := yE Go.Proofs.Try.underlying105 (off := 2) (ft := 3) rfl Go.Proofs.Try.underlying3 (n := 1) (by kernel_rfl) rfl (by decide)
instance : Fd Go.Proofs.Try.prog 105 2 2 1 false := mq
theorem f0 : Pl Go.Proofs.Try.prog 105 [(0, 1), (1, 1), (2, 1)] := w3 Go.Proofs.Try.underlying105 (by kernel_rfl)
instance : Pl Go.Proofs.Try.prog 105 [(0, 1), (1, 1), (2, 1)] := f0
theorem fg : Ze Go.Proofs.Try.prog 105 [.int .i64 (0), .int .i64 (0), .int .i64 (0)] := yu (z := .agg #[.int .i64 (0), .int .i64 (0), .int .i64 (0)]) (by kernel_rfl) rfl
instance : Ze Go.Proofs.Try.prog 105 [.int .i64 (0), .int .i64 (0), .int .i64 (0)] := fg
theorem eU : Ag Go.Proofs.Try.prog 108 3 := w5 Go.Proofs.Try.underlying108 (by kernel_rfl)
instance : Ag Go.Proofs.Try.prog 108 3 := eU
theorem mp : Fd Go.Proofs.Try.prog 108 0 0 1 false := yE Go.Proofs.Try.underlying108 (off := 0) (ft := 22) rfl Go.Proofs.Try.underlying22 (n := 1) (by kernel_rfl) rfl (by decide)
instance : Fd Go.Proofs.Try.prog 108 0 0 1 false := mp
theorem mo : Fd Go.Proofs.Try.prog 108 1 1 1 false := yE Go.Proofs.Try.underlying108 (off := 1) (ft := 3) rfl Go.Proofs.Try.underlying3 (n := 1) (by kernel_rfl) rfl (by decide)
instance : Fd Go.Proofs.Try.prog 108 1 1 1 false := mo
theorem mn : Fd Go.Proofs.Try.prog 108 2 2 1 false := yE Go.Proofs.Try.underlying108 (off := 2) (ft := 3) rfl Go.Proofs.Try.underlying3 (n := 1) (by kernel_rfl) rfl (by decide)
instance : Fd Go.Proofs.Try.prog 108 2 2 1 false := mn
theorem fz : Pl Go.Proofs.Try.prog 108 [(0, 1), (1, 1), (2, 1)] := w3 Go.Proofs.Try.underlying108 (by kernel_rfl)
instance : Pl Go.Proofs.Try.prog 108 [(0, 1), (1, 1), (2, 1)] := fz
theorem ff : Ze Go.Proofs.Try.prog 108 [.slice none 0 0, .int .i64 (0), .int .i64 (0)] := yu (z := .agg #[.slice none 0 0, .int .i64 (0), .int .i64 (0)]) (by kernel_rfl) rfl
instance : Ze Go.Proofs.Try.prog 108 [.slice none 0 0, .int .i64 (0), .int .i64 (0)] := ff
theorem eT : Ag Go.Proofs.Try.prog 109 3 := w5 Go.Proofs.Try.underlying109 (by kernel_rfl)
instance : Ag Go.Proofs.Try.prog 109 3 := eT
theorem mm : Fd Go.Proofs.Try.prog 109 0 0 1 false := yE Go.Proofs.Try.underlying109 (off := 0) (ft := 22) rfl Go.Proofs.Try.underlying22 (n := 1) (by kernel_rfl) rfl (by decide)
instance : Fd Go.Proofs.Try.prog 109 0 0 1 false := mm
theorem mj : Fd Go.Proofs.Try.prog 109 1 1 1 false := yE Go.Proofs.Try.underlying109 (off := 1) (ft := 3) rfl Go.Proofs.Try.underlying3 (n := 1) (by kernel_rfl) rfl (by decide)
instance : Fd Go.Proofs.Try.prog 109 1 1 1 false := mj
theorem mi : Fd Go.Proofs.Try.prog 109 2 2 1 false := yE Go.Proofs.Try.underlying109 (off := 2) (ft := 3) rfl Go.Proofs.Try.underlying3 (n := 1) (by kernel_rfl) rfl (by decide)
instance : Fd Go.Proofs.Try.prog 109 2 2 1 false := mi
theorem fy : Pl Go.Proofs.Try.prog 109 [(0, 1), (1, 1), (2, 1)] := w3 Go.Proofs.Try.underlying109 (by kernel_rfl)
instance : Pl Go.Proofs.Try.prog 109 [(0, 1), (1, 1), (2, 1)] := fy
theorem fe : Ze Go.Proofs.Try.prog 109 [.slice none 0 0, .int .i64 (0), .int .i64 (0)] := yu (z := .agg #[.slice none 0 0, .int .i64 (0), .int .i64 (0)]) (by kernel_rfl) rfl
instance : Ze Go.Proofs.Try.prog 109 [.slice none 0 0, .int .i64 (0), .int .i64 (0)] := fe
theorem fr : Sc Go.Proofs.Try.prog 115 := wO Go.Proofs.Try.underlying115 rfl (by kernel_rfl)
instance : Sc Go.Proofs.Try.prog 115 := fr
theorem fc : Ze Go.Proofs.Try.prog 115 [.slice none 0 0] := yu (z := .slice none 0 0) (by kernel_rfl) rfl
instance : Ze Go.Proofs.Try.prog 115 [.slice none 0 0] := fc
theorem fk : Sl Go.Proofs.Try.prog 115 24 1 24 := sT (z := .slice none 0 0) Go.Proofs.Try.underlying115 (by kernel_rfl) rfl (by decide)
instance : Sl Go.Proofs.Try.prog 115 24 1 24 := fk
theorem eS : Ag Go.Proofs.Try.prog 118 1 := w5 Go.Proofs.Try.underlying118 (by kernel_rfl)
instance : Ag Go.Proofs.Try.prog 118 1 := eS
theorem mh : Fd Go.Proofs.Try.prog 118 0 0 1 false := yE Go.Proofs.Try.underlying118 (off := 0) (ft := 50) rfl Go.Proofs.Try.underlying50 (n := 1) (by kernel_rfl) rfl (by decide)
instance : Fd Go.Proofs.Try.prog 118 0 0 1 false := mh
theorem fx : Pl Go.Proofs.Try.prog 118 [(0, 1)] := w3 Go.Proofs.Try.underlying118 (by kernel_rfl)
instance : Pl Go.Proofs.Try.prog 118 [(0, 1)] := fx
theorem fb : Ze Go.Proofs.Try.prog 118 [.slice none 0 0] := yu (z := .agg #[.slice none 0 0]) (by kernel_rfl) rfl
instance : Ze Go.Proofs.Try.prog 118 [.slice none 0 0] := fb
theorem eQ : Ag Go.Proofs.Try.prog 119 1 := w5 Go.Proofs.Try.underlying119 (by kernel_rfl)
instance : Ag Go.Proofs.Try.prog 119 1 := eQ
theorem mg : Fd Go.Proofs.Try.prog 119 0 0 1 false := yE Go.Proofs.Try.underlying119 (off := 0) (ft := 50) rfl Go.Proofs.Try.underlying50 (n := 1) (by kernel_rfl) rfl (by decide)
instance : Fd Go.Proofs.Try.prog 119 0 0 1 false := mg
theorem fw : Pl Go.Proofs.Try.prog 119 [(0, 1)] := w3 Go.Proofs.Try.underlying119 (by kernel_rfl)
instance : Pl Go.Proofs.Try.prog 119 [(0, 1)] := fw
theorem fa : Ze Go.Proofs.Try.prog 119 [.slice none 0 0] := yu (z := .agg #[.slice none 0 0]) (by kernel_rfl) rfl
instance : Ze Go.Proofs.Try.prog 119 [.slice none 0 0] := fa
theorem fq : Sc Go.Proofs.Try.prog 123 := wO Go.Proofs.Try.underlying123 rfl (by kernel_rfl)
instance : Sc Go.Proofs.Try.prog 123 := fq
theorem fZ : Ze Go.Proofs.Try.prog 123 [.int .u64 (0)] := yu (z := .int .u64 (0)) (by kernel_rfl) rfl
instance : Ze Go.Proofs.Try.prog 123 [.int .u64 (0)] := fZ
theorem eF : Ik Go.Proofs.Try.prog 123 .u64 := ⟨Go.Proofs.Try.underlying123⟩
instance : Ik Go.Proofs.Try.prog 123 .u64 := eF
theorem fp : Sc Go.Proofs.Try.prog 134 := wO Go.Proofs.Try.underlying134 rfl (by kernel_rfl)
instance : Sc Go.Proofs.Try.prog 134 := fp
theorem fY : Ze Go.Proofs.Try.prog 134 [.int .u32 (0)] := yu (z := .int .u32 (0)) (by kernel_rfl) rfl
instance : Ze Go.Proofs.Try.prog 134 [.int .u32 (0)] := fY
theorem eE : Ik Go.Proofs.Try.prog 134 .u32 := ⟨Go.Proofs.Try.underlying134⟩
instance : Ik Go.Proofs.Try.prog 134 .u32 := eE
theorem fm : Sc Go.Proofs.Try.prog 138 := wO Go.Proofs.Try.underlying138 rfl (by kernel_rfl)
instance : Sc Go.Proofs.Try.prog 138 := fm
theorem fX : Ze Go.Proofs.Try.prog 138 [.pointer none] := yu (z := .pointer none) (by kernel_rfl) rfl
instance : Ze Go.Proofs.Try.prog 138 [.pointer none] := fX
def tab : Tab where
  ag := [(13, 2), (26, 10), (27, 10), (39, 4), (40, 4), (52, 10), (53, 10), (77, 3), (78, 3), (83, 1), (84, 1), (105, 3), (108, 3), (109, 3), (118, 1), (119, 1)]
  sc := [2, 3, 4, 5, 9, 12, 21, 22, 24, 25, 36, 50, 51, 70, 81, 115, 123, 134, 138]
  fd := [((13, 0), (0, 1, false)), ((13, 1), (1, 1, false)), ((26, 0), (0, 1, false)), ((26, 1), (1, 1, false)), ((26, 2), (2, 1, false)), ((26, 3), (3, 1, false)), ((26, 4), (4, 1, false)), ((26, 5), (5, 1, false)), ((26, 6), (6, 1, false)), ((26, 7), (7, 1, false)), ((26, 8), (8, 1, false)), ((26, 9), (9, 1, false)), ((27, 0), (0, 1, false)), ((27, 1), (1, 1, false)), ((27, 2), (2, 1, false)), ((27, 3), (3, 1, false)), ((27, 4), (4, 1, false)), ((27, 5), (5, 1, false)), ((27, 6), (6, 1, false)), ((27, 7), (7, 1, false)), ((27, 8), (8, 1, false)), ((27, 9), (9, 1, false)), ((39, 0), (0, 1, false)), ((39, 1), (1, 1, false)), ((39, 2), (2, 1, false)), ((39, 3), (3, 1, false)), ((40, 0), (0, 1, false)), ((40, 1), (1, 1, false)), ((40, 2), (2, 1, false)), ((40, 3), (3, 1, false)), ((52, 0), (0, 1, false)), ((52, 1), (1, 1, false)), ((52, 2), (2, 1, false)), ((52, 3), (3, 1, false)), ((52, 4), (4, 1, false)), ((52, 5), (5, 1, false)), ((52, 6), (6, 1, false)), ((52, 7), (7, 1, false)), ((52, 8), (8, 1, false)), ((52, 9), (9, 1, false)), ((53, 0), (0, 1, false)), ((53, 1), (1, 1, false)), ((53, 2), (2, 1, false)), ((53, 3), (3, 1, false)), ((53, 4), (4, 1, false)), ((53, 5), (5, 1, false)), ((53, 6), (6, 1, false)), ((53, 7), (7, 1, false)), ((53, 8), (8, 1, false)), ((53, 9), (9, 1, false)), ((77, 0), (0, 1, false)), ((77, 1), (1, 1, false)), ((77, 2), (2, 1, false)), ((78, 0), (0, 1, false)), ((78, 1), (1, 1, false)), ((78, 2), (2, 1, false)), ((83, 0), (0, 1, false)), ((84, 0), (0, 1, false)), ((105, 0), (0, 1, false)), ((105, 1), (1, 1, false)), ((105, 2), (2, 1, false)), ((108, 0), (0, 1, false)), ((108, 1), (1, 1, false)), ((108, 2), (2, 1, false)), ((109, 0), (0, 1, false)), ((109, 1), (1, 1, false)), ((109, 2), (2, 1, false)), ((118, 0), (0, 1, false)), ((119, 0), (0, 1, false))]
  ze := [(2, [.int .i64 (0)]), (3, [.int .i64 (0)]), (4, [.bool false]), (5, [.int .u8 (0)]), (9, [.string .empty]), (12, [.int .u64 (0)]), (13, [.string .empty, .int .u64 (0)]), (21, [.int .i32 (0)]), (22, [.slice none 0 0]), (24, [.slice none 0 0]), (25, [.slice none 0 0]), (26, [.slice none 0 0, .int .i64 (0), .slice none 0 0, .slice none 0 0, .slice none 0 0, .slice none 0 0, .int .i64 (0), .int .i64 (0), .int .i64 (0), .int .i64 (0)]), (27, [.slice none 0 0, .int .i64 (0), .slice none 0 0, .slice none 0 0, .slice none 0 0, .slice none 0 0, .int .i64 (0), .int .i64 (0), .int .i64 (0), .int .i64 (0)]), (36, [.slice none 0 0]), (39, [.slice none 0 0, .int .i64 (0), .int .i64 (0), .int .i64 (0)]), (40, [.slice none 0 0, .int .i64 (0), .int .i64 (0), .int .i64 (0)]), (50, [.slice none 0 0]), (51, [.slice none 0 0]), (52, [.slice none 0 0, .int .i64 (0), .slice none 0 0, .slice none 0 0, .slice none 0 0, .slice none 0 0, .int .i64 (0), .int .i64 (0), .int .i64 (0), .int .i64 (0)]), (53, [.slice none 0 0, .int .i64 (0), .slice none 0 0, .slice none 0 0, .slice none 0 0, .slice none 0 0, .int .i64 (0), .int .i64 (0), .int .i64 (0), .int .i64 (0)]), (70, [.pointer none]), (77, [.int .i64 (0), .int .i64 (0), .int .i64 (0)]), (78, [.int .i64 (0), .int .i64 (0), .int .i64 (0)]), (81, [.pointer none]), (83, [.slice none 0 0]), (84, [.slice none 0 0]), (105, [.int .i64 (0), .int .i64 (0), .int .i64 (0)]), (108, [.slice none 0 0, .int .i64 (0), .int .i64 (0)]), (109, [.slice none 0 0, .int .i64 (0), .int .i64 (0)]), (115, [.slice none 0 0]), (118, [.slice none 0 0]), (119, [.slice none 0 0]), (123, [.int .u64 (0)]), (134, [.int .u32 (0)]), (138, [.pointer none])]
  pl := [(13, [(0, 1), (1, 1)]), (26, [(0, 1), (1, 1), (2, 1), (3, 1), (4, 1), (5, 1), (6, 1), (7, 1), (8, 1), (9, 1)]), (27, [(0, 1), (1, 1), (2, 1), (3, 1), (4, 1), (5, 1), (6, 1), (7, 1), (8, 1), (9, 1)]), (39, [(0, 1), (1, 1), (2, 1), (3, 1)]), (40, [(0, 1), (1, 1), (2, 1), (3, 1)]), (52, [(0, 1), (1, 1), (2, 1), (3, 1), (4, 1), (5, 1), (6, 1), (7, 1), (8, 1), (9, 1)]), (53, [(0, 1), (1, 1), (2, 1), (3, 1), (4, 1), (5, 1), (6, 1), (7, 1), (8, 1), (9, 1)]), (77, [(0, 1), (1, 1), (2, 1)]), (78, [(0, 1), (1, 1), (2, 1)]), (83, [(0, 1)]), (84, [(0, 1)]), (105, [(0, 1), (1, 1), (2, 1)]), (108, [(0, 1), (1, 1), (2, 1)]), (109, [(0, 1), (1, 1), (2, 1)]), (118, [(0, 1)]), (119, [(0, 1)])]
  sl := [(22, (5, 1, 1)), (24, (78, 3, 24)), (25, (84, 1, 24)), (36, (3, 1, 8)), (50, (105, 3, 24)), (51, (119, 1, 24)), (115, (24, 1, 24))]
  ik := [(2, .i64), (3, .i64), (5, .u8), (12, .u64), (21, .i32), (123, .u64), (134, .u32)]
  str := [9]
  bl := [4]
instance : TabC Go.Proofs.Try.prog tab := ⟨{ ag := zf ag13 (zf ag26 (zf ag27 (zf ag39 (zf ag40 (zf ag52 (zf ag53 (zf ag77 (zf ag78 (zf ag83 (zf ag84 (zf eV (zf eU (zf eT (zf eS (zf eQ (w6)))))))))))))))), sc := zf sc2 (zf sc3 (zf sc4 (zf sc5 (zf sc9 (zf sc12 (zf sc21 (zf sc22 (zf sc24 (zf sc25 (zf sc36 (zf sc50 (zf sc51 (zf sc70 (zf sc81 (zf fr (zf fq (zf fp (zf fm (w6))))))))))))))))))), fd := zf hQ (zf hF (zf j9 (zf j8 (zf j7 (zf jz (zf jy (zf jw (zf jv (zf ju (zf jt (zf js (zf jr (zf jq (zf jp (zf jo (zf jn (zf jm (zf jl (zf jk (zf jj (zf ji (zf jh (zf jg (zf jf (zf je (zf jd (zf jc (zf jb (zf ja (zf jZ (zf jY (zf jX (zf jW (zf jV (zf jU (zf jT (zf jS (zf jR (zf jQ (zf jP (zf jO (zf jN (zf jM (zf jL (zf jK (zf jJ (zf jI (zf jH (zf jG (zf jF (zf jE (zf jD (zf jC (zf jB (zf jA (zf k9 (zf k8 (zf ms (zf mr (zf mq (zf mp (zf mo (zf mn (zf mm (zf mj (zf mi (zf mh (zf mg (w6))))))))))))))))))))))))))))))))))))))))))))))))))))))))))))))))))))), ze := zf ze2 (zf ze3 (zf ze4 (zf ze5 (zf ze9 (zf ze12 (zf ze13 (zf ze21 (zf ze22 (zf ze24 (zf ze25 (zf ze26 (zf ze27 (zf ze36 (zf ze39 (zf ze40 (zf ze50 (zf ze51 (zf ze52 (zf ze53 (zf ze70 (zf ze77 (zf ze78 (zf ze81 (zf ze83 (zf ze84 (zf fg (zf ff (zf fe (zf fc (zf fb (zf fa (zf fZ (zf fY (zf fX (w6))))))))))))))))))))))))))))))))))), pl := zf pl13 (zf pl26 (zf pl27 (zf pl39 (zf pl40 (zf pl52 (zf pl53 (zf pl77 (zf pl78 (zf pl83 (zf pl84 (zf f0 (zf fz (zf fy (zf fx (zf fw (w6)))))))))))))))), sl := zf sl22 (zf sl24 (zf sl25 (zf sl36 (zf sl50 (zf sl51 (zf fk (w6))))))), ik := zf ik2 (zf ik3 (zf ik5 (zf ik12 (zf ik21 (zf eF (zf eE (w6))))))), str := zf str9 (w6), bl := zf bl4 (w6) }, by kernel_rfl⟩
instance : Ent Go.Proofs.Try.prog 3 := zr Go.Proofs.Try.func3 rfl (by decide)
instance : Ent Go.Proofs.Try.prog 4 := zr Go.Proofs.Try.func4 rfl (by decide)
instance : Ent Go.Proofs.Try.prog 5 := zr Go.Proofs.Try.func5 rfl (by decide)
instance : Ent Go.Proofs.Try.prog 6 := zr Go.Proofs.Try.func6 rfl (by decide)
instance : Ent Go.Proofs.Try.prog 7 := zr Go.Proofs.Try.func7 rfl (by decide)
instance : Ent Go.Proofs.Try.prog 8 := zr Go.Proofs.Try.func8 rfl (by decide)
instance : Ent Go.Proofs.Try.prog 9 := zr Go.Proofs.Try.func9 rfl (by decide)
instance : Ent Go.Proofs.Try.prog 10 := zr Go.Proofs.Try.func10 rfl (by decide)
instance : Ent Go.Proofs.Try.prog 11 := zr Go.Proofs.Try.func11 rfl (by decide)
instance : Ent Go.Proofs.Try.prog 12 := zr Go.Proofs.Try.func12 rfl (by decide)
instance : Ent Go.Proofs.Try.prog 13 := zr Go.Proofs.Try.func13 rfl (by decide)
instance : Ent Go.Proofs.Try.prog 14 := zr Go.Proofs.Try.func14 rfl (by decide)
instance : Ent Go.Proofs.Try.prog 15 := zr Go.Proofs.Try.func15 rfl (by decide)
instance : Ent Go.Proofs.Try.prog 16 := zr Go.Proofs.Try.func16 rfl (by decide)
instance : Ent Go.Proofs.Try.prog 17 := zr Go.Proofs.Try.func17 rfl (by decide)
instance : Ent Go.Proofs.Try.prog 18 := zr Go.Proofs.Try.func18 rfl (by decide)
instance : Ent Go.Proofs.Try.prog 19 := zr Go.Proofs.Try.func19 rfl (by decide)
instance : Ent Go.Proofs.Try.prog 20 := zr Go.Proofs.Try.func20 rfl (by decide)
instance : Ent Go.Proofs.Try.prog 21 := zr Go.Proofs.Try.func21 rfl (by decide)
instance : Ent Go.Proofs.Try.prog 22 := zr Go.Proofs.Try.func22 rfl (by decide)
instance : Ent Go.Proofs.Try.prog 23 := zr Go.Proofs.Try.func23 rfl (by decide)
instance : Ent Go.Proofs.Try.prog 24 := zr Go.Proofs.Try.func24 rfl (by decide)
instance : Ent Go.Proofs.Try.prog 25 := zr Go.Proofs.Try.func25 rfl (by decide)
instance : Ent Go.Proofs.Try.prog 26 := zr Go.Proofs.Try.func26 rfl (by decide)
instance : Ent Go.Proofs.Try.prog 27 := zr Go.Proofs.Try.func27 rfl (by decide)
instance : Ent Go.Proofs.Try.prog 28 := zr Go.Proofs.Try.func28 rfl (by decide)
instance : Ent Go.Proofs.Try.prog 29 := zr Go.Proofs.Try.func29 rfl (by decide)
instance : Ent Go.Proofs.Try.prog 30 := zr Go.Proofs.Try.func30 rfl (by decide)
instance : Ent Go.Proofs.Try.prog 31 := zr Go.Proofs.Try.func31 rfl (by decide)
instance : Ent Go.Proofs.Try.prog 32 := zr Go.Proofs.Try.func32 rfl (by decide)
instance : Ent Go.Proofs.Try.prog 33 := zr Go.Proofs.Try.func33 rfl (by decide)
instance : Ent Go.Proofs.Try.prog 34 := zr Go.Proofs.Try.func34 rfl (by decide)
instance : Ent Go.Proofs.Try.prog 35 := zr Go.Proofs.Try.func35 rfl (by decide)
instance : Ent Go.Proofs.Try.prog 36 := zr Go.Proofs.Try.func36 rfl (by decide)
instance : Ent Go.Proofs.Try.prog 37 := zr Go.Proofs.Try.func37 rfl (by decide)
instance : Ent Go.Proofs.Try.prog 38 := zr Go.Proofs.Try.func38 rfl (by decide)
instance : Ent Go.Proofs.Try.prog 39 := zr Go.Proofs.Try.func39 rfl (by decide)
instance : Ent Go.Proofs.Try.prog 40 := zr Go.Proofs.Try.func40 rfl (by decide)
instance : Ent Go.Proofs.Try.prog 41 := zr Go.Proofs.Try.func41 rfl (by decide)
instance : Ent Go.Proofs.Try.prog 42 := zr Go.Proofs.Try.func42 rfl (by decide)
instance : Ent Go.Proofs.Try.prog 43 := zr Go.Proofs.Try.func43 rfl (by decide)
instance : Ent Go.Proofs.Try.prog 44 := zr Go.Proofs.Try.func44 rfl (by decide)
instance : Ent Go.Proofs.Try.prog 45 := zr Go.Proofs.Try.func45 rfl (by decide)
instance : Ent Go.Proofs.Try.prog 46 := zr Go.Proofs.Try.func46 rfl (by decide)
instance : Ent Go.Proofs.Try.prog 47 := zr Go.Proofs.Try.func47 rfl (by decide)
instance : Ent Go.Proofs.Try.prog 48 := zr Go.Proofs.Try.func48 rfl (by decide)
instance : Ent Go.Proofs.Try.prog 49 := zr Go.Proofs.Try.func49 rfl (by decide)
instance : Ent Go.Proofs.Try.prog 50 := zr Go.Proofs.Try.func50 rfl (by decide)
instance : Ent Go.Proofs.Try.prog 51 := zr Go.Proofs.Try.func51 rfl (by decide)
instance : Ent Go.Proofs.Try.prog 52 := zr Go.Proofs.Try.func52 rfl (by decide)
instance : Ent Go.Proofs.Try.prog 53 := zr Go.Proofs.Try.func53 rfl (by decide)
instance : Ent Go.Proofs.Try.prog 54 := zr Go.Proofs.Try.func54 rfl (by decide)
instance : Ent Go.Proofs.Try.prog 55 := zr Go.Proofs.Try.func55 rfl (by decide)
instance : Ent Go.Proofs.Try.prog 56 := zr Go.Proofs.Try.func56 rfl (by decide)
instance : Ent Go.Proofs.Try.prog 57 := zr Go.Proofs.Try.func57 rfl (by decide)
instance : Ent Go.Proofs.Try.prog 58 := zr Go.Proofs.Try.func58 rfl (by decide)
instance : Ent Go.Proofs.Try.prog 59 := zr Go.Proofs.Try.func59 rfl (by decide)
instance : Ent Go.Proofs.Try.prog 60 := zr Go.Proofs.Try.func60 rfl (by decide)
instance : Ent Go.Proofs.Try.prog 61 := zr Go.Proofs.Try.func61 rfl (by decide)
instance : Ent Go.Proofs.Try.prog 62 := zr Go.Proofs.Try.func62 rfl (by decide)
instance : Ent Go.Proofs.Try.prog 63 := zr Go.Proofs.Try.func63 rfl (by decide)
instance : Ent Go.Proofs.Try.prog 64 := zr Go.Proofs.Try.func64 rfl (by decide)
instance : Ent Go.Proofs.Try.prog 65 := zr Go.Proofs.Try.func65 rfl (by decide)
instance : Ent Go.Proofs.Try.prog 66 := zr Go.Proofs.Try.func66 rfl (by decide)
instance : Ent Go.Proofs.Try.prog 67 := zr Go.Proofs.Try.func67 rfl (by decide)
instance : Ent Go.Proofs.Try.prog 68 := zr Go.Proofs.Try.func68 rfl (by decide)
instance : Ent Go.Proofs.Try.prog 69 := zr Go.Proofs.Try.func69 rfl (by decide)
instance : Ent Go.Proofs.Try.prog 70 := zr Go.Proofs.Try.func70 rfl (by decide)
instance : Ent Go.Proofs.Try.prog 71 := zr Go.Proofs.Try.func71 rfl (by decide)
instance : Ent Go.Proofs.Try.prog 72 := zr Go.Proofs.Try.func72 rfl (by decide)
instance : Ent Go.Proofs.Try.prog 73 := zr Go.Proofs.Try.func73 rfl (by decide)
instance : Ent Go.Proofs.Try.prog 74 := zr Go.Proofs.Try.func74 rfl (by decide)
instance : Ent Go.Proofs.Try.prog 75 := zr Go.Proofs.Try.func75 rfl (by decide)
instance : Ent Go.Proofs.Try.prog 76 := zr Go.Proofs.Try.func76 rfl (by decide)
instance : Ent Go.Proofs.Try.prog 77 := zr Go.Proofs.Try.func77 rfl (by decide)
instance : Ent Go.Proofs.Try.prog 78 := zr Go.Proofs.Try.func78 rfl (by decide)
instance : Ent Go.Proofs.Try.prog 79 := zr Go.Proofs.Try.func79 rfl (by decide)
instance : Ent Go.Proofs.Try.prog 80 := zr Go.Proofs.Try.func80 rfl (by decide)
instance : Ent Go.Proofs.Try.prog 81 := zr Go.Proofs.Try.func81 rfl (by decide)
instance : Ent Go.Proofs.Try.prog 82 := zr Go.Proofs.Try.func82 rfl (by decide)
instance : Ent Go.Proofs.Try.prog 83 := zr Go.Proofs.Try.func83 rfl (by decide)
instance : Ent Go.Proofs.Try.prog 84 := zr Go.Proofs.Try.func84 rfl (by decide)
instance : Ent Go.Proofs.Try.prog 85 := zr Go.Proofs.Try.func85 rfl (by decide)
instance : Ent Go.Proofs.Try.prog 86 := zr Go.Proofs.Try.func86 rfl (by decide)
instance : Ent Go.Proofs.Try.prog 87 := zr Go.Proofs.Try.func87 rfl (by decide)
instance : Ent Go.Proofs.Try.prog 88 := zr Go.Proofs.Try.func88 rfl (by decide)
instance : Ent Go.Proofs.Try.prog 89 := zr Go.Proofs.Try.func89 rfl (by decide)
instance : Ent Go.Proofs.Try.prog 90 := zr Go.Proofs.Try.func90 rfl (by decide)
instance : Ent Go.Proofs.Try.prog 91 := zr Go.Proofs.Try.func91 rfl (by decide)
instance : Ent Go.Proofs.Try.prog 92 := zr Go.Proofs.Try.func92 rfl (by decide)
instance : Ent Go.Proofs.Try.prog 93 := zr Go.Proofs.Try.func93 rfl (by decide)
instance : Ent Go.Proofs.Try.prog 94 := zr Go.Proofs.Try.func94 rfl (by decide)
instance : Ent Go.Proofs.Try.prog 95 := zr Go.Proofs.Try.func95 rfl (by decide)
instance : Ent Go.Proofs.Try.prog 96 := zr Go.Proofs.Try.func96 rfl (by decide)
instance : Ent Go.Proofs.Try.prog 97 := zr Go.Proofs.Try.func97 rfl (by decide)
instance : Ent Go.Proofs.Try.prog 98 := zr Go.Proofs.Try.func98 rfl (by decide)
instance : Ent Go.Proofs.Try.prog 99 := zr Go.Proofs.Try.func99 rfl (by decide)
instance : Ent Go.Proofs.Try.prog 100 := zr Go.Proofs.Try.func100 rfl (by decide)
instance : Ent Go.Proofs.Try.prog 101 := zr Go.Proofs.Try.func101 rfl (by decide)
instance : Ent Go.Proofs.Try.prog 102 := zr Go.Proofs.Try.func102 rfl (by decide)
instance : Ent Go.Proofs.Try.prog 103 := zr Go.Proofs.Try.func103 rfl (by decide)
instance : Ent Go.Proofs.Try.prog 104 := zr Go.Proofs.Try.func104 rfl (by decide)
instance : Ent Go.Proofs.Try.prog 105 := zr Go.Proofs.Try.func105 rfl (by decide)
instance : Ent Go.Proofs.Try.prog 106 := zr Go.Proofs.Try.func106 rfl (by decide)
instance : Ent Go.Proofs.Try.prog 107 := zr Go.Proofs.Try.func107 rfl (by decide)
instance : Ent Go.Proofs.Try.prog 108 := zr Go.Proofs.Try.func108 rfl (by decide)
instance : Ent Go.Proofs.Try.prog 109 := zr Go.Proofs.Try.func109 rfl (by decide)
instance : Ent Go.Proofs.Try.prog 110 := zr Go.Proofs.Try.func110 rfl (by decide)
instance : Ent Go.Proofs.Try.prog 111 := zr Go.Proofs.Try.func111 rfl (by decide)
instance : Ent Go.Proofs.Try.prog 112 := zr Go.Proofs.Try.func112 rfl (by decide)
instance : Ent Go.Proofs.Try.prog 113 := zr Go.Proofs.Try.func113 rfl (by decide)
instance : Ent Go.Proofs.Try.prog 114 := zr Go.Proofs.Try.func114 rfl (by decide)
instance : Ent Go.Proofs.Try.prog 115 := zr Go.Proofs.Try.func115 rfl (by decide)
instance : Ent Go.Proofs.Try.prog 116 := zr Go.Proofs.Try.func116 rfl (by decide)
instance : Ent Go.Proofs.Try.prog 117 := zr Go.Proofs.Try.func117 rfl (by decide)
instance : Ent Go.Proofs.Try.prog 118 := zr Go.Proofs.Try.func118 rfl (by decide)
instance : Ent Go.Proofs.Try.prog 119 := zr Go.Proofs.Try.func119 rfl (by decide)
instance : Ent Go.Proofs.Try.prog 120 := zr Go.Proofs.Try.func120 rfl (by decide)
instance : Ent Go.Proofs.Try.prog 121 := zr Go.Proofs.Try.func121 rfl (by decide)
instance : Ent Go.Proofs.Try.prog 122 := zr Go.Proofs.Try.func122 rfl (by decide)
instance : Ent Go.Proofs.Try.prog 123 := zr Go.Proofs.Try.func123 rfl (by decide)
instance : Ent Go.Proofs.Try.prog 124 := zr Go.Proofs.Try.func124 rfl (by decide)
instance : Ent Go.Proofs.Try.prog 125 := zr Go.Proofs.Try.func125 rfl (by decide)
instance : Ent Go.Proofs.Try.prog 126 := zr Go.Proofs.Try.func126 rfl (by decide)
instance : Ent Go.Proofs.Try.prog 127 := zr Go.Proofs.Try.func127 rfl (by decide)
instance : Ent Go.Proofs.Try.prog 128 := zr Go.Proofs.Try.func128 rfl (by decide)
instance : Ent Go.Proofs.Try.prog 129 := zr Go.Proofs.Try.func129 rfl (by decide)
instance : Ent Go.Proofs.Try.prog 130 := zr Go.Proofs.Try.func130 rfl (by decide)
instance : Ent Go.Proofs.Try.prog 131 := zr Go.Proofs.Try.func131 rfl (by decide)
instance : Ent Go.Proofs.Try.prog 132 := zr Go.Proofs.Try.func132 rfl (by decide)
instance : Ent Go.Proofs.Try.prog 133 := zr Go.Proofs.Try.func133 rfl (by decide)
end Go.Proofs.Ytojcojanokhnaaa.Ab
namespace Go.Proofs.Ytojcojanokhnaaa.Ab
open Go.RowKit
structure Rw where
  a : Int
  b : Int
  c : Int
def rwE (r : Rw) : List V := [I r.a, I r.b, I r.c]
def rwT : Ty Rw := ⟨3, rwE, fun _ => rfl, by decide, fun r c hc => by
  simp only [rwE, List.mem_cons, List.not_mem_nil, or_false] at hc
  rcases hc with rfl | rfl | rfl <;> exact ⟨rfl, rfl⟩⟩
abbrev rwL (xs : List Rw) : V := vF rwT xs
abbrev rwR (xs : List Rw) : Reg := yo rwT 78 xs
def szL (n : Nat) (left : Int) : Int := cond (decide (IntKind.i64.wrap (left - n) < 0)) (-1) (IntKind.i64.wrap (left - n))
theorem tK (xs : List Rw) (left : Int) : zx Go.Proofs.Try.prog 40 [rwL xs, I left] [] (I (szL xs.length left)) [] false := by
  refine zu [4] Go.Proofs.Try.func40 rfl rfl ?_
  simp only [Go.Proofs.Try.ntmps40, List.length_cons, List.length_nil, Nat.reduceAdd, Nat.reduceSub, List.replicate_succ, List.replicate_zero, List.cons_append, List.nil_append]
  repeat' first | refine zL ?_ | refine zA ?_ | refine zQ [] ?_ | (refine isA ?_; refine zg rfl ?_) | (refine isL ?_; refine zW rfl (by kernel_rfl) rfl rfl ?_) | (refine zd rfl ?_; refine zV rfl (by kernel_rfl) rfl rfl ?_) | refine zj rfl (fun _ => ?_) (fun _ => ?_) | (refine yD rfl rfl ?_; simp only [szL, *, cond_true, cond_false]; done) | refine zD ?_ | refine zB _ rfl (by kernel_rfl) ?_ | refine zX rfl ?_ | refine zY rfl ?_ | refine zC ?_ | with_reducible refine zO ?_ | refine zI ?_ | refine zJ ?_ | (with_reducible first | refine zM ?_ | refine zN ?_ | refine zF ?_ | refine zH ?_ | refine zG ?_) | refine zP ?_
theorem sA (c : Rw) : zx Go.Proofs.Try.prog 106 [.agg (rwE c)] [] (.agg (rwE c)) [] true := by
  refine xU 2 78 Go.Proofs.Try.func106 rfl rfl ?_
  simp only [Go.Proofs.Try.ntmps106, List.length_cons, List.length_nil, Nat.reduceAdd, Nat.reduceSub, List.replicate_succ, List.replicate_zero, List.cons_append, List.nil_append]
  repeat' first | refine zL ?_ | refine zA ?_ | refine zQ [] ?_ | (refine isA ?_; refine zg rfl ?_) | (refine isL ?_; refine zW rfl (by kernel_rfl) rfl rfl ?_) | (refine zd rfl ?_; refine zV rfl (by kernel_rfl) rfl rfl ?_) | exact dB (yP rfl rfl rfl rfl rfl) (.same rfl) | refine zD ?_ | refine zB _ rfl (by kernel_rfl) ?_ | refine zX rfl ?_ | refine zY rfl ?_ | refine zC ?_ | with_reducible refine zO ?_ | refine zI ?_ | refine zJ ?_ | (with_reducible first | refine zM ?_ | refine zN ?_ | refine zF ?_ | refine zH ?_ | refine zG ?_) | refine zP ?_
def z3 : Rw := ⟨0, 0, 0⟩
theorem wB (xs : List Rw) (hl : xs.length ≤ 1000000000) : zx Go.Proofs.Try.prog 41 [rwL xs] [] (rwL xs) [] true := by
  refine zu [2] Go.Proofs.Try.func41 rfl rfl ?_
  simp only [Go.Proofs.Try.ntmps41, List.length_cons, List.length_nil, Nat.reduceAdd, Nat.reduceSub, List.replicate_succ, List.replicate_zero, List.cons_append, List.nil_append]
  repeat' first | refine zL ?_ | refine zA ?_ | refine zQ [] ?_ | (refine isA ?_; refine zg rfl ?_) | (refine isL ?_; refine zW rfl (by kernel_rfl) rfl rfl ?_) | (refine zd rfl ?_; refine zV rfl (by kernel_rfl) rfl rfl ?_) | refine za rfl (fD rwT z3 rfl rfl rfl hl rfl rfl rfl) rfl ?_ | refine zT rfl (by kernel_rfl) rfl (fD rwT z3 rfl rfl rfl hl rfl rfl rfl) rfl ?_ | refine zD ?_ | refine zB _ rfl (by kernel_rfl) ?_ | refine zX rfl ?_ | refine zY rfl ?_ | refine zC ?_ | with_reducible refine zO ?_ | refine zI ?_ | refine zJ ?_ | (with_reducible first | refine zM ?_ | refine zN ?_ | refine zF ?_ | refine zH ?_ | refine zG ?_) | refine zP ?_
  refine z5 (α := { i : Nat // i ≤ xs.length }) (fun i => ⟨[rwL xs, .any, .any, .sl 0 0 xs.length, I i.1, .any, .any, .any, .any, .any, .any, .any, .any, .any, .any, .any, .any, .any, .any, .any, .any, .any, .any], [yo rwT 78 (xs.take i.1 ++ List.replicate (xs.length - i.1) z3)], 0⟩) (fun i => xs.length - i.1) ⟨0, Nat.zero_le _⟩ ?_ ?_
  · exact yX [0] rfl rfl (by decide) (.cons rfl rfl rfl rfl (zU (zE _ _)) .nil) (by repeat' first | exact zk | refine zc ?_ ?_ | exact zo | exact le_refl rfl | exact zm rfl rfl | exact zt rfl)
  · rintro ⟨i, hi⟩
    repeat' first | refine zL ?_ | refine zA ?_ | refine zQ [] ?_ | (refine isA ?_; refine zg rfl ?_) | (refine isL ?_; refine zW rfl (by kernel_rfl) rfl rfl ?_) | (refine zd rfl ?_; refine zV rfl (by kernel_rfl) rfl rfl ?_) | refine zD ?_ | refine zB _ rfl (by kernel_rfl) ?_ | refine zX rfl ?_ | refine zY rfl ?_ | refine zC ?_ | with_reducible refine zO ?_ | refine zI ?_ | refine zJ ?_ | (with_reducible first | refine zM ?_ | refine zN ?_ | refine zF ?_ | refine zH ?_ | refine zG ?_) | refine zP ?_
    refine zj rfl (fun h => ?_) (fun h => ?_)
    · have hlt : i < xs.length := by simpa using h
      obtain ⟨z, hz⟩ : ∃ z, xs[i]? = some z := ⟨_, List.getElem?_eq_getElem hlt⟩
      repeat' first | refine zL ?_ | refine zA ?_ | refine zQ [] ?_ | (refine isA ?_; refine zg rfl ?_) | (refine isL ?_; refine zW rfl (by kernel_rfl) rfl rfl ?_) | (refine zd rfl ?_; refine zV rfl (by kernel_rfl) rfl rfl ?_) | refine za rfl (zz (z := z) rfl rfl rfl rfl (Int.natCast_nonneg _) hz) rfl ?_ | refine zT rfl (by kernel_rfl) rfl (zz (z := z) rfl rfl rfl rfl (Int.natCast_nonneg _) hz) rfl ?_ | refine za rfl (zK rfl (sA _) (.cons (.same rfl) .nil) rfl) rfl ?_ | refine zT rfl (by kernel_rfl) rfl (zK rfl (sA _) (.cons (.same rfl) .nil) rfl) rfl ?_ | refine za rfl (zn rfl rfl rfl (Nat.zero_le _) rfl rfl (Int.natCast_nonneg _) (by simpa using hlt)) rfl ?_ | refine zT rfl (by kernel_rfl) rfl (zn rfl rfl rfl (Nat.zero_le _) rfl rfl (Int.natCast_nonneg _) (by simpa using hlt)) rfl ?_ | refine za rfl (vo rfl rfl rfl rfl rfl (by simp; omega)) rfl ?_ | refine zT rfl (by kernel_rfl) rfl (vo rfl rfl rfl rfl rfl (by simp; omega)) rfl ?_ | refine zD ?_ | refine zB _ rfl (by kernel_rfl) ?_ | refine zX rfl ?_ | refine zY rfl ?_ | refine zC ?_ | with_reducible refine zO ?_ | refine zI ?_ | refine zJ ?_ | (with_reducible first | refine zM ?_ | refine zN ?_ | refine zF ?_ | refine zH ?_ | refine zG ?_) | refine zP ?_
      refine ⟨⟨i + 1, hlt⟩, by simp only; omega, ?_⟩
      exact yX [0] rfl rfl (by decide) (.cons rfl rfl rfl rfl (yh (by rw [Nat.zero_add]; exact congrArg rwT.flat (qJ (xs := xs) hz rfl)) (zE _ _)) .nil) (by repeat' first | exact zk | refine zc ?_ ?_ | exact zo | exact le_refl rfl | exact zm rfl rfl | exact zt rfl | exact xa (by assumption) (by omega))
    · have hge : i = xs.length := by
        have : ¬ ((i : Int) < xs.length) := by simpa using h
        omega
      subst hge
      repeat' first | refine zL ?_ | refine zA ?_ | refine zQ [] ?_ | (refine isA ?_; refine zg rfl ?_) | (refine isL ?_; refine zW rfl (by kernel_rfl) rfl rfl ?_) | (refine zd rfl ?_; refine zV rfl (by kernel_rfl) rfl rfl ?_) | exact kx rfl (pY rfl rfl (by simp) rfl) | refine zD ?_ | refine zB _ rfl (by kernel_rfl) ?_ | refine zX rfl ?_ | refine zY rfl ?_ | refine zC ?_ | with_reducible refine zO ?_ | refine zI ?_ | refine zJ ?_ | (with_reducible first | refine zM ?_ | refine zN ?_ | refine zF ?_ | refine zH ?_ | refine zG ?_) | refine zP ?_
def eqC (x y : Rw) : Bool := bif !(decide (x.a = y.a)) then false else bif !(decide (x.b = y.b)) then false else bif !(decide (x.c = y.c)) then false else true
theorem gB (x : Rw) : eqC x x = true := by simp [eqC]
theorem fS (x y : Rw) : zx Go.Proofs.Try.prog 107 [.agg (rwE x), .agg (rwE y)] [] (B (eqC x y)) [] false := by
  refine zu [4] Go.Proofs.Try.func107 rfl rfl ?_
  simp only [Go.Proofs.Try.ntmps107, List.length_cons, List.length_nil, Nat.reduceAdd, Nat.reduceSub, List.replicate_succ, List.replicate_zero, List.cons_append, List.nil_append]
  repeat' first | refine zL ?_ | refine zA ?_ | refine zQ [] ?_ | (refine isA ?_; refine zg rfl ?_) | (refine isL ?_; refine zW rfl (by kernel_rfl) rfl rfl ?_) | (refine zd rfl ?_; refine zV rfl (by kernel_rfl) rfl rfl ?_) | refine zj rfl (fun _ => ?_) (fun _ => ?_) | (refine yD rfl rfl ?_; simp only [eqC, *, cond_true, cond_false]; done) | refine zD ?_ | refine zB _ rfl (by kernel_rfl) ?_ | refine zX rfl ?_ | refine zY rfl ?_ | refine zC ?_ | with_reducible refine zO ?_ | refine zI ?_ | refine zJ ?_ | (with_reducible first | refine zM ?_ | refine zN ?_ | refine zF ?_ | refine zH ?_ | refine zG ?_) | refine zP ?_
def eqL : List Rw → List Rw → Bool
  | [], [] => true
  | x :: xs, y :: ys => eqC x y && eqL xs ys
  | _, _ => false
theorem nM (x : Rw) : zx Go.Proofs.Try.prog 107 [.agg (rwE x), .agg (rwE x)] [] (B true) [] false := by
  have := fS x x
  rwa [gB] at this
theorem xd (xs : List Rw) (hl : xs.length ≤ 1000000000) : zx Go.Proofs.Try.prog 44 [rwL xs, rwL xs] [] (B true) [] false := by
  refine zu [4] Go.Proofs.Try.func44 rfl rfl ?_
  simp only [Go.Proofs.Try.ntmps44, List.length_cons, List.length_nil, Nat.reduceAdd, Nat.reduceSub, List.replicate_succ, List.replicate_zero, List.cons_append, List.nil_append]
  repeat' first | refine zL ?_ | refine zA ?_ | refine zQ [] ?_ | (refine isA ?_; refine zg rfl ?_) | (refine isL ?_; refine zW rfl (by kernel_rfl) rfl rfl ?_) | (refine zd rfl ?_; refine zV rfl (by kernel_rfl) rfl rfl ?_) | refine zD ?_ | refine zB _ rfl (by kernel_rfl) ?_ | refine zX rfl ?_ | refine zY rfl ?_ | refine zC ?_ | with_reducible refine zO ?_ | refine zI ?_ | refine zJ ?_ | (with_reducible first | refine zM ?_ | refine zN ?_ | refine zF ?_ | refine zH ?_ | refine zG ?_) | refine zP ?_
  refine zj rfl (fun h => by simp at h) (fun _ => ?_)
  repeat' first | refine zL ?_ | refine zA ?_ | refine zQ [] ?_ | (refine isA ?_; refine zg rfl ?_) | (refine isL ?_; refine zW rfl (by kernel_rfl) rfl rfl ?_) | (refine zd rfl ?_; refine zV rfl (by kernel_rfl) rfl rfl ?_) | refine zD ?_ | refine zB _ rfl (by kernel_rfl) ?_ | refine zX rfl ?_ | refine zY rfl ?_ | refine zC ?_ | with_reducible refine zO ?_ | refine zI ?_ | refine zJ ?_ | (with_reducible first | refine zM ?_ | refine zN ?_ | refine zF ?_ | refine zH ?_ | refine zG ?_) | refine zP ?_
  refine z5 (α := { i : Nat // i ≤ xs.length }) (fun i => ⟨[rwL xs, rwL xs, .any, .any, .any, I i.1, .any, .any, .any, .any, .any, .any, .any, .any, .any, .any, .any, .any, .any, .any, .any, .any, .any, .any, .any, .any, .any], [], 0⟩) (fun i => xs.length - i.1) ⟨0, Nat.zero_le _⟩ ?_ ?_
  · exact yX [] rfl rfl (by decide) .nil (by repeat' first | exact zk | refine zc ?_ ?_ | exact zo | exact le_refl rfl | exact zm rfl rfl | exact zt rfl)
  · rintro ⟨i, hi⟩
    repeat' first | refine zL ?_ | refine zA ?_ | refine zQ [] ?_ | (refine isA ?_; refine zg rfl ?_) | (refine isL ?_; refine zW rfl (by kernel_rfl) rfl rfl ?_) | (refine zd rfl ?_; refine zV rfl (by kernel_rfl) rfl rfl ?_) | refine zD ?_ | refine zB _ rfl (by kernel_rfl) ?_ | refine zX rfl ?_ | refine zY rfl ?_ | refine zC ?_ | with_reducible refine zO ?_ | refine zI ?_ | refine zJ ?_ | (with_reducible first | refine zM ?_ | refine zN ?_ | refine zF ?_ | refine zH ?_ | refine zG ?_) | refine zP ?_
    refine zj rfl (fun h => ?_) (fun h => ?_)
    · have hlt : i < xs.length := by simpa using h
      obtain ⟨z, hz⟩ : ∃ z, xs[i]? = some z := ⟨_, List.getElem?_eq_getElem hlt⟩
      repeat' first | refine zL ?_ | refine zA ?_ | refine zQ [] ?_ | (refine isA ?_; refine zg rfl ?_) | (refine isL ?_; refine zW rfl (by kernel_rfl) rfl rfl ?_) | (refine zd rfl ?_; refine zV rfl (by kernel_rfl) rfl rfl ?_) | refine za rfl (zz (z := z) rfl rfl rfl rfl (Int.natCast_nonneg _) hz) rfl ?_ | refine zT rfl (by kernel_rfl) rfl (zz (z := z) rfl rfl rfl rfl (Int.natCast_nonneg _) hz) rfl ?_ | refine za rfl (zK rfl (nM _) (.cons (.same rfl) (.cons (.same rfl) .nil)) rfl) rfl ?_ | refine zT rfl (by kernel_rfl) rfl (zK rfl (nM _) (.cons (.same rfl) (.cons (.same rfl) .nil)) rfl) rfl ?_ | refine zD ?_ | refine zB _ rfl (by kernel_rfl) ?_ | refine zX rfl ?_ | refine zY rfl ?_ | refine zC ?_ | with_reducible refine zO ?_ | refine zI ?_ | refine zJ ?_ | (with_reducible first | refine zM ?_ | refine zN ?_ | refine zF ?_ | refine zH ?_ | refine zG ?_) | refine zP ?_
      refine ⟨⟨i + 1, hlt⟩, by simp only; omega, ?_⟩
      exact yX [] rfl rfl (by decide) .nil (by repeat' first | exact zk | refine zc ?_ ?_ | exact zo | exact le_refl rfl | exact zm rfl rfl | exact zt rfl | exact xa (by assumption) (by omega))
    · repeat' first | refine zL ?_ | refine zA ?_ | refine zQ [] ?_ | (refine isA ?_; refine zg rfl ?_) | (refine isL ?_; refine zW rfl (by kernel_rfl) rfl rfl ?_) | (refine zd rfl ?_; refine zV rfl (by kernel_rfl) rfl rfl ?_) | exact yD rfl rfl rfl | refine zD ?_ | refine zB _ rfl (by kernel_rfl) ?_ | refine zX rfl ?_ | refine zY rfl ?_ | refine zC ?_ | with_reducible refine zO ?_ | refine zI ?_ | refine zJ ?_ | (with_reducible first | refine zM ?_ | refine zN ?_ | refine zF ?_ | refine zH ?_ | refine zG ?_) | refine zP ?_
theorem wE (xs : List Rw) : qQ (rwT.flat xs) := fun c hc => by
  simp only [Ty.flat, List.mem_flatMap] at hc
  obtain ⟨x, _, hx⟩ := hc
  simp only [rwT, rwE, List.mem_cons, List.not_mem_nil, or_false] at hx
  rcases hx with rfl | rfl | rfl <;> exact ⟨_, rfl⟩
theorem xg (xs : List Rw) (hl : xs.length ≤ 1000000000) : zx Go.Proofs.Try.prog 41 [rwL xs] [] (.sl 0 0 xs.length) [yo rwT 78 xs] true := by
  refine zu [2] Go.Proofs.Try.func41 rfl rfl ?_
  simp only [Go.Proofs.Try.ntmps41, List.length_cons, List.length_nil, Nat.reduceAdd, Nat.reduceSub, List.replicate_succ, List.replicate_zero, List.cons_append, List.nil_append]
  repeat' first | refine zL ?_ | refine zA ?_ | refine zQ [] ?_ | (refine isA ?_; refine zg rfl ?_) | (refine isL ?_; refine zW rfl (by kernel_rfl) rfl rfl ?_) | (refine zd rfl ?_; refine zV rfl (by kernel_rfl) rfl rfl ?_) | refine za rfl (fD rwT z3 rfl rfl rfl hl rfl rfl rfl) rfl ?_ | refine zT rfl (by kernel_rfl) rfl (fD rwT z3 rfl rfl rfl hl rfl rfl rfl) rfl ?_ | refine zD ?_ | refine zB _ rfl (by kernel_rfl) ?_ | refine zX rfl ?_ | refine zY rfl ?_ | refine zC ?_ | with_reducible refine zO ?_ | refine zI ?_ | refine zJ ?_ | (with_reducible first | refine zM ?_ | refine zN ?_ | refine zF ?_ | refine zH ?_ | refine zG ?_) | refine zP ?_
  refine z5 (α := { i : Nat // i ≤ xs.length }) (fun i => ⟨[rwL xs, .any, .any, .sl 0 0 xs.length, I i.1, .any, .any, .any, .any, .any, .any, .any, .any, .any, .any, .any, .any, .any, .any, .any, .any, .any, .any], [yo rwT 78 (xs.take i.1 ++ List.replicate (xs.length - i.1) z3)], 0⟩) (fun i => xs.length - i.1) ⟨0, Nat.zero_le _⟩ ?_ ?_
  · exact yX [0] rfl rfl (by decide) (.cons rfl rfl rfl rfl (zU (zE _ _)) .nil) (by repeat' first | exact zk | refine zc ?_ ?_ | exact zo | exact le_refl rfl | exact zm rfl rfl | exact zt rfl)
  · rintro ⟨i, hi⟩
    repeat' first | refine zL ?_ | refine zA ?_ | refine zQ [] ?_ | (refine isA ?_; refine zg rfl ?_) | (refine isL ?_; refine zW rfl (by kernel_rfl) rfl rfl ?_) | (refine zd rfl ?_; refine zV rfl (by kernel_rfl) rfl rfl ?_) | refine zD ?_ | refine zB _ rfl (by kernel_rfl) ?_ | refine zX rfl ?_ | refine zY rfl ?_ | refine zC ?_ | with_reducible refine zO ?_ | refine zI ?_ | refine zJ ?_ | (with_reducible first | refine zM ?_ | refine zN ?_ | refine zF ?_ | refine zH ?_ | refine zG ?_) | refine zP ?_
    refine zj rfl (fun h => ?_) (fun h => ?_)
    · have hlt : i < xs.length := by simpa using h
      obtain ⟨z, hz⟩ : ∃ z, xs[i]? = some z := ⟨_, List.getElem?_eq_getElem hlt⟩
      repeat' first | refine zL ?_ | refine zA ?_ | refine zQ [] ?_ | (refine isA ?_; refine zg rfl ?_) | (refine isL ?_; refine zW rfl (by kernel_rfl) rfl rfl ?_) | (refine zd rfl ?_; refine zV rfl (by kernel_rfl) rfl rfl ?_) | refine za rfl (zz (z := z) rfl rfl rfl rfl (Int.natCast_nonneg _) hz) rfl ?_ | refine zT rfl (by kernel_rfl) rfl (zz (z := z) rfl rfl rfl rfl (Int.natCast_nonneg _) hz) rfl ?_ | refine za rfl (zK rfl (sA _) (.cons (.same rfl) .nil) rfl) rfl ?_ | refine zT rfl (by kernel_rfl) rfl (zK rfl (sA _) (.cons (.same rfl) .nil) rfl) rfl ?_ | refine za rfl (zn rfl rfl rfl (Nat.zero_le _) rfl rfl (Int.natCast_nonneg _) (by simpa using hlt)) rfl ?_ | refine zT rfl (by kernel_rfl) rfl (zn rfl rfl rfl (Nat.zero_le _) rfl rfl (Int.natCast_nonneg _) (by simpa using hlt)) rfl ?_ | refine za rfl (vo rfl rfl rfl rfl rfl (by simp; omega)) rfl ?_ | refine zT rfl (by kernel_rfl) rfl (vo rfl rfl rfl rfl rfl (by simp; omega)) rfl ?_ | refine zD ?_ | refine zB _ rfl (by kernel_rfl) ?_ | refine zX rfl ?_ | refine zY rfl ?_ | refine zC ?_ | with_reducible refine zO ?_ | refine zI ?_ | refine zJ ?_ | (with_reducible first | refine zM ?_ | refine zN ?_ | refine zF ?_ | refine zH ?_ | refine zG ?_) | refine zP ?_
      refine ⟨⟨i + 1, hlt⟩, by simp only; omega, ?_⟩
      exact yX [0] rfl rfl (by decide) (.cons rfl rfl rfl rfl (yh (by rw [Nat.zero_add]; exact congrArg rwT.flat (qJ (xs := xs) hz rfl)) (zE _ _)) .nil) (by repeat' first | exact zk | refine zc ?_ ?_ | exact zo | exact le_refl rfl | exact zm rfl rfl | exact zt rfl | exact xa (by assumption) (by omega))
    · have hge : i = xs.length := by
        have : ¬ ((i : Int) < xs.length) := by simpa using h
        omega
      subst hge
      repeat' first | refine zL ?_ | refine zA ?_ | refine zQ [] ?_ | (refine isA ?_; refine zg rfl ?_) | (refine isL ?_; refine zW rfl (by kernel_rfl) rfl rfl ?_) | (refine zd rfl ?_; refine zV rfl (by kernel_rfl) rfl rfl ?_) | exact dA 0 [0] (fun i hi => absurd hi (Nat.not_lt_zero _)) (by decide) rfl (zm rfl rfl) (.cons rfl rfl rfl rfl (yh (by simp) (zE _ _)) .nil) | refine zD ?_ | refine zB _ rfl (by kernel_rfl) ?_ | refine zX rfl ?_ | refine zY rfl ?_ | refine zC ?_ | with_reducible refine zO ?_ | refine zI ?_ | refine zJ ?_ | (with_reducible first | refine zM ?_ | refine zN ?_ | refine zF ?_ | refine zH ?_ | refine zG ?_) | refine zP ?_
def kk (k : Int) : Nat → Int
  | 0 => k
  | n + 1 => IntKind.i64.wrap (kk k n + 1)
theorem nr {k : Int} (h0 : 0 ≤ k) (h1 : k ≤ 1000000000000) : ∀ {n : Nat}, n ≤ 1000000000000 → kk k n = k + n
  | 0, _ => by simp [kk]
  | n + 1, hn => by rw [kk, nr h0 h1 (by omega), IntKind.wrap_i64]; omega
theorem fC {α : Type} {g : Nat → α} {xs : List α} {i : Nat} (h : i < xs.length) : ((List.range i).map g ++ xs.drop i).set i (g i) = (List.range (i + 1)).map g ++ xs.drop (i + 1) := by
  rw [List.set_append_right _ _ (by simp), List.length_map, List.length_range, Nat.sub_self, List.drop_eq_getElem_cons h, List.set_cons_zero, List.range_succ, List.map_append, List.append_assoc]
  rfl
def uh (k : Int) (j : Nat) : Rw := ⟨kk k (3 * j), kk k (3 * j + 1), kk k (3 * j + 2)⟩
def mkC (k : Int) (xs : List Rw) (i : Nat) : List Rw := (List.range i).map (uh k) ++ xs.drop i
theorem ye (k : Int) {xs : List Rw} {i : Nat} (h : i ≤ xs.length) : (mkC k xs i).length = xs.length := by simp [mkC]; omega
theorem xQ (xs : List Rw) (k : Int) (hl : xs.length ≤ 1000000000) : zx Go.Proofs.Try.prog 46 [.sl 0 0 xs.length, I k] [yo rwT 78 xs] (I (kk k (3 * xs.length))) [yo rwT 78 (mkC k xs xs.length)] true := by
  refine zu [4] Go.Proofs.Try.func46 rfl rfl ?_
  simp only [Go.Proofs.Try.ntmps46, List.length_cons, List.length_nil, Nat.reduceAdd, Nat.reduceSub, List.replicate_succ, List.replicate_zero, List.cons_append, List.nil_append]
  repeat' first | refine zL ?_ | refine zA ?_ | refine zQ [] ?_ | (refine isA ?_; refine zg rfl ?_) | (refine isL ?_; refine zW rfl (by kernel_rfl) rfl rfl ?_) | (refine zd rfl ?_; refine zV rfl (by kernel_rfl) rfl rfl ?_) | refine zD ?_ | refine zB _ rfl (by kernel_rfl) ?_ | refine zX rfl ?_ | refine zY rfl ?_ | refine zC ?_ | with_reducible refine zO ?_ | refine zI ?_ | refine zJ ?_ | (with_reducible first | refine zM ?_ | refine zN ?_ | refine zF ?_ | refine zH ?_ | refine zG ?_) | refine zP ?_
  refine z5 (α := { i : Nat // i ≤ xs.length }) (fun i => ⟨[.sl 0 0 xs.length, I (kk k (3 * i.1)), .any, .any, .any, I i.1, .any, .any, .any, .any, .any, .any, .any, .any, .any, .any, .any, .any, .any, .any, .any, .any, .any, .any, .any, .any, .any, .any, .any, .any, .any, .any, .any, .any], [yo rwT 78 (mkC k xs i.1)], 1⟩) (fun i => xs.length - i.1) ⟨0, Nat.zero_le _⟩ ?_ ?_
  · exact xT 1 [0] rfl rfl yw (by decide) (.cons rfl rfl rfl rfl (zU (zE _ _)) .nil) (by repeat' first | exact zk | refine zc ?_ ?_ | exact zo | exact le_refl rfl | exact zm rfl rfl | exact zt rfl)
  · rintro ⟨i, hi⟩
    have hgl := ye k hi
    repeat' first | refine zL ?_ | refine zA ?_ | refine zQ [] ?_ | (refine isA ?_; refine zg rfl ?_) | (refine isL ?_; refine zW rfl (by kernel_rfl) rfl rfl ?_) | (refine zd rfl ?_; refine zV rfl (by kernel_rfl) rfl rfl ?_) | refine zD ?_ | refine zB _ rfl (by kernel_rfl) ?_ | refine zX rfl ?_ | refine zY rfl ?_ | refine zC ?_ | with_reducible refine zO ?_ | refine zI ?_ | refine zJ ?_ | (with_reducible first | refine zM ?_ | refine zN ?_ | refine zF ?_ | refine zH ?_ | refine zG ?_) | refine zP ?_
    refine zj rfl (fun h => ?_) (fun h => ?_)
    · have hlt : i < xs.length := by simpa using h
      obtain ⟨z, hz⟩ : ∃ z, (mkC k xs i)[0 + i]? = some z := ⟨_, List.getElem?_eq_getElem (by rw [hgl]; omega)⟩
      have hlt' : 0 + i < (mkC k xs i).length := by rw [hgl]; omega
      have hz1 : ((mkC k xs i).set (0 + i) ⟨kk k (3 * i), z.b, z.c⟩)[0 + i]? = some ⟨kk k (3 * i), z.b, z.c⟩ := List.getElem?_set_self hlt'
      have hz2 : (((mkC k xs i).set (0 + i) ⟨kk k (3 * i), z.b, z.c⟩).set (0 + i) ⟨kk k (3 * i), kk k (3 * i + 1), z.c⟩)[0 + i]? = some ⟨kk k (3 * i), kk k (3 * i + 1), z.c⟩ := List.getElem?_set_self (by rw [List.length_set]; exact hlt')
      repeat' first | refine zL ?_ | refine zA ?_ | refine zQ [] ?_ | (refine isA ?_; refine zg rfl ?_) | (refine isL ?_; refine zW rfl (by kernel_rfl) rfl rfl ?_) | (refine zd rfl ?_; refine zV rfl (by kernel_rfl) rfl rfl ?_) | (refine z7 ?_; refine za rfl (zn (j := i) rfl rfl rfl (Nat.zero_le _) rfl rfl (Int.natCast_nonneg i) (by omega)) rfl ?_) | (refine z6 rfl ?_; refine zT rfl (by kernel_rfl) rfl (zn (j := i) rfl rfl rfl (Nat.zero_le _) rfl rfl (Int.natCast_nonneg i) (by omega)) rfl ?_) | (refine vK (x := .tmp 16) ?_; refine za rfl (s8 (T := rwT) (i := 0 + i) (off := 0) (z := z) (z' := ⟨kk k (3 * i), z.b, z.c⟩) rfl rfl rfl rfl (by decide) rfl hz rfl) rfl ?_) | (refine vJ (x := .tmp 16) rfl ?_; refine zT rfl (by kernel_rfl) rfl (s8 (T := rwT) (i := 0 + i) (off := 0) (z := z) (z' := ⟨kk k (3 * i), z.b, z.c⟩) rfl rfl rfl rfl (by decide) rfl hz rfl) rfl ?_) | (refine vK (x := .tmp 23) ?_; refine za rfl (s8 (T := rwT) (i := 0 + i) (off := 1) (z := ⟨kk k (3 * i), z.b, z.c⟩) (z' := ⟨kk k (3 * i), kk k (3 * i + 1), z.c⟩) rfl rfl rfl rfl (by decide) rfl hz1 rfl) rfl ?_) | (refine vJ (x := .tmp 23) rfl ?_; refine zT rfl (by kernel_rfl) rfl (s8 (T := rwT) (i := 0 + i) (off := 1) (z := ⟨kk k (3 * i), z.b, z.c⟩) (z' := ⟨kk k (3 * i), kk k (3 * i + 1), z.c⟩) rfl rfl rfl rfl (by decide) rfl hz1 rfl) rfl ?_) | (refine vK (x := .tmp 30) ?_; refine za rfl (s8 (T := rwT) (i := 0 + i) (off := 2) (z := ⟨kk k (3 * i), kk k (3 * i + 1), z.c⟩) (z' := uh k i) rfl rfl rfl rfl (by decide) rfl hz2 rfl) rfl ?_) | (refine vJ (x := .tmp 30) rfl ?_; refine zT rfl (by kernel_rfl) rfl (s8 (T := rwT) (i := 0 + i) (off := 2) (z := ⟨kk k (3 * i), kk k (3 * i + 1), z.c⟩) (z' := uh k i) rfl rfl rfl rfl (by decide) rfl hz2 rfl) rfl ?_) | refine zD ?_ | refine zB _ rfl (by kernel_rfl) ?_ | refine zX rfl ?_ | refine zY rfl ?_ | refine zC ?_ | with_reducible refine zO ?_ | refine zI ?_ | refine zJ ?_ | (with_reducible first | refine zM ?_ | refine zN ?_ | refine zF ?_ | refine zH ?_ | refine zG ?_) | refine zP ?_
      refine ⟨⟨i + 1, hlt⟩, by simp only; omega, ?_⟩
      exact xT 1 [0] rfl rfl yw (by decide) (.cons rfl rfl rfl rfl (yh (by rw [Nat.zero_add]; show rwT.flat (((List.set _ i _).set i _).set i _) = _; rw [List.set_set, List.set_set]; exact congrArg rwT.flat (fC (g := uh k) hlt)) (zE _ _)) .nil) (by repeat' first | exact zk | refine zc ?_ ?_ | exact zo | exact le_refl rfl | exact zm rfl rfl | exact zt rfl | exact xa (by assumption) (by omega))
    · have hge : i = xs.length := by
        have : ¬ ((i : Int) < xs.length) := by simpa using h
        omega
      subst hge
      repeat' first | refine zL ?_ | refine zA ?_ | refine zQ [] ?_ | (refine isA ?_; refine zg rfl ?_) | (refine isL ?_; refine zW rfl (by kernel_rfl) rfl rfl ?_) | (refine zd rfl ?_; refine zV rfl (by kernel_rfl) rfl rfl ?_) | exact dA 1 [0] yw (by decide) rfl (le_refl rfl) (.cons rfl rfl rfl rfl (zU (zE _ _)) .nil) | refine zD ?_ | refine zB _ rfl (by kernel_rfl) ?_ | refine zX rfl ?_ | refine zY rfl ?_ | refine zC ?_ | with_reducible refine zO ?_ | refine zI ?_ | refine zJ ?_ | (with_reducible first | refine zM ?_ | refine zN ?_ | refine zF ?_ | refine zH ?_ | refine zG ?_) | refine zP ?_
theorem ui {k : Int} {xs : List Rw} : ∀ (i : Nat) (x : Rw), (mkC k xs xs.length)[i]? = some x → x = uh k i := fun i x h => by
  unfold mkC at h
  rw [List.drop_length, List.append_nil, List.getElem?_map] at h
  cases hi : (List.range xs.length)[i]? with
  | none => rw [hi] at h; cases h
  | some j =>
    rw [hi] at h
    have hj : j = i := by
      obtain ⟨q, e⟩ := List.getElem?_eq_some_iff.1 hi
      simpa using e.symm
    subst hj
    simpa using h.symm
theorem xq (xs : List Rw) (k : Int) (hl : xs.length ≤ 1000000000) (hk : ∀ i z, xs[i]? = some z → z = uh k i) : zx Go.Proofs.Try.prog 52 [rwL xs, I k] [] (I (kk k (3 * xs.length))) [] false := by
  refine zu [4] Go.Proofs.Try.func52 rfl rfl ?_
  simp only [Go.Proofs.Try.ntmps52, List.length_cons, List.length_nil, Nat.reduceAdd, Nat.reduceSub, List.replicate_succ, List.replicate_zero, List.cons_append, List.nil_append]
  repeat' first | refine zL ?_ | refine zA ?_ | refine zQ [] ?_ | (refine isA ?_; refine zg rfl ?_) | (refine isL ?_; refine zW rfl (by kernel_rfl) rfl rfl ?_) | (refine zd rfl ?_; refine zV rfl (by kernel_rfl) rfl rfl ?_) | refine zD ?_ | refine zB _ rfl (by kernel_rfl) ?_ | refine zX rfl ?_ | refine zY rfl ?_ | refine zC ?_ | with_reducible refine zO ?_ | refine zI ?_ | refine zJ ?_ | (with_reducible first | refine zM ?_ | refine zN ?_ | refine zF ?_ | refine zH ?_ | refine zG ?_) | refine zP ?_
  refine z5 (α := { i : Nat // i ≤ xs.length }) (fun i => ⟨[rwL xs, I (kk k (3 * i.1)), .any, .any, .any, I i.1, .any, .any, .any, .any, .any, .any, .any, .any, .any, .any, .any, .any, .any, .any, .any, .any, .any, .any, .any, .any, .any, .any, .any, .any, .any, .any, .any, .any, .any, .any, .any, .any, .any, .any], [], 0⟩) (fun i => xs.length - i.1) ⟨0, Nat.zero_le _⟩ ?_ ?_
  · exact yX [] rfl rfl (by decide) .nil (by repeat' first | exact zk | refine zc ?_ ?_ | exact zo | exact le_refl rfl | exact zm rfl rfl | exact zt rfl)
  · rintro ⟨i, hi⟩
    repeat' first | refine zL ?_ | refine zA ?_ | refine zQ [] ?_ | (refine isA ?_; refine zg rfl ?_) | (refine isL ?_; refine zW rfl (by kernel_rfl) rfl rfl ?_) | (refine zd rfl ?_; refine zV rfl (by kernel_rfl) rfl rfl ?_) | refine zD ?_ | refine zB _ rfl (by kernel_rfl) ?_ | refine zX rfl ?_ | refine zY rfl ?_ | refine zC ?_ | with_reducible refine zO ?_ | refine zI ?_ | refine zJ ?_ | (with_reducible first | refine zM ?_ | refine zN ?_ | refine zF ?_ | refine zH ?_ | refine zG ?_) | refine zP ?_
    refine zj rfl (fun h => ?_) (fun h => ?_)
    · have hlt : i < xs.length := by simpa using h
      obtain ⟨z, hz⟩ : ∃ z, xs[i]? = some z := ⟨_, List.getElem?_eq_getElem hlt⟩
      have hzk := hk i z hz
      subst hzk
      repeat' first | refine zL ?_ | refine zA ?_ | refine zQ [] ?_ | (refine isA ?_; refine zg rfl ?_) | (refine isL ?_; refine zW rfl (by kernel_rfl) rfl rfl ?_) | (refine zd rfl ?_; refine zV rfl (by kernel_rfl) rfl rfl ?_) | (refine z7 ?_; refine za rfl (zz (t := rwT) (z := uh k i) rfl rfl rfl rfl (Int.natCast_nonneg i) hz) rfl ?_) | (refine z6 rfl ?_; refine zT rfl (by kernel_rfl) rfl (zz (t := rwT) (z := uh k i) rfl rfl rfl rfl (Int.natCast_nonneg i) hz) rfl ?_) | refine zD ?_ | refine zB _ rfl (by kernel_rfl) ?_ | refine zX rfl ?_ | refine zY rfl ?_ | refine zC ?_ | with_reducible refine zO ?_ | refine zI ?_ | refine zJ ?_ | (with_reducible first | refine zM ?_ | refine zN ?_ | refine zF ?_ | refine zH ?_ | refine zG ?_) | refine zP ?_
      refine zj rfl (fun h => by simp [uh] at h) (fun _ => ?_)
      repeat' first | refine zL ?_ | refine zA ?_ | refine zQ [] ?_ | (refine isA ?_; refine zg rfl ?_) | (refine isL ?_; refine zW rfl (by kernel_rfl) rfl rfl ?_) | (refine zd rfl ?_; refine zV rfl (by kernel_rfl) rfl rfl ?_) | (refine z7 ?_; refine za rfl (zz (t := rwT) (z := uh k i) rfl rfl rfl rfl (Int.natCast_nonneg i) hz) rfl ?_) | (refine z6 rfl ?_; refine zT rfl (by kernel_rfl) rfl (zz (t := rwT) (z := uh k i) rfl rfl rfl rfl (Int.natCast_nonneg i) hz) rfl ?_) | refine zD ?_ | refine zB _ rfl (by kernel_rfl) ?_ | refine zX rfl ?_ | refine zY rfl ?_ | refine zC ?_ | with_reducible refine zO ?_ | refine zI ?_ | refine zJ ?_ | (with_reducible first | refine zM ?_ | refine zN ?_ | refine zF ?_ | refine zH ?_ | refine zG ?_) | refine zP ?_
      refine zj rfl (fun h => by simp [uh, kk] at h) (fun _ => ?_)
      repeat' first | refine zL ?_ | refine zA ?_ | refine zQ [] ?_ | (refine isA ?_; refine zg rfl ?_) | (refine isL ?_; refine zW rfl (by kernel_rfl) rfl rfl ?_) | (refine zd rfl ?_; refine zV rfl (by kernel_rfl) rfl rfl ?_) | (refine z7 ?_; refine za rfl (zz (t := rwT) (z := uh k i) rfl rfl rfl rfl (Int.natCast_nonneg i) hz) rfl ?_) | (refine z6 rfl ?_; refine zT rfl (by kernel_rfl) rfl (zz (t := rwT) (z := uh k i) rfl rfl rfl rfl (Int.natCast_nonneg i) hz) rfl ?_) | refine zD ?_ | refine zB _ rfl (by kernel_rfl) ?_ | refine zX rfl ?_ | refine zY rfl ?_ | refine zC ?_ | with_reducible refine zO ?_ | refine zI ?_ | refine zJ ?_ | (with_reducible first | refine zM ?_ | refine zN ?_ | refine zF ?_ | refine zH ?_ | refine zG ?_) | refine zP ?_
      refine zj rfl (fun h => by simp [uh, kk] at h) (fun _ => ?_)
      repeat' first | refine zL ?_ | refine zA ?_ | refine zQ [] ?_ | (refine isA ?_; refine zg rfl ?_) | (refine isL ?_; refine zW rfl (by kernel_rfl) rfl rfl ?_) | (refine zd rfl ?_; refine zV rfl (by kernel_rfl) rfl rfl ?_) | refine zD ?_ | refine zB _ rfl (by kernel_rfl) ?_ | refine zX rfl ?_ | refine zY rfl ?_ | refine zC ?_ | with_reducible refine zO ?_ | refine zI ?_ | refine zJ ?_ | (with_reducible first | refine zM ?_ | refine zN ?_ | refine zF ?_ | refine zH ?_ | refine zG ?_) | refine zP ?_
      refine ⟨⟨i + 1, hlt⟩, by simp only; omega, ?_⟩
      exact yX [] rfl rfl (by decide) .nil (by repeat' first | exact zk | refine zc ?_ ?_ | exact zo | exact le_refl rfl | exact zm rfl rfl | exact zt rfl | exact xa (by assumption) (by omega))
    · have hge : i = xs.length := by
        have : ¬ ((i : Int) < xs.length) := by simpa using h
        omega
      subst hge
      repeat' first | refine zL ?_ | refine zA ?_ | refine zQ [] ?_ | (refine isA ?_; refine zg rfl ?_) | (refine isL ?_; refine zW rfl (by kernel_rfl) rfl rfl ?_) | (refine zd rfl ?_; refine zV rfl (by kernel_rfl) rfl rfl ?_) | exact yD rfl rfl rfl | refine zD ?_ | refine zB _ rfl (by kernel_rfl) ?_ | refine zX rfl ?_ | refine zY rfl ?_ | refine zC ?_ | with_reducible refine zO ?_ | refine zI ?_ | refine zJ ?_ | (with_reducible first | refine zM ?_ | refine zN ?_ | refine zF ?_ | refine zH ?_ | refine zG ?_) | refine zP ?_
end Go.Proofs.Ytojcojanokhnaaa.Ab
namespace Go.Proofs.Ytojcojanokhnaaa.Ab
open Go.RowKit
abbrev Rn := List Rw
abbrev rnT : Ty Rn := lsT rwT
abbrev rnL (rs : List Rn) : V := vF rnT rs
abbrev rnN (rs : List Rn) : List Reg := ⟨84, 1, nC 1 rs, 0⟩ :: nR rwT 78 rs
def v5 (rs : List Rn) : Prop := rs.length ≤ 1000000000 ∧ ∀ x ∈ rs, x.length ≤ 1000000000
theorem v5.at {rs : List Rn} (h : v5 rs) {i : Nat} {x : Rn} (hx : rs[i]? = some x) : x.length ≤ 1000000000 := h.2 x (List.mem_of_getElem? hx)
def szG : List Rn → Int → Int
  | [], l => l
  | x :: xs, l => cond (decide (szL x.length l < 0)) (-1) (szG xs (szL x.length l))
def szR (rs : List Rn) (l : Int) : Int := cond (decide (IntKind.i64.wrap (l - rs.length) < 0)) (-1) (szG rs (IntKind.i64.wrap (l - rs.length)))
theorem my (x : Rn) (l : Int) : zx Go.Proofs.Try.prog 125 [.agg [rwL x], I l] [] (I (cond (decide (szL x.length l < 0)) (-1) (szL x.length l))) [] false := by
  refine zu [4] Go.Proofs.Try.func125 rfl rfl ?_
  simp only [Go.Proofs.Try.ntmps125, List.length_cons, List.length_nil, Nat.reduceAdd, Nat.reduceSub, List.replicate_succ, List.replicate_zero, List.cons_append, List.nil_append]
  repeat' first | refine zL ?_ | refine zA ?_ | refine zQ [] ?_ | (refine isA ?_; refine zg rfl ?_) | (refine isL ?_; refine zW rfl (by kernel_rfl) rfl rfl ?_) | (refine zd rfl ?_; refine zV rfl (by kernel_rfl) rfl rfl ?_) | (refine zp 40 ?_; refine za rfl (zK rfl (tK _ _) (.cons (.same rfl) (.cons (.same rfl) .nil)) rfl) rfl ?_) | (refine zq 40 rfl ?_; refine zT rfl (by kernel_rfl) rfl (zK rfl (tK _ _) (.cons (.same rfl) (.cons (.same rfl) .nil)) rfl) rfl ?_) | refine zj rfl (fun _ => ?_) (fun _ => ?_) | (refine yD rfl rfl ?_; simp only [*, cond_true, cond_false]; done) | refine zD ?_ | refine zB _ rfl (by kernel_rfl) ?_ | refine zX rfl ?_ | refine zY rfl ?_ | refine zC ?_ | with_reducible refine zO ?_ | refine zI ?_ | refine zJ ?_ | (with_reducible first | refine zM ?_ | refine zN ?_ | refine zF ?_ | refine zH ?_ | refine zG ?_) | refine zP ?_
theorem nF (rs : List Rn) (l : Int) (hl : rs.length ≤ 9223372036854775807) : zx Go.Proofs.Try.prog 103 [rnL rs, I l] [] (I (szR rs l)) [] false := by
  refine zu [4] Go.Proofs.Try.func103 rfl rfl ?_
  simp only [Go.Proofs.Try.ntmps103, List.length_cons, List.length_nil, Nat.reduceAdd, Nat.reduceSub, List.replicate_succ, List.replicate_zero, List.cons_append, List.nil_append]
  repeat' first | refine zL ?_ | refine zA ?_ | refine zQ [] ?_ | (refine isA ?_; refine zg rfl ?_) | (refine isL ?_; refine zW rfl (by kernel_rfl) rfl rfl ?_) | (refine zd rfl ?_; refine zV rfl (by kernel_rfl) rfl rfl ?_) | refine zD ?_ | refine zB _ rfl (by kernel_rfl) ?_ | refine zX rfl ?_ | refine zY rfl ?_ | refine zC ?_ | with_reducible refine zO ?_ | refine zI ?_ | refine zJ ?_ | (with_reducible first | refine zM ?_ | refine zN ?_ | refine zF ?_ | refine zH ?_ | refine zG ?_) | refine zP ?_
  refine zj rfl (fun h => ?_) (fun h => ?_)
  · repeat' first | refine zL ?_ | refine zA ?_ | refine zQ [] ?_ | (refine isA ?_; refine zg rfl ?_) | (refine isL ?_; refine zW rfl (by kernel_rfl) rfl rfl ?_) | (refine zd rfl ?_; refine zV rfl (by kernel_rfl) rfl rfl ?_) | exact yD rfl rfl (by rw [szR, h]; rfl) | refine zD ?_ | refine zB _ rfl (by kernel_rfl) ?_ | refine zX rfl ?_ | refine zY rfl ?_ | refine zC ?_ | with_reducible refine zO ?_ | refine zI ?_ | refine zJ ?_ | (with_reducible first | refine zM ?_ | refine zN ?_ | refine zF ?_ | refine zH ?_ | refine zG ?_) | refine zP ?_
  have hs : szR rs l = szG rs (IntKind.i64.wrap (l - rs.length)) := by rw [szR, h]; rfl
  rw [hs]
  generalize IntKind.i64.wrap (l - rs.length) = l0
  repeat' first | refine zL ?_ | refine zA ?_ | refine zQ [] ?_ | (refine isA ?_; refine zg rfl ?_) | (refine isL ?_; refine zW rfl (by kernel_rfl) rfl rfl ?_) | (refine zd rfl ?_; refine zV rfl (by kernel_rfl) rfl rfl ?_) | refine zD ?_ | refine zB _ rfl (by kernel_rfl) ?_ | refine zX rfl ?_ | refine zY rfl ?_ | refine zC ?_ | with_reducible refine zO ?_ | refine zI ?_ | refine zJ ?_ | (with_reducible first | refine zM ?_ | refine zN ?_ | refine zF ?_ | refine zH ?_ | refine zG ?_) | refine zP ?_
  refine z5 (α := { p : Nat × Int // p.1 ≤ rs.length ∧ szG (rs.drop p.1) p.2 = szG rs l0 }) (fun p => ⟨[rnL rs, I p.1.2, .any, .any, .any, I p.1.1, .any, .any, .any, .any, .any, .any, .any, .any, .any, .any, .any, .any, .any, .any, .any, .any, .any, .any, .any, .any, .any], [], 0⟩) (fun p => rs.length - p.1.1) ⟨(0, l0), Nat.zero_le _, rfl⟩ ?_ ?_
  · exact yX [] rfl rfl (by decide) .nil (by repeat' first | exact zk | refine zc ?_ ?_ | exact zo | exact le_refl rfl | exact zm rfl rfl | exact zt rfl)
  · rintro ⟨⟨i, l1⟩, hi, he⟩
    repeat' first | refine zL ?_ | refine zA ?_ | refine zQ [] ?_ | (refine isA ?_; refine zg rfl ?_) | (refine isL ?_; refine zW rfl (by kernel_rfl) rfl rfl ?_) | (refine zd rfl ?_; refine zV rfl (by kernel_rfl) rfl rfl ?_) | refine zD ?_ | refine zB _ rfl (by kernel_rfl) ?_ | refine zX rfl ?_ | refine zY rfl ?_ | refine zC ?_ | with_reducible refine zO ?_ | refine zI ?_ | refine zJ ?_ | (with_reducible first | refine zM ?_ | refine zN ?_ | refine zF ?_ | refine zH ?_ | refine zG ?_) | refine zP ?_
    refine zj rfl (fun h => ?_) (fun h => ?_)
    · have hlt : i < rs.length := by simpa using h
      obtain ⟨z, hz⟩ : ∃ z, rs[i]? = some z := ⟨_, List.getElem?_eq_getElem hlt⟩
      have hd : rs.drop i = z :: rs.drop (i + 1) := by rw [List.drop_eq_getElem_cons hlt]; congr 1; rw [List.getElem?_eq_getElem hlt] at hz; exact Option.some.inj hz
      simp only at he
      rw [hd, szG] at he
      repeat' first | refine zL ?_ | refine zA ?_ | refine zQ [] ?_ | (refine isA ?_; refine zg rfl ?_) | (refine isL ?_; refine zW rfl (by kernel_rfl) rfl rfl ?_) | (refine zd rfl ?_; refine zV rfl (by kernel_rfl) rfl rfl ?_) | (refine z7 ?_; refine za rfl (zz (t := rnT) (z := z) rfl rfl rfl rfl (Int.natCast_nonneg i) hz) rfl ?_) | (refine z6 rfl ?_; refine zT rfl (by kernel_rfl) rfl (zz (t := rnT) (z := z) rfl rfl rfl rfl (Int.natCast_nonneg i) hz) rfl ?_) | (refine zp 125 ?_; refine za rfl (zK rfl (my z l1) (.cons (.same rfl) (.cons (.same rfl) .nil)) rfl) rfl ?_) | (refine zq 125 rfl ?_; refine zT rfl (by kernel_rfl) rfl (zK rfl (my z l1) (.cons (.same rfl) (.cons (.same rfl) .nil)) rfl) rfl ?_) | refine zD ?_ | refine zB _ rfl (by kernel_rfl) ?_ | refine zX rfl ?_ | refine zY rfl ?_ | refine zC ?_ | with_reducible refine zO ?_ | refine zI ?_ | refine zJ ?_ | (with_reducible first | refine zM ?_ | refine zN ?_ | refine zF ?_ | refine zH ?_ | refine zG ?_) | refine zP ?_
      cases h1 : decide (szL z.length l1 < 0) with
      | true =>
        rw [h1, cond_true] at he
        repeat' first | refine zL ?_ | refine zA ?_ | refine zQ [] ?_ | (refine isA ?_; refine zg rfl ?_) | (refine isL ?_; refine zW rfl (by kernel_rfl) rfl rfl ?_) | (refine zd rfl ?_; refine zV rfl (by kernel_rfl) rfl rfl ?_) | exact yD rfl rfl (by rw [← he]) | refine zD ?_ | refine zB _ rfl (by kernel_rfl) ?_ | refine zX rfl ?_ | refine zY rfl ?_ | refine zC ?_ | with_reducible refine zO ?_ | refine zI ?_ | refine zJ ?_ | (with_reducible first | refine zM ?_ | refine zN ?_ | refine zF ?_ | refine zH ?_ | refine zG ?_) | refine zP ?_
      | false =>
        rw [h1, cond_false] at he
        simp only [cond_false]
        refine zj rfl (fun h => by rw [h1] at h; cases h) (fun _ => ?_)
        repeat' first | refine zL ?_ | refine zA ?_ | refine zQ [] ?_ | (refine isA ?_; refine zg rfl ?_) | (refine isL ?_; refine zW rfl (by kernel_rfl) rfl rfl ?_) | (refine zd rfl ?_; refine zV rfl (by kernel_rfl) rfl rfl ?_) | refine zD ?_ | refine zB _ rfl (by kernel_rfl) ?_ | refine zX rfl ?_ | refine zY rfl ?_ | refine zC ?_ | with_reducible refine zO ?_ | refine zI ?_ | refine zJ ?_ | (with_reducible first | refine zM ?_ | refine zN ?_ | refine zF ?_ | refine zH ?_ | refine zG ?_) | refine zP ?_
        refine ⟨⟨(i + 1, szL z.length l1), hlt, he⟩, by simp only; omega, ?_⟩
        exact yX [] rfl rfl (by decide) .nil (by repeat' first | exact zk | refine zc ?_ ?_ | exact zo | exact le_refl rfl | exact z8 (congrArg _ (show ((i + 1 : Nat) : Int) = IntKind.i64.wrap ((i : Int) + 1) by rw [IntKind.wrap_i64]; omega)))
    · have hge : i = rs.length := by
        have : ¬ ((i : Int) < rs.length) := by simpa using h
        omega
      subst hge
      simp only [List.drop_length, szG] at he
      repeat' first | refine zL ?_ | refine zA ?_ | refine zQ [] ?_ | (refine isA ?_; refine zg rfl ?_) | (refine isL ?_; refine zW rfl (by kernel_rfl) rfl rfl ?_) | (refine zd rfl ?_; refine zV rfl (by kernel_rfl) rfl rfl ?_) | exact yD rfl rfl (congrArg I he) | refine zD ?_ | refine zB _ rfl (by kernel_rfl) ?_ | refine zX rfl ?_ | refine zY rfl ?_ | refine zC ?_ | with_reducible refine zO ?_ | refine zI ?_ | refine zJ ?_ | (with_reducible first | refine zM ?_ | refine zN ?_ | refine zF ?_ | refine zH ?_ | refine zG ?_) | refine zP ?_
theorem lz : ∀ {rs : List Rn} {l : Int}, (∀ x ∈ rs, x.length ≤ 9223372036854775807) → l ≤ 1048576 → 0 ≤ l → decide (szG rs l < 0) = false → ((rs.map List.length).sum : Int) ≤ l ∧ 0 ≤ szG rs l ∧ szG rs l = l - (rs.map List.length).sum
  | [], l, _, _, h0, _ => by simp [szG]; omega
  | x :: xs, l, hx, hl, h0, h => by
    have hxl := hx x (List.mem_cons_self ..)
    have e : szL x.length l = if l - (x.length : Int) < 0 then -1 else l - x.length := by
      unfold szL
      have : IntKind.i64.wrap (l - x.length) = l - x.length := by rw [IntKind.wrap_i64]; omega
      rw [this]
      by_cases hc : l - (x.length : Int) < 0
      · rw [decide_eq_true hc, if_pos hc]; rfl
      · rw [decide_eq_false hc, if_neg hc]; rfl
    rw [szG, e] at h ⊢
    by_cases hc : l - (x.length : Int) < 0
    · rw [if_pos hc] at h
      cases h
    · rw [if_neg hc] at h ⊢
      rw [show decide (l - (x.length : Int) < 0) = false from decide_eq_false hc, cond_false] at h ⊢
      obtain ⟨q1, q2, q3⟩ := lz (fun y hy => hx y (List.mem_cons_of_mem _ hy)) (by omega) (by omega) h
      simp only [List.map_cons, List.sum_cons]
      omega
theorem mV : ∀ {l : List Nat} {x : Nat}, x ∈ l → x ≤ l.sum
  | a :: l, x, h => by
    rw [List.sum_cons]
    rcases List.mem_cons.1 h with rfl | h
    · omega
    · have := mV h; omega
def tot (rs : List Rn) : Nat := (rs.map List.length).sum
theorem eZ {rs : List Rn} {l : Int} (hl : rs.length ≤ 9223372036854775807) (hx : ∀ x ∈ rs, x.length ≤ 9223372036854775807) (hl1 : l ≤ 1048576) (h0 : 0 ≤ l) (h : decide (szR rs l < 0) = false) : (rs.length : Int) + tot rs ≤ l ∧ szR rs l = l - rs.length - tot rs := by
  have e : IntKind.i64.wrap (l - rs.length) = l - rs.length := by rw [IntKind.wrap_i64]; omega
  unfold szR at h ⊢
  rw [e] at h ⊢
  by_cases hc : l - (rs.length : Int) < 0
  · rw [decide_eq_true hc] at h; cases h
  · rw [show decide (l - (rs.length : Int) < 0) = false from decide_eq_false hc, cond_false] at h ⊢
    obtain ⟨q1, q2, q3⟩ := lz hx (by omega) (by omega) h
    unfold tot
    omega
theorem mv (x : Rn) (hl : x.length ≤ 1000000000) : zx Go.Proofs.Try.prog 126 [.agg [rwL x]] [] (.agg [rwL x]) [] true := by
  refine xU 2 84 Go.Proofs.Try.func126 rfl rfl ?_
  simp only [Go.Proofs.Try.ntmps126, List.length_cons, List.length_nil, Nat.reduceAdd, Nat.reduceSub, List.replicate_succ, List.replicate_zero, List.cons_append, List.nil_append]
  repeat' first | refine zL ?_ | refine zA ?_ | refine zQ [] ?_ | (refine isA ?_; refine zg rfl ?_) | (refine isL ?_; refine zW rfl (by kernel_rfl) rfl rfl ?_) | (refine zd rfl ?_; refine zV rfl (by kernel_rfl) rfl rfl ?_) | (refine zp 41 ?_; refine za rfl (zK rfl (wB _ hl) (.cons (.same rfl) .nil) rfl) rfl ?_) | (refine zq 41 rfl ?_; refine zT rfl (by kernel_rfl) rfl (zK rfl (wB _ hl) (.cons (.same rfl) .nil) rfl) rfl ?_) | exact dB (yP rfl rfl rfl rfl rfl) (.same rfl) | refine zD ?_ | refine zB _ rfl (by kernel_rfl) ?_ | refine zX rfl ?_ | refine zY rfl ?_ | refine zC ?_ | with_reducible refine zO ?_ | refine zI ?_ | refine zJ ?_ | (with_reducible first | refine zM ?_ | refine zN ?_ | refine zF ?_ | refine zH ?_ | refine zG ?_) | refine zP ?_
theorem nE (x : Rn) (hl : x.length ≤ 1000000000) : zx Go.Proofs.Try.prog 126 [.agg [rwL x]] [] (.agg [.sl 0 0 x.length]) [rwR x] true := by
  refine xU 2 84 Go.Proofs.Try.func126 rfl rfl ?_
  simp only [Go.Proofs.Try.ntmps126, List.length_cons, List.length_nil, Nat.reduceAdd, Nat.reduceSub, List.replicate_succ, List.replicate_zero, List.cons_append, List.nil_append]
  repeat' first | refine zL ?_ | refine zA ?_ | refine zQ [] ?_ | (refine isA ?_; refine zg rfl ?_) | (refine isL ?_; refine zW rfl (by kernel_rfl) rfl rfl ?_) | (refine zd rfl ?_; refine zV rfl (by kernel_rfl) rfl rfl ?_) | (refine zp 41 ?_; refine za rfl (yI rfl (xg _ hl) (.cons (.same rfl) .nil) (fun q hq => by simp at hq; subst hq; exact zE _ _) rfl rfl) rfl ?_) | (refine zq 41 rfl ?_; refine zT rfl (by kernel_rfl) rfl (yI rfl (xg _ hl) (.cons (.same rfl) .nil) (fun q hq => by simp at hq; subst hq; exact zE _ _) rfl rfl) rfl ?_) | exact eI [3] (by decide) (yP rfl rfl rfl rfl rfl) (tb (zc (zm rfl rfl) zk)) (.cons rfl rfl rfl rfl (zU (zE _ _)) .nil) | refine zD ?_ | refine zB _ rfl (by kernel_rfl) ?_ | refine zX rfl ?_ | refine zY rfl ?_ | refine zC ?_ | with_reducible refine zO ?_ | refine zI ?_ | refine zJ ?_ | (with_reducible first | refine zM ?_ | refine zN ?_ | refine zF ?_ | refine zH ?_ | refine zG ?_) | refine zP ?_
abbrev xx : V := .k (.slice none 0 0)
theorem yp {α : Type} {rs : List α} {i : Nat} {z : α} (hz : rs[i]? = some z) : rs.take (i + 1) = rs.take i ++ [z] := by
  rw [List.take_add_one, hz]; rfl
theorem nD (rs : List Rn) (hok : v5 rs) : zx Go.Proofs.Try.prog 104 [rnL rs] [] (rnL rs) [] true := by
  have hl := hok.1
  refine zu [2] Go.Proofs.Try.func104 rfl rfl ?_
  simp only [Go.Proofs.Try.ntmps104, List.length_cons, List.length_nil, Nat.reduceAdd, Nat.reduceSub, List.replicate_succ, List.replicate_zero, List.cons_append, List.nil_append]
  repeat' first | refine zL ?_ | refine zA ?_ | refine zQ [] ?_ | (refine isA ?_; refine zg rfl ?_) | (refine isL ?_; refine zW rfl (by kernel_rfl) rfl rfl ?_) | (refine zd rfl ?_; refine zV rfl (by kernel_rfl) rfl rfl ?_) | (refine isAm ?_; refine za rfl (mkN (.slice none 0 0) rfl rfl rfl hl rfl) rfl ?_) | (refine isLm rfl ?_; refine zT rfl (by kernel_rfl) rfl (mkN (.slice none 0 0) rfl rfl rfl hl rfl) rfl ?_) | refine zD ?_ | refine zB _ rfl (by kernel_rfl) ?_ | refine zX rfl ?_ | refine zY rfl ?_ | refine zC ?_ | with_reducible refine zO ?_ | refine zI ?_ | refine zJ ?_ | (with_reducible first | refine zM ?_ | refine zN ?_ | refine zF ?_ | refine zH ?_ | refine zG ?_) | refine zP ?_
  refine z5 (α := { i : Nat // i ≤ rs.length }) (fun i => ⟨[rnL rs, .any, .any, .sl 0 0 rs.length, I i.1, .any, .any, .any, .any, .any, .any, .any, .any, .any, .any, .any, .any, .any, .any, .any, .any, .any, .any], [⟨84, 1, rnT.flat (rs.take i.1) ++ List.replicate (rs.length - i.1) xx, 0⟩], 0⟩) (fun i => rs.length - i.1) ⟨0, Nat.zero_le _⟩ ?_ ?_
  · exact yg rfl (by repeat' first | exact .nil | refine .any ?_ | refine .same rfl ?_)
  · rintro ⟨i, hi⟩
    repeat' first | refine zL ?_ | refine zA ?_ | refine zQ [] ?_ | (refine isA ?_; refine zg rfl ?_) | (refine isL ?_; refine zW rfl (by kernel_rfl) rfl rfl ?_) | (refine zd rfl ?_; refine zV rfl (by kernel_rfl) rfl rfl ?_) | refine zD ?_ | refine zB _ rfl (by kernel_rfl) ?_ | refine zX rfl ?_ | refine zY rfl ?_ | refine zC ?_ | with_reducible refine zO ?_ | refine zI ?_ | refine zJ ?_ | (with_reducible first | refine zM ?_ | refine zN ?_ | refine zF ?_ | refine zH ?_ | refine zG ?_) | refine zP ?_
    refine zj rfl (fun h => ?_) (fun h => ?_)
    · have hlt : i < rs.length := by simpa using h
      obtain ⟨z, hz⟩ : ∃ z, rs[i]? = some z := ⟨_, List.getElem?_eq_getElem hlt⟩
      have hlen : (rnT.flat (rs.take i)).length = i := by rw [yH]; show (rs.take i).length * 1 = i; simp; omega
      repeat' first | refine zL ?_ | refine zA ?_ | refine zQ [] ?_ | (refine isA ?_; refine zg rfl ?_) | (refine isL ?_; refine zW rfl (by kernel_rfl) rfl rfl ?_) | (refine zd rfl ?_; refine zV rfl (by kernel_rfl) rfl rfl ?_) | (refine z7 (x := .tmp 16) ?_; refine za rfl (zz (t := rnT) (z := z) rfl rfl rfl rfl (Int.natCast_nonneg i) hz) rfl ?_) | (refine z6 (x := .tmp 16) rfl ?_; refine zT rfl (by kernel_rfl) rfl (zz (t := rnT) (z := z) rfl rfl rfl rfl (Int.natCast_nonneg i) hz) rfl ?_) | (refine zp 126 ?_; refine za rfl (zK rfl (mv z (hok.at hz)) (.cons (.same rfl) .nil) rfl) rfl ?_) | (refine zq 126 rfl ?_; refine zT rfl (by kernel_rfl) rfl (zK rfl (mv z (hok.at hz)) (.cons (.same rfl) .nil) rfl) rfl ?_) | (refine z7 (x := .tmp 14) ?_; refine za rfl (zn (j := i) rfl rfl rfl (Nat.zero_le _) rfl rfl (Int.natCast_nonneg i) (by simpa using hlt)) rfl ?_) | (refine z6 (x := .tmp 14) rfl ?_; refine zT rfl (by kernel_rfl) rfl (zn (j := i) rfl rfl rfl (Nat.zero_le _) rfl rfl (Int.natCast_nonneg i) (by simpa using hlt)) rfl ?_) | (refine vK ?_; refine za rfl (yF (n := 1) rfl rfl rfl rfl (fun c hc => by simp at hc; subst hc; rfl) rfl rfl (by simp [hlen]; omega)) rfl ?_) | (refine vJ rfl ?_; refine zT rfl (by kernel_rfl) rfl (yF (n := 1) rfl rfl rfl rfl (fun c hc => by simp at hc; subst hc; rfl) rfl rfl (by simp [hlen]; omega)) rfl ?_) | refine zD ?_ | refine zB _ rfl (by kernel_rfl) ?_ | refine zX rfl ?_ | refine zY rfl ?_ | refine zC ?_ | with_reducible refine zO ?_ | refine zI ?_ | refine zJ ?_ | (with_reducible first | refine zM ?_ | refine zN ?_ | refine zF ?_ | refine zH ?_ | refine zG ?_) | refine zP ?_
      refine ⟨⟨i + 1, hlt⟩, by simp only; omega, ?_⟩
      refine yg ?_ (by repeat' first | exact .nil | refine .any ?_ | refine .same rfl ?_ | refine .same (v8 (by assumption) (by omega)) ?_)
      have e1 : (0 + (i : Int).toNat) * 1 = i := by simp
      show _ = [(⟨84, 1, yT (rnT.flat (rs.take i) ++ List.replicate (rs.length - i) xx) ((0 + (i : Int).toNat) * 1) [rwL z], 0⟩ : Reg)]
      rw [e1, eJ hlen hlt, yp hz, wv]
      rfl
    · have hge : i = rs.length := by
        have : ¬ ((i : Int) < rs.length) := by simpa using h
        omega
      subst hge
      repeat' first | refine zL ?_ | refine zA ?_ | refine zQ [] ?_ | (refine isA ?_; refine zg rfl ?_) | (refine isL ?_; refine zW rfl (by kernel_rfl) rfl rfl ?_) | (refine zd rfl ?_; refine zV rfl (by kernel_rfl) rfl rfl ?_) | exact kx rfl (pY rfl rfl (by simp) rfl) | refine zD ?_ | refine zB _ rfl (by kernel_rfl) ?_ | refine zX rfl ?_ | refine zY rfl ?_ | refine zC ?_ | with_reducible refine zO ?_ | refine zI ?_ | refine zJ ?_ | (with_reducible first | refine zM ?_ | refine zN ?_ | refine zF ?_ | refine zH ?_ | refine zG ?_) | refine zP ?_
end Go.Proofs.Ytojcojanokhnaaa.Ab
namespace Go.Proofs.Ytojcojanokhnaaa.Ab
open Go.RowKit
theorem yY {α : Type} {rs : List α} {i : Nat} {z : α} (hz : rs[i]? = some z) : rs.drop i = z :: rs.drop (i + 1) := by
  obtain ⟨h, e⟩ := List.getElem?_eq_some_iff.1 hz
  rw [List.drop_eq_getElem_cons h, e]
theorem mb (rs : List Rn) : HLe ([0] ++ List.range' 1 rs.length) (rnN rs) (rnN rs) :=
  x5 (K1 := [⟨84, 1, nC 1 rs, 0⟩]) (yb (by simp) (by simp)) (.cons rfl rfl rfl rfl (xM fun j hj => xL [0] 1 rs.length j hj) .nil) (fun j x hx => by rw [Nat.add_comm]; exact yV hx)
theorem lS (rs : List Rn) : ∀ q ∈ rnN rs, q.mode ≠ 1 ∧ (q.mode = 0 → vf q.cells) := fun q hq => by
  rcases List.mem_cons.1 hq with rfl | hq
  · exact ⟨Nat.zero_ne_one, fun _ => u7 1 rs⟩
  · obtain ⟨x, _, rfl⟩ := List.mem_map.1 hq
    exact ⟨Nat.zero_ne_one, fun _ => (wE x).flatS⟩
theorem qL (rs : List Rn) (hok : v5 rs) : zx Go.Proofs.Try.prog 104 [rnL rs] [] (.sl 0 0 rs.length) (rnN rs) true := by
  have hl := hok.1
  refine zu [2] Go.Proofs.Try.func104 rfl rfl ?_
  simp only [Go.Proofs.Try.ntmps104, List.length_cons, List.length_nil, Nat.reduceAdd, Nat.reduceSub, List.replicate_succ, List.replicate_zero, List.cons_append, List.nil_append]
  repeat' first | refine zL ?_ | refine zA ?_ | refine zQ [] ?_ | (refine isA ?_; refine zg rfl ?_) | (refine isL ?_; refine zW rfl (by kernel_rfl) rfl rfl ?_) | (refine zd rfl ?_; refine zV rfl (by kernel_rfl) rfl rfl ?_) | (refine isAm ?_; refine za rfl (mkN (.slice none 0 0) rfl rfl rfl hl rfl) rfl ?_) | (refine isLm rfl ?_; refine zT rfl (by kernel_rfl) rfl (mkN (.slice none 0 0) rfl rfl rfl hl rfl) rfl ?_) | refine zD ?_ | refine zB _ rfl (by kernel_rfl) ?_ | refine zX rfl ?_ | refine zY rfl ?_ | refine zC ?_ | with_reducible refine zO ?_ | refine zI ?_ | refine zJ ?_ | (with_reducible first | refine zM ?_ | refine zN ?_ | refine zF ?_ | refine zH ?_ | refine zG ?_) | refine zP ?_
  refine z5 (α := { i : Nat // i ≤ rs.length }) (fun i => ⟨[rnL rs, .any, .any, .sl 0 0 rs.length, I i.1, .any, .any, .any, .any, .any, .any, .any, .any, .any, .any, .any, .any, .any, .any, .any, .any, .any, .any], ⟨84, 1, nC 1 (rs.take i.1) ++ List.replicate (rs.length - i.1) xx, 0⟩ :: nR rwT 78 (rs.take i.1), 0⟩) (fun i => rs.length - i.1) ⟨0, Nat.zero_le _⟩ ?_ ?_
  · exact yg rfl (by repeat' first | exact EqS.nil | refine EqS.any ?_ | refine EqS.same rfl ?_)
  · rintro ⟨i, hi⟩
    repeat' first | refine zL ?_ | refine zA ?_ | refine zQ [] ?_ | (refine isA ?_; refine zg rfl ?_) | (refine isL ?_; refine zW rfl (by kernel_rfl) rfl rfl ?_) | (refine zd rfl ?_; refine zV rfl (by kernel_rfl) rfl rfl ?_) | refine zD ?_ | refine zB _ rfl (by kernel_rfl) ?_ | refine zX rfl ?_ | refine zY rfl ?_ | refine zC ?_ | with_reducible refine zO ?_ | refine zI ?_ | refine zJ ?_ | (with_reducible first | refine zM ?_ | refine zN ?_ | refine zF ?_ | refine zH ?_ | refine zG ?_) | refine zP ?_
    refine zj rfl (fun h => ?_) (fun h => ?_)
    · have hlt : i < rs.length := by simpa using h
      obtain ⟨z, hz⟩ : ∃ z, rs[i]? = some z := ⟨_, List.getElem?_eq_getElem hlt⟩
      have hlen : (nC 1 (rs.take i)).length = i := by rw [xN]; simp; omega
      have hHl : ((⟨84, 1, nC 1 (rs.take i) ++ List.replicate (rs.length - i) xx, 0⟩ :: nR rwT 78 (rs.take i) : List Reg)).length = 1 + i := by simp [zh]; omega
      repeat' first | refine zL ?_ | refine zA ?_ | refine zQ [] ?_ | (refine isA ?_; refine zg rfl ?_) | (refine isL ?_; refine zW rfl (by kernel_rfl) rfl rfl ?_) | (refine zd rfl ?_; refine zV rfl (by kernel_rfl) rfl rfl ?_) | (refine z7 (x := .tmp 16) ?_; refine za rfl (zz (t := rnT) (z := z) rfl rfl rfl rfl (Int.natCast_nonneg i) hz) rfl ?_) | (refine z6 (x := .tmp 16) rfl ?_; refine zT rfl (by kernel_rfl) rfl (zz (t := rnT) (z := z) rfl rfl rfl rfl (Int.natCast_nonneg i) hz) rfl ?_) | (refine zp 126 ?_; refine za rfl (yI (r' := .agg [.sl (1 + i) 0 z.length]) (H' := ⟨84, 1, nC 1 (rs.take i) ++ List.replicate (rs.length - i) xx, 0⟩ :: nR rwT 78 (rs.take (i + 1))) rfl (nE z (hok.at hz)) (.cons (.same rfl) .nil) (fun q hq => by simp at hq; subst hq; exact zE _ _) (by simp only [hHl, shV, wW, Nat.zero_add]) (by rw [yp hz, qB]; rfl)) rfl ?_) | (refine zq 126 rfl ?_; refine zT rfl (by kernel_rfl) rfl (yI (r' := .agg [.sl (1 + i) 0 z.length]) (H' := ⟨84, 1, nC 1 (rs.take i) ++ List.replicate (rs.length - i) xx, 0⟩ :: nR rwT 78 (rs.take (i + 1))) rfl (nE z (hok.at hz)) (.cons (.same rfl) .nil) (fun q hq => by simp at hq; subst hq; exact zE _ _) (by simp only [hHl, shV, wW, Nat.zero_add]) (by rw [yp hz, qB]; rfl)) rfl ?_) | (refine z7 (x := .tmp 14) ?_; refine za rfl (zn (j := i) rfl rfl rfl (Nat.zero_le _) rfl rfl (Int.natCast_nonneg i) (by simpa using hlt)) rfl ?_) | (refine z6 (x := .tmp 14) rfl ?_; refine zT rfl (by kernel_rfl) rfl (zn (j := i) rfl rfl rfl (Nat.zero_le _) rfl rfl (Int.natCast_nonneg i) (by simpa using hlt)) rfl ?_) | (refine vK ?_; refine za rfl (yF (n := 1) rfl rfl rfl rfl (fun c hc => by simp at hc; subst hc; rfl) rfl rfl (by simp [hlen]; omega)) rfl ?_) | (refine vJ rfl ?_; refine zT rfl (by kernel_rfl) rfl (yF (n := 1) rfl rfl rfl rfl (fun c hc => by simp at hc; subst hc; rfl) rfl rfl (by simp [hlen]; omega)) rfl ?_) | refine zD ?_ | refine zB _ rfl (by kernel_rfl) ?_ | refine zX rfl ?_ | refine zY rfl ?_ | refine zC ?_ | with_reducible refine zO ?_ | refine zI ?_ | refine zJ ?_ | (with_reducible first | refine zM ?_ | refine zN ?_ | refine zF ?_ | refine zH ?_ | refine zG ?_) | refine zP ?_
      refine ⟨⟨i + 1, hlt⟩, by simp only; omega, ?_⟩
      refine yg ?_ (by repeat' first | exact EqS.nil | refine EqS.any ?_ | refine EqS.same rfl ?_ | refine EqS.same (v8 (by assumption) (by omega)) ?_)
      have e1 : (0 + (i : Int).toNat) * 1 = i := by simp
      show _ = (⟨84, 1, yT (nC 1 (rs.take i) ++ List.replicate (rs.length - i) xx) ((0 + (i : Int).toNat) * 1) [.sl (1 + i) 0 z.length], 0⟩ : Reg) :: nR rwT 78 (rs.take (i + 1))
      rw [e1, eJ hlen hlt]
      simp only
      rw [yp hz, tY]
      have : 1 + (rs.take i).length = 1 + i := by simp; omega
      rw [this]
      rfl
    · have hge : i = rs.length := by
        have : ¬ ((i : Int) < rs.length) := by simpa using h
        omega
      subst hge
      have hH : HLe ([0] ++ List.range' 1 rs.length) (rnN rs) (⟨84, 1, nC 1 (rs.take rs.length) ++ List.replicate (rs.length - rs.length) xx, 0⟩ :: nR rwT 78 (rs.take rs.length)) := by
        rw [List.take_length, Nat.sub_self, List.replicate_zero, List.append_nil]
        exact mb rs
      repeat' first | refine zL ?_ | refine zA ?_ | refine zQ [] ?_ | (refine isA ?_; refine zg rfl ?_) | (refine isL ?_; refine zW rfl (by kernel_rfl) rfl rfl ?_) | (refine zd rfl ?_; refine zV rfl (by kernel_rfl) rfl rfl ?_) | exact lm _ rfl hH (zm rfl rfl) (Or.inl rfl) | refine zD ?_ | refine zB _ rfl (by kernel_rfl) ?_ | refine zX rfl ?_ | refine zY rfl ?_ | refine zC ?_ | with_reducible refine zO ?_ | refine zI ?_ | refine zJ ?_ | (with_reducible first | refine zM ?_ | refine zN ?_ | refine zF ?_ | refine zH ?_ | refine zG ?_) | refine zP ?_
theorem wZ (k : Int) (a : Nat) : ∀ b : Nat, kk (kk k a) b = kk k (a + b)
  | 0 => rfl
  | b + 1 => by rw [kk, wZ k a b]; rfl
theorem vY {rs : List Rn} {i : Nat} {z : Rn} (hz : rs[i]? = some z) : tot (rs.take (i + 1)) = tot (rs.take i) + z.length := by
  rw [yp hz]
  simp [tot]
theorem qT (rs : List Rn) (i : Nat) : tot (rs.take i) ≤ tot rs := by
  have : tot rs = tot (rs.take i ++ rs.drop i) := by rw [List.take_append_drop]
  rw [this]
  simp only [tot, List.map_append, List.sum_append]
  omega
def y9 : Int → List Rn → List Rn
  | _, [] => []
  | k, x :: xs => mkC k x x.length :: y9 (kk k (3 * x.length)) xs
theorem qC : ∀ (k : Int) (xs : List Rn) (z : Rn), y9 k (xs ++ [z]) = y9 k xs ++ [mkC (kk k (3 * tot xs)) z z.length]
  | k, [], z => by simp [y9, tot, kk]
  | k, x :: xs, z => by
    simp only [List.cons_append, y9]
    rw [qC _ xs z, wZ]
    have : 3 * x.length + 3 * tot xs = 3 * tot (x :: xs) := by simp [tot]; omega
    rw [this]
theorem wR : ∀ (k : Int) (xs : List Rn), (y9 k xs).map List.length = xs.map List.length
  | _, [] => rfl
  | k, x :: xs => by simp only [y9, List.map_cons]; rw [wR _ xs, ye k (Nat.le_refl _)]
theorem xP (k : Int) (xs : List Rn) : (y9 k xs).length = xs.length := by
  have := congrArg List.length (wR k xs)
  simpa using this
theorem mT : ∀ (b : Nat) (xs ys : List Rn), xs.map List.length = ys.map List.length → nC b xs = nC b ys
  | _, [], [], _ => rfl
  | b, x :: xs, y :: ys, h => by
    simp only [List.map_cons, List.cons.injEq] at h
    simp only [nC, h.1, mT (b + 1) xs ys h.2]
  | _, [], y :: ys, h => by simp at h
  | _, x :: xs, [], h => by simp at h
def mid (k : Int) (rs : List Rn) (i : Nat) : List Rn := y9 k (rs.take i) ++ rs.drop i
theorem er {k : Int} {rs : List Rn} {i : Nat} {z : Rn} (hz : rs[i]? = some z) : (mid k rs i)[i]? = some z := by
  have hl : (y9 k (rs.take i)).length = i := by rw [xP]; have := (List.getElem?_eq_some_iff.1 hz).1; simp; omega
  rw [mid, List.getElem?_append_right (by omega), hl, Nat.sub_self, List.getElem?_drop]
  exact hz
theorem pd {k : Int} {rs : List Rn} {i : Nat} {z : Rn} (hz : rs[i]? = some z) : (mid k rs i).set i (mkC (kk k (3 * tot (rs.take i))) z z.length) = mid k rs (i + 1) := by
  have hl : (y9 k (rs.take i)).length = i := by rw [xP]; have := (List.getElem?_eq_some_iff.1 hz).1; simp; omega
  rw [mid, mid, yp hz, qC, List.set_append_right _ _ (by omega), hl, Nat.sub_self, yY hz, List.set_cons_zero, List.append_assoc]
  rfl
theorem ki {rs : List Rn} {i : Nat} {z : Rn} : (nR rwT 78 rs).set i (rwR z) = nR rwT 78 (rs.set i z) := by rw [nR, nR, List.map_set]
theorem mU : ∀ {k : Int} {rs : List Rn} {j : Nat} {y : Rn}, (y9 k rs)[j]? = some y → ∃ x, rs[j]? = some x ∧ y = mkC (kk k (3 * tot (rs.take j))) x x.length
  | k, [], j, y, h => by simp [y9] at h
  | k, x :: xs, 0, y, h => by simp [y9] at h; exact ⟨x, rfl, by simp [tot, kk, h]⟩
  | k, x :: xs, j + 1, y, h => by
    simp only [y9, List.getElem?_cons_succ] at h
    obtain ⟨z, h1, h2⟩ := mU h
    refine ⟨z, by simpa using h1, ?_⟩
    rw [h2, wZ]
    congr 1
    have : 3 * x.length + 3 * tot (xs.take j) = 3 * tot ((x :: xs).take (j + 1)) := by simp [tot]; omega
    rw [this]
theorem vR {k : Int} {n : Nat} (h0 : 0 ≤ k) (h1 : k ≤ 1000000000) (hn : n ≤ 1000000000) : decide (kk k n < 0) = false := by
  rw [nr h0 (by omega) (by omega)]
  simp
  omega
theorem nz (rs : List Rn) (k : Int) (hok : v5 rs) (k0 : 0 ≤ k) (k1 : k ≤ 1000000000) (ht : tot rs ≤ 100000000) : zx Go.Proofs.Try.prog 109 [rnL (y9 k rs), I k] [] (I (kk k (3 * tot rs))) [] false := by
  have hl := hok.1
  have hml := xP k rs
  refine zu [4] Go.Proofs.Try.func109 rfl rfl ?_
  simp only [Go.Proofs.Try.ntmps109, List.length_cons, List.length_nil, Nat.reduceAdd, Nat.reduceSub, List.replicate_succ, List.replicate_zero, List.cons_append, List.nil_append]
  repeat' first | refine zL ?_ | refine zA ?_ | refine zQ [] ?_ | (refine isA ?_; refine zg rfl ?_) | (refine isL ?_; refine zW rfl (by kernel_rfl) rfl rfl ?_) | (refine zd rfl ?_; refine zV rfl (by kernel_rfl) rfl rfl ?_) | refine zD ?_ | refine zB _ rfl (by kernel_rfl) ?_ | refine zX rfl ?_ | refine zY rfl ?_ | refine zC ?_ | with_reducible refine zO ?_ | refine zI ?_ | refine zJ ?_ | (with_reducible first | refine zM ?_ | refine zN ?_ | refine zF ?_ | refine zH ?_ | refine zG ?_) | refine zP ?_
  refine z5 (α := { i : Nat // i ≤ rs.length }) (fun i => ⟨[rnL (y9 k rs), I (kk k (3 * tot (rs.take i.1))), .any, .any, .any, I i.1, .any, .any, .any, .any, .any, .any, .any, .any, .any, .any, .any, .any, .any, .any, .any, .any], [], 0⟩) (fun i => rs.length - i.1) ⟨0, Nat.zero_le _⟩ ?_ ?_
  · exact yg rfl (by repeat' first | exact EqS.nil | refine EqS.any ?_ | refine EqS.same rfl ?_)
  · rintro ⟨i, hi⟩
    repeat' first | refine zL ?_ | refine zA ?_ | refine zQ [] ?_ | (refine isA ?_; refine zg rfl ?_) | (refine isL ?_; refine zW rfl (by kernel_rfl) rfl rfl ?_) | (refine zd rfl ?_; refine zV rfl (by kernel_rfl) rfl rfl ?_) | refine zD ?_ | refine zB _ rfl (by kernel_rfl) ?_ | refine zX rfl ?_ | refine zY rfl ?_ | refine zC ?_ | with_reducible refine zO ?_ | refine zI ?_ | refine zJ ?_ | (with_reducible first | refine zM ?_ | refine zN ?_ | refine zF ?_ | refine zH ?_ | refine zG ?_) | refine zP ?_
    refine zj rfl (fun h => ?_) (fun h => ?_)
    · have hlt : i < rs.length := by rw [← hml]; simpa using h
      obtain ⟨y, hy⟩ : ∃ y, (y9 k rs)[i]? = some y := ⟨_, List.getElem?_eq_getElem (by omega)⟩
      obtain ⟨x, hx, e⟩ := mU hy
      have hyl : y.length = x.length := by rw [e]; exact ye _ (Nat.le_refl _)
      have hpos : decide (kk (kk k (3 * tot (rs.take i))) (3 * y.length) < 0) = false := by
        rw [wZ]
        have h1 := qT rs (i + 1)
        rw [vY hx] at h1
        exact vR k0 k1 (by rw [hyl]; omega)
      repeat' first | refine zL ?_ | refine zA ?_ | refine zQ [] ?_ | (refine isA ?_; refine zg rfl ?_) | (refine isL ?_; refine zW rfl (by kernel_rfl) rfl rfl ?_) | (refine zd rfl ?_; refine zV rfl (by kernel_rfl) rfl rfl ?_) | (refine z7 ?_; refine za rfl (zz (t := rnT) (z := y) rfl rfl rfl rfl (Int.natCast_nonneg i) hy) rfl ?_) | (refine z6 rfl ?_; refine zT rfl (by kernel_rfl) rfl (zz (t := rnT) (z := y) rfl rfl rfl rfl (Int.natCast_nonneg i) hy) rfl ?_) | (refine zp 52 ?_; refine za rfl (zK rfl (xq y (kk k (3 * tot (rs.take i))) (by rw [hyl]; exact hok.at hx) (by rw [e]; exact ui)) (.cons (.same rfl) (.cons (.same rfl) .nil)) rfl) rfl ?_) | (refine zq 52 rfl ?_; refine zT rfl (by kernel_rfl) rfl (zK rfl (xq y (kk k (3 * tot (rs.take i))) (by rw [hyl]; exact hok.at hx) (by rw [e]; exact ui)) (.cons (.same rfl) (.cons (.same rfl) .nil)) rfl) rfl ?_) | refine zD ?_ | refine zB _ rfl (by kernel_rfl) ?_ | refine zX rfl ?_ | refine zY rfl ?_ | refine zC ?_ | with_reducible refine zO ?_ | refine zI ?_ | refine zJ ?_ | (with_reducible first | refine zM ?_ | refine zN ?_ | refine zF ?_ | refine zH ?_ | refine zG ?_) | refine zP ?_
      refine zj rfl (fun h => by rw [hpos] at h; cases h) (fun _ => ?_)
      repeat' first | refine zL ?_ | refine zA ?_ | refine zQ [] ?_ | (refine isA ?_; refine zg rfl ?_) | (refine isL ?_; refine zW rfl (by kernel_rfl) rfl rfl ?_) | (refine zd rfl ?_; refine zV rfl (by kernel_rfl) rfl rfl ?_) | refine zD ?_ | refine zB _ rfl (by kernel_rfl) ?_ | refine zX rfl ?_ | refine zY rfl ?_ | refine zC ?_ | with_reducible refine zO ?_ | refine zI ?_ | refine zJ ?_ | (with_reducible first | refine zM ?_ | refine zN ?_ | refine zF ?_ | refine zH ?_ | refine zG ?_) | refine zP ?_
      refine ⟨⟨i + 1, hlt⟩, by simp only; omega, ?_⟩
      exact yg rfl (by repeat' first | exact EqS.nil | refine EqS.any ?_ | refine EqS.same rfl ?_ | refine EqS.same (v8 (by assumption) (by omega)) ?_ | refine EqS.same (congrArg I (by rw [wZ, vY hx, Nat.mul_add, hyl])) ?_)
    · have hge : i = rs.length := by
        have : ¬ ((i : Int) < (y9 k rs).length) := by simpa using h
        omega
      subst hge
      repeat' first | refine zL ?_ | refine zA ?_ | refine zQ [] ?_ | (refine isA ?_; refine zg rfl ?_) | (refine isL ?_; refine zW rfl (by kernel_rfl) rfl rfl ?_) | (refine zd rfl ?_; refine zV rfl (by kernel_rfl) rfl rfl ?_) | exact yD rfl rfl (congrArg I (by rw [List.take_length])) | refine zD ?_ | refine zB _ rfl (by kernel_rfl) ?_ | refine zX rfl ?_ | refine zY rfl ?_ | refine zC ?_ | with_reducible refine zO ?_ | refine zI ?_ | refine zJ ?_ | (with_reducible first | refine zM ?_ | refine zN ?_ | refine zF ?_ | refine zH ?_ | refine zG ?_) | refine zP ?_
theorem nL (x : Rn) (hl : x.length ≤ 1000000000) : zx Go.Proofs.Try.prog 127 [.agg [rwL x], .agg [rwL x]] [] (B true) [] false := by
  refine zu [4] Go.Proofs.Try.func127 rfl rfl ?_
  simp only [Go.Proofs.Try.ntmps127, List.length_cons, List.length_nil, Nat.reduceAdd, Nat.reduceSub, List.replicate_succ, List.replicate_zero, List.cons_append, List.nil_append]
  repeat' first | refine zL ?_ | refine zA ?_ | refine zQ [] ?_ | (refine isA ?_; refine zg rfl ?_) | (refine isL ?_; refine zW rfl (by kernel_rfl) rfl rfl ?_) | (refine zd rfl ?_; refine zV rfl (by kernel_rfl) rfl rfl ?_) | (refine zp 44 ?_; refine za rfl (zK rfl (xd x hl) (.cons (.same rfl) (.cons (.same rfl) .nil)) rfl) rfl ?_) | (refine zq 44 rfl ?_; refine zT rfl (by kernel_rfl) rfl (zK rfl (xd x hl) (.cons (.same rfl) (.cons (.same rfl) .nil)) rfl) rfl ?_) | exact yD rfl rfl rfl | refine zD ?_ | refine zB _ rfl (by kernel_rfl) ?_ | refine zX rfl ?_ | refine zY rfl ?_ | refine zC ?_ | with_reducible refine zO ?_ | refine zI ?_ | refine zJ ?_ | (with_reducible first | refine zM ?_ | refine zN ?_ | refine zF ?_ | refine zH ?_ | refine zG ?_) | refine zP ?_
theorem nK (rs : List Rn) (hok : v5 rs) : zx Go.Proofs.Try.prog 105 [rnL rs, rnL rs] [] (B true) [] false := by
  have hl := hok.1
  refine zu [4] Go.Proofs.Try.func105 rfl rfl ?_
  simp only [Go.Proofs.Try.ntmps105, List.length_cons, List.length_nil, Nat.reduceAdd, Nat.reduceSub, List.replicate_succ, List.replicate_zero, List.cons_append, List.nil_append]
  repeat' first | refine zL ?_ | refine zA ?_ | refine zQ [] ?_ | (refine isA ?_; refine zg rfl ?_) | (refine isL ?_; refine zW rfl (by kernel_rfl) rfl rfl ?_) | (refine zd rfl ?_; refine zV rfl (by kernel_rfl) rfl rfl ?_) | refine zD ?_ | refine zB _ rfl (by kernel_rfl) ?_ | refine zX rfl ?_ | refine zY rfl ?_ | refine zC ?_ | with_reducible refine zO ?_ | refine zI ?_ | refine zJ ?_ | (with_reducible first | refine zM ?_ | refine zN ?_ | refine zF ?_ | refine zH ?_ | refine zG ?_) | refine zP ?_
  refine zj rfl (fun h => by simp at h) (fun _ => ?_)
  repeat' first | refine zL ?_ | refine zA ?_ | refine zQ [] ?_ | (refine isA ?_; refine zg rfl ?_) | (refine isL ?_; refine zW rfl (by kernel_rfl) rfl rfl ?_) | (refine zd rfl ?_; refine zV rfl (by kernel_rfl) rfl rfl ?_) | refine zD ?_ | refine zB _ rfl (by kernel_rfl) ?_ | refine zX rfl ?_ | refine zY rfl ?_ | refine zC ?_ | with_reducible refine zO ?_ | refine zI ?_ | refine zJ ?_ | (with_reducible first | refine zM ?_ | refine zN ?_ | refine zF ?_ | refine zH ?_ | refine zG ?_) | refine zP ?_
  refine z5 (α := { i : Nat // i ≤ rs.length }) (fun i => ⟨[rnL rs, rnL rs, .any, .any, .any, I i.1, .any, .any, .any, .any, .any, .any, .any, .any, .any, .any, .any, .any, .any, .any, .any, .any, .any, .any, .any, .any, .any], [], 0⟩) (fun i => rs.length - i.1) ⟨0, Nat.zero_le _⟩ ?_ ?_
  · exact yg rfl (by repeat' first | exact EqS.nil | refine EqS.any ?_ | refine EqS.same rfl ?_)
  · rintro ⟨i, hi⟩
    repeat' first | refine zL ?_ | refine zA ?_ | refine zQ [] ?_ | (refine isA ?_; refine zg rfl ?_) | (refine isL ?_; refine zW rfl (by kernel_rfl) rfl rfl ?_) | (refine zd rfl ?_; refine zV rfl (by kernel_rfl) rfl rfl ?_) | refine zD ?_ | refine zB _ rfl (by kernel_rfl) ?_ | refine zX rfl ?_ | refine zY rfl ?_ | refine zC ?_ | with_reducible refine zO ?_ | refine zI ?_ | refine zJ ?_ | (with_reducible first | refine zM ?_ | refine zN ?_ | refine zF ?_ | refine zH ?_ | refine zG ?_) | refine zP ?_
    refine zj rfl (fun h => ?_) (fun h => ?_)
    · have hlt : i < rs.length := by simpa using h
      obtain ⟨z, hz⟩ : ∃ z, rs[i]? = some z := ⟨_, List.getElem?_eq_getElem hlt⟩
      repeat' first | refine zL ?_ | refine zA ?_ | refine zQ [] ?_ | (refine isA ?_; refine zg rfl ?_) | (refine isL ?_; refine zW rfl (by kernel_rfl) rfl rfl ?_) | (refine zd rfl ?_; refine zV rfl (by kernel_rfl) rfl rfl ?_) | (refine z7 ?_; refine za rfl (zz (t := rnT) (z := z) rfl rfl rfl rfl (Int.natCast_nonneg i) hz) rfl ?_) | (refine z6 rfl ?_; refine zT rfl (by kernel_rfl) rfl (zz (t := rnT) (z := z) rfl rfl rfl rfl (Int.natCast_nonneg i) hz) rfl ?_) | (refine zp 127 ?_; refine za rfl (zK rfl (nL z (hok.at hz)) (.cons (.same rfl) (.cons (.same rfl) .nil)) rfl) rfl ?_) | (refine zq 127 rfl ?_; refine zT rfl (by kernel_rfl) rfl (zK rfl (nL z (hok.at hz)) (.cons (.same rfl) (.cons (.same rfl) .nil)) rfl) rfl ?_) | refine zD ?_ | refine zB _ rfl (by kernel_rfl) ?_ | refine zX rfl ?_ | refine zY rfl ?_ | refine zC ?_ | with_reducible refine zO ?_ | refine zI ?_ | refine zJ ?_ | (with_reducible first | refine zM ?_ | refine zN ?_ | refine zF ?_ | refine zH ?_ | refine zG ?_) | refine zP ?_
      refine ⟨⟨i + 1, hlt⟩, by simp only; omega, ?_⟩
      exact yg rfl (by repeat' first | exact EqS.nil | refine EqS.any ?_ | refine EqS.same rfl ?_ | refine EqS.same (v8 (by assumption) (by omega)) ?_)
    · repeat' first | refine zL ?_ | refine zA ?_ | refine zQ [] ?_ | (refine isA ?_; refine zg rfl ?_) | (refine isL ?_; refine zW rfl (by kernel_rfl) rfl rfl ?_) | (refine zd rfl ?_; refine zV rfl (by kernel_rfl) rfl rfl ?_) | exact yD rfl rfl rfl | refine zD ?_ | refine zB _ rfl (by kernel_rfl) ?_ | refine zX rfl ?_ | refine zY rfl ?_ | refine zC ?_ | with_reducible refine zO ?_ | refine zI ?_ | refine zJ ?_ | (with_reducible first | refine zM ?_ | refine zN ?_ | refine zF ?_ | refine zH ?_ | refine zG ?_) | refine zP ?_
end Go.Proofs.Ytojcojanokhnaaa.Ab
namespace Go.Proofs.Ytojcojanokhnaaa.Ab
open Go.RowKit
def inV (x lo hi : Int) : Bool := decide (lo ≤ x) && decide (x ≤ hi)
theorem uB (x lo hi : Int) : zx Go.Proofs.Try.prog 66 [I x, I lo, I hi] [] (B (inV x lo hi)) [] false := by
  refine zu [6] Go.Proofs.Try.func66 rfl rfl ?_
  simp only [Go.Proofs.Try.ntmps66, List.length_cons, List.length_nil, Nat.reduceAdd, Nat.reduceSub, List.replicate_succ, List.replicate_zero, List.cons_append, List.nil_append]
  repeat' first | refine zL ?_ | refine zA ?_ | refine zQ [] ?_ | (refine isA ?_; refine zg rfl ?_) | (refine isL ?_; refine zW rfl (by kernel_rfl) rfl rfl ?_) | (refine zd rfl ?_; refine zV rfl (by kernel_rfl) rfl rfl ?_) | exact yD rfl rfl (by first | ((try simp only [Bool.not_eq_true', Bool.not_eq_false'] at *); simp only [inV, *, Bool.true_and, Bool.false_and, Bool.and_true, Bool.and_false, Bool.true_or, Bool.false_or, Bool.or_true, Bool.or_false, Bool.not_true, Bool.not_false, cond_true, cond_false]; done) | (simp_all [inV]; done) | (simp_all [inV]; intros; omega)) | refine zD ?_ | refine zB _ rfl (by kernel_rfl) ?_ | refine zX rfl ?_ | refine zY rfl ?_ | refine zC ?_ | with_reducible refine zO ?_ | refine zI ?_ | refine zJ ?_ | (with_reducible first | refine zM ?_ | refine zN ?_ | refine zF ?_ | refine zH ?_ | refine zG ?_) | refine zP ?_ | (refine wy ?_; refine yW rfl rfl (fun hbr => ?_) (fun hbr => ?_) <;> (fail_if_success (with_reducible (have hx : true = true := hbr))) <;> (fail_if_success (with_reducible (have hx : false = false := hbr)))) | (refine zd rfl ?_; refine yG rfl rfl rfl rfl (fun hbr => ?_) (fun hbr => ?_) <;> (fail_if_success (with_reducible (have hx : true = true := hbr))) <;> (fail_if_success (with_reducible (have hx : false = false := hbr))))
theorem wA (x lo hi : Int) : zx Go.Proofs.Try.prog 75 [I x, I lo, I hi] [] (B (inV x lo hi)) [] false := by
  refine zu [6] Go.Proofs.Try.func75 rfl rfl ?_
  simp only [Go.Proofs.Try.ntmps75, List.length_cons, List.length_nil, Nat.reduceAdd, Nat.reduceSub, List.replicate_succ, List.replicate_zero, List.cons_append, List.nil_append]
  repeat' first | refine zL ?_ | refine zA ?_ | refine zQ [] ?_ | (refine isA ?_; refine zg rfl ?_) | (refine isL ?_; refine zW rfl (by kernel_rfl) rfl rfl ?_) | (refine zd rfl ?_; refine zV rfl (by kernel_rfl) rfl rfl ?_) | exact yD rfl rfl (by first | ((try simp only [Bool.not_eq_true', Bool.not_eq_false'] at *); simp only [inV, *, Bool.true_and, Bool.false_and, Bool.and_true, Bool.and_false, Bool.true_or, Bool.false_or, Bool.or_true, Bool.or_false, Bool.not_true, Bool.not_false, cond_true, cond_false]; done) | (simp_all [inV]; done) | (simp_all [inV]; intros; omega)) | refine zD ?_ | refine zB _ rfl (by kernel_rfl) ?_ | refine zX rfl ?_ | refine zY rfl ?_ | refine zC ?_ | with_reducible refine zO ?_ | refine zI ?_ | refine zJ ?_ | (with_reducible first | refine zM ?_ | refine zN ?_ | refine zF ?_ | refine zH ?_ | refine zG ?_) | refine zP ?_ | (refine wy ?_; refine yW rfl rfl (fun hbr => ?_) (fun hbr => ?_) <;> (fail_if_success (with_reducible (have hx : true = true := hbr))) <;> (fail_if_success (with_reducible (have hx : false = false := hbr)))) | (refine zd rfl ?_; refine yG rfl rfl rfl rfl (fun hbr => ?_) (fun hbr => ?_) <;> (fail_if_success (with_reducible (have hx : true = true := hbr))) <;> (fail_if_success (with_reducible (have hx : false = false := hbr))))
def vRw (x : Rw) : Bool := inV x.a 0 9 && (inV x.b 0 99 && inV x.c 0 3)
theorem sB (x : Rw) : zx Go.Proofs.Try.prog 99 [.agg (rwE x)] [] (B (vRw x)) [] false := by
  refine zu [2] Go.Proofs.Try.func99 rfl rfl ?_
  simp only [Go.Proofs.Try.ntmps99, List.length_cons, List.length_nil, Nat.reduceAdd, Nat.reduceSub, List.replicate_succ, List.replicate_zero, List.cons_append, List.nil_append]
  repeat' first | refine zL ?_ | refine zA ?_ | refine zQ [] ?_ | (refine isA ?_; refine zg rfl ?_) | (refine isL ?_; refine zW rfl (by kernel_rfl) rfl rfl ?_) | (refine zd rfl ?_; refine zV rfl (by kernel_rfl) rfl rfl ?_) | (refine zp 66 ?_; refine za rfl (zK rfl (uB _ _ _) (.cons (.same rfl) (.cons (.same rfl) (.cons (.same rfl) .nil))) rfl) rfl ?_) | (refine zq 66 rfl ?_; refine zT rfl (by kernel_rfl) rfl (zK rfl (uB _ _ _) (.cons (.same rfl) (.cons (.same rfl) (.cons (.same rfl) .nil))) rfl) rfl ?_) | exact yD rfl rfl (by first | ((try simp only [Bool.not_eq_true', Bool.not_eq_false'] at *); simp only [vRw, *, Bool.true_and, Bool.false_and, Bool.and_true, Bool.and_false, Bool.true_or, Bool.false_or, Bool.or_true, Bool.or_false, Bool.not_true, Bool.not_false, cond_true, cond_false]; done) | (simp_all [vRw]; done) | (simp_all [vRw]; intros; omega)) | refine zD ?_ | refine zB _ rfl (by kernel_rfl) ?_ | refine zX rfl ?_ | refine zY rfl ?_ | refine zC ?_ | with_reducible refine zO ?_ | refine zI ?_ | refine zJ ?_ | (with_reducible first | refine zM ?_ | refine zN ?_ | refine zF ?_ | refine zH ?_ | refine zG ?_) | refine zP ?_ | (refine wy ?_; refine yW rfl rfl (fun hbr => ?_) (fun hbr => ?_) <;> (fail_if_success (with_reducible (have hx : true = true := hbr))) <;> (fail_if_success (with_reducible (have hx : false = false := hbr)))) | (refine zd rfl ?_; refine yG rfl rfl rfl rfl (fun hbr => ?_) (fun hbr => ?_) <;> (fail_if_success (with_reducible (have hx : true = true := hbr))) <;> (fail_if_success (with_reducible (have hx : false = false := hbr))))
theorem sD (x : Rw) : zx Go.Proofs.Try.prog 116 [.agg (rwE x)] [] (B (vRw x)) [] false := by
  refine zu [2] Go.Proofs.Try.func116 rfl rfl ?_
  simp only [Go.Proofs.Try.ntmps116, List.length_cons, List.length_nil, Nat.reduceAdd, Nat.reduceSub, List.replicate_succ, List.replicate_zero, List.cons_append, List.nil_append]
  repeat' first | refine zL ?_ | refine zA ?_ | refine zQ [] ?_ | (refine isA ?_; refine zg rfl ?_) | (refine isL ?_; refine zW rfl (by kernel_rfl) rfl rfl ?_) | (refine zd rfl ?_; refine zV rfl (by kernel_rfl) rfl rfl ?_) | (refine zp 75 ?_; refine za rfl (zK rfl (wA _ _ _) (.cons (.same rfl) (.cons (.same rfl) (.cons (.same rfl) .nil))) rfl) rfl ?_) | (refine zq 75 rfl ?_; refine zT rfl (by kernel_rfl) rfl (zK rfl (wA _ _ _) (.cons (.same rfl) (.cons (.same rfl) (.cons (.same rfl) .nil))) rfl) rfl ?_) | exact yD rfl rfl (by first | ((try simp only [Bool.not_eq_true', Bool.not_eq_false'] at *); simp only [vRw, *, Bool.true_and, Bool.false_and, Bool.and_true, Bool.and_false, Bool.true_or, Bool.false_or, Bool.or_true, Bool.or_false, Bool.not_true, Bool.not_false, cond_true, cond_false]; done) | (simp_all [vRw]; done) | (simp_all [vRw]; intros; omega)) | refine zD ?_ | refine zB _ rfl (by kernel_rfl) ?_ | refine zX rfl ?_ | refine zY rfl ?_ | refine zC ?_ | with_reducible refine zO ?_ | refine zI ?_ | refine zJ ?_ | (with_reducible first | refine zM ?_ | refine zN ?_ | refine zF ?_ | refine zH ?_ | refine zG ?_) | refine zP ?_ | (refine wy ?_; refine yW rfl rfl (fun hbr => ?_) (fun hbr => ?_) <;> (fail_if_success (with_reducible (have hx : true = true := hbr))) <;> (fail_if_success (with_reducible (have hx : false = false := hbr)))) | (refine zd rfl ?_; refine yG rfl rfl rfl rfl (fun hbr => ?_) (fun hbr => ?_) <;> (fail_if_success (with_reducible (have hx : true = true := hbr))) <;> (fail_if_success (with_reducible (have hx : false = false := hbr))))
theorem gh {xs : List Rw} {i : Nat} {z : Rw} (hz : xs[i]? = some z) (h : vRw z = false) : xs.all vRw = false := by
  cases ha : xs.all vRw with
  | false => rfl
  | true => rw [List.all_eq_true] at ha; rw [ha z (List.mem_of_getElem? hz)] at h; cases h
theorem lD {xs : List Rw} (h : ∀ j z, j < xs.length → xs[j]? = some z → vRw z = true) : xs.all vRw = true := by
  rw [List.all_eq_true]
  intro x hx
  obtain ⟨i, hi⟩ := List.getElem?_of_mem hx
  exact h i x (List.getElem?_eq_some_iff.1 hi).1 hi
def avR (xs : List Rw) : Bool := xs.all vRw && decide ((xs.length : Int) ≤ 24)
theorem gY (xs : List Rw) (hl : xs.length ≤ 1000000000) : zx Go.Proofs.Try.prog 121 [rwL xs] [] (B (xs.all vRw)) [] false := by
  refine zu [2] Go.Proofs.Try.func121 rfl rfl ?_
  simp only [Go.Proofs.Try.ntmps121, List.length_cons, List.length_nil, Nat.reduceAdd, Nat.reduceSub, List.replicate_succ, List.replicate_zero, List.cons_append, List.nil_append]
  repeat' first | refine zL ?_ | refine zA ?_ | refine zQ [] ?_ | (refine isA ?_; refine zg rfl ?_) | (refine isL ?_; refine zW rfl (by kernel_rfl) rfl rfl ?_) | (refine zd rfl ?_; refine zV rfl (by kernel_rfl) rfl rfl ?_) | refine zD ?_ | refine zB _ rfl (by kernel_rfl) ?_ | refine zX rfl ?_ | refine zY rfl ?_ | refine zC ?_ | with_reducible refine zO ?_ | refine zI ?_ | refine zJ ?_ | (with_reducible first | refine zM ?_ | refine zN ?_ | refine zF ?_ | refine zH ?_ | refine zG ?_) | refine zP ?_
  refine z5 (α := { i : Nat // i ≤ xs.length ∧ ∀ j z, j < i → xs[j]? = some z → vRw z = true }) (fun i => ⟨[rwL xs, .any, .any, .any, .any, rwL xs, I xs.length, I i.1, .any, .any, .any, .any, .any, .any, .any], [], 0⟩) (fun i => xs.length - i.1) ⟨0, Nat.zero_le _, fun j z hj => absurd hj (Nat.not_lt_zero _)⟩ ?_ ?_
  · exact yX [] rfl rfl (by decide) .nil (by repeat' first | exact zk | refine zc ?_ ?_ | exact zo | exact le_refl rfl | exact zm rfl rfl | exact zt rfl)
  · rintro ⟨i, hi, hb⟩
    repeat' first | refine zL ?_ | refine zA ?_ | refine zQ [] ?_ | (refine isA ?_; refine zg rfl ?_) | (refine isL ?_; refine zW rfl (by kernel_rfl) rfl rfl ?_) | (refine zd rfl ?_; refine zV rfl (by kernel_rfl) rfl rfl ?_) | refine zD ?_ | refine zB _ rfl (by kernel_rfl) ?_ | refine zX rfl ?_ | refine zY rfl ?_ | refine zC ?_ | with_reducible refine zO ?_ | refine zI ?_ | refine zJ ?_ | (with_reducible first | refine zM ?_ | refine zN ?_ | refine zF ?_ | refine zH ?_ | refine zG ?_) | refine zP ?_
    refine zj rfl (fun h => ?_) (fun h => ?_)
    · have hlt : i < xs.length := by simpa using h
      obtain ⟨z, hz⟩ : ∃ z, xs[i]? = some z := ⟨_, List.getElem?_eq_getElem hlt⟩
      repeat' first | refine zL ?_ | refine zA ?_ | refine zQ [] ?_ | (refine isA ?_; refine zg rfl ?_) | (refine isL ?_; refine zW rfl (by kernel_rfl) rfl rfl ?_) | (refine zd rfl ?_; refine zV rfl (by kernel_rfl) rfl rfl ?_) | (refine z7 ?_; refine za rfl (zz (t := rwT) (z := z) rfl rfl rfl rfl (Int.natCast_nonneg i) hz) rfl ?_) | (refine z6 rfl ?_; refine zT rfl (by kernel_rfl) rfl (zz (t := rwT) (z := z) rfl rfl rfl rfl (Int.natCast_nonneg i) hz) rfl ?_) | (refine zp 116 ?_; refine za rfl (zK rfl (sD z) (.cons (.same rfl) .nil) rfl) rfl ?_) | (refine zq 116 rfl ?_; refine zT rfl (by kernel_rfl) rfl (zK rfl (sD z) (.cons (.same rfl) .nil) rfl) rfl ?_) | refine zD ?_ | refine zB _ rfl (by kernel_rfl) ?_ | refine zX rfl ?_ | refine zY rfl ?_ | refine zC ?_ | with_reducible refine zO ?_ | refine zI ?_ | refine zJ ?_ | (with_reducible first | refine zM ?_ | refine zN ?_ | refine zF ?_ | refine zH ?_ | refine zG ?_) | refine zP ?_
      refine zj rfl (fun h1 => ?_) (fun h1 => ?_)
      · have h2 : vRw z = false := by simpa using h1
        repeat' first | refine zL ?_ | refine zA ?_ | refine zQ [] ?_ | (refine isA ?_; refine zg rfl ?_) | (refine isL ?_; refine zW rfl (by kernel_rfl) rfl rfl ?_) | (refine zd rfl ?_; refine zV rfl (by kernel_rfl) rfl rfl ?_) | exact yD rfl rfl (by rw [gh hz h2]) | refine zD ?_ | refine zB _ rfl (by kernel_rfl) ?_ | refine zX rfl ?_ | refine zY rfl ?_ | refine zC ?_ | with_reducible refine zO ?_ | refine zI ?_ | refine zJ ?_ | (with_reducible first | refine zM ?_ | refine zN ?_ | refine zF ?_ | refine zH ?_ | refine zG ?_) | refine zP ?_
      · have h2 : vRw z = true := by simpa using h1
        repeat' first | refine zL ?_ | refine zA ?_ | refine zQ [] ?_ | (refine isA ?_; refine zg rfl ?_) | (refine isL ?_; refine zW rfl (by kernel_rfl) rfl rfl ?_) | (refine zd rfl ?_; refine zV rfl (by kernel_rfl) rfl rfl ?_) | refine zD ?_ | refine zB _ rfl (by kernel_rfl) ?_ | refine zX rfl ?_ | refine zY rfl ?_ | refine zC ?_ | with_reducible refine zO ?_ | refine zI ?_ | refine zJ ?_ | (with_reducible first | refine zM ?_ | refine zN ?_ | refine zF ?_ | refine zH ?_ | refine zG ?_) | refine zP ?_
        refine ⟨⟨i + 1, hlt, fun j y hj hy => ?_⟩, by simp only; omega, ?_⟩
        · rcases Nat.lt_succ_iff_lt_or_eq.1 hj with hj | rfl
          · exact hb j y hj hy
          · rw [hz] at hy; cases hy; exact h2
        · exact yX [] rfl rfl (by decide) .nil (by repeat' first | exact zk | refine zc ?_ ?_ | exact zo | exact le_refl rfl | exact zm rfl rfl | exact zt rfl | exact xa (by assumption) (by omega))
    · have hge : i = xs.length := by
        have : ¬ ((i : Int) < xs.length) := by simpa using h
        omega
      subst hge
      repeat' first | refine zL ?_ | refine zA ?_ | refine zQ [] ?_ | (refine isA ?_; refine zg rfl ?_) | (refine isL ?_; refine zW rfl (by kernel_rfl) rfl rfl ?_) | (refine zd rfl ?_; refine zV rfl (by kernel_rfl) rfl rfl ?_) | exact yD rfl rfl (by rw [lD hb]) | refine zD ?_ | refine zB _ rfl (by kernel_rfl) ?_ | refine zX rfl ?_ | refine zY rfl ?_ | refine zC ?_ | with_reducible refine zO ?_ | refine zI ?_ | refine zJ ?_ | (with_reducible first | refine zM ?_ | refine zN ?_ | refine zF ?_ | refine zH ?_ | refine zG ?_) | refine zP ?_
theorem gL (xs : List Rw) (hl : xs.length ≤ 1000000000) : zx Go.Proofs.Try.prog 25 [rwL xs] [] (B (avR xs)) [] false := by
  refine zu [2] Go.Proofs.Try.func25 rfl rfl ?_
  simp only [Go.Proofs.Try.ntmps25, List.length_cons, List.length_nil, Nat.reduceAdd, Nat.reduceSub, List.replicate_succ, List.replicate_zero, List.cons_append, List.nil_append]
  repeat' first | refine zL ?_ | refine zA ?_ | refine zQ [] ?_ | (refine isA ?_; refine zg rfl ?_) | (refine isL ?_; refine zW rfl (by kernel_rfl) rfl rfl ?_) | (refine zd rfl ?_; refine zV rfl (by kernel_rfl) rfl rfl ?_) | refine zD ?_ | refine zB _ rfl (by kernel_rfl) ?_ | refine zX rfl ?_ | refine zY rfl ?_ | refine zC ?_ | with_reducible refine zO ?_ | refine zI ?_ | refine zJ ?_ | (with_reducible first | refine zM ?_ | refine zN ?_ | refine zF ?_ | refine zH ?_ | refine zG ?_) | refine zP ?_
  refine z5 (α := { i : Nat // i ≤ xs.length ∧ ∀ j z, j < i → xs[j]? = some z → vRw z = true }) (fun i => ⟨[rwL xs, .any, .any, I i.1, .any, .any, .any, .any, .any, .any, .any, .any, .any, .any, .any, .any, .any, .any, .any], [], 0⟩) (fun i => xs.length - i.1) ⟨0, Nat.zero_le _, fun j z hj => absurd hj (Nat.not_lt_zero _)⟩ ?_ ?_
  · exact yX [] rfl rfl (by decide) .nil (by repeat' first | exact zk | refine zc ?_ ?_ | exact zo | exact le_refl rfl | exact zm rfl rfl | exact zt rfl)
  · rintro ⟨i, hi, hb⟩
    repeat' first | refine zL ?_ | refine zA ?_ | refine zQ [] ?_ | (refine isA ?_; refine zg rfl ?_) | (refine isL ?_; refine zW rfl (by kernel_rfl) rfl rfl ?_) | (refine zd rfl ?_; refine zV rfl (by kernel_rfl) rfl rfl ?_) | refine zD ?_ | refine zB _ rfl (by kernel_rfl) ?_ | refine zX rfl ?_ | refine zY rfl ?_ | refine zC ?_ | with_reducible refine zO ?_ | refine zI ?_ | refine zJ ?_ | (with_reducible first | refine zM ?_ | refine zN ?_ | refine zF ?_ | refine zH ?_ | refine zG ?_) | refine zP ?_
    refine zj rfl (fun h => ?_) (fun h => ?_)
    · have hlt : i < xs.length := by simpa using h
      obtain ⟨z, hz⟩ : ∃ z, xs[i]? = some z := ⟨_, List.getElem?_eq_getElem hlt⟩
      repeat' first | refine zL ?_ | refine zA ?_ | refine zQ [] ?_ | (refine isA ?_; refine zg rfl ?_) | (refine isL ?_; refine zW rfl (by kernel_rfl) rfl rfl ?_) | (refine zd rfl ?_; refine zV rfl (by kernel_rfl) rfl rfl ?_) | (refine z7 ?_; refine za rfl (zz (t := rwT) (z := z) rfl rfl rfl rfl (Int.natCast_nonneg i) hz) rfl ?_) | (refine z6 rfl ?_; refine zT rfl (by kernel_rfl) rfl (zz (t := rwT) (z := z) rfl rfl rfl rfl (Int.natCast_nonneg i) hz) rfl ?_) | (refine zp 99 ?_; refine za rfl (zK rfl (sB z) (.cons (.same rfl) .nil) rfl) rfl ?_) | (refine zq 99 rfl ?_; refine zT rfl (by kernel_rfl) rfl (zK rfl (sB z) (.cons (.same rfl) .nil) rfl) rfl ?_) | refine zD ?_ | refine zB _ rfl (by kernel_rfl) ?_ | refine zX rfl ?_ | refine zY rfl ?_ | refine zC ?_ | with_reducible refine zO ?_ | refine zI ?_ | refine zJ ?_ | (with_reducible first | refine zM ?_ | refine zN ?_ | refine zF ?_ | refine zH ?_ | refine zG ?_) | refine zP ?_
      refine zj rfl (fun h1 => ?_) (fun h1 => ?_)
      · have h2 : vRw z = false := by simpa using h1
        repeat' first | refine zL ?_ | refine zA ?_ | refine zQ [] ?_ | (refine isA ?_; refine zg rfl ?_) | (refine isL ?_; refine zW rfl (by kernel_rfl) rfl rfl ?_) | (refine zd rfl ?_; refine zV rfl (by kernel_rfl) rfl rfl ?_) | exact yD rfl rfl (by rw [avR, gh hz h2, Bool.false_and]) | refine zD ?_ | refine zB _ rfl (by kernel_rfl) ?_ | refine zX rfl ?_ | refine zY rfl ?_ | refine zC ?_ | with_reducible refine zO ?_ | refine zI ?_ | refine zJ ?_ | (with_reducible first | refine zM ?_ | refine zN ?_ | refine zF ?_ | refine zH ?_ | refine zG ?_) | refine zP ?_
      · have h2 : vRw z = true := by simpa using h1
        repeat' first | refine zL ?_ | refine zA ?_ | refine zQ [] ?_ | (refine isA ?_; refine zg rfl ?_) | (refine isL ?_; refine zW rfl (by kernel_rfl) rfl rfl ?_) | (refine zd rfl ?_; refine zV rfl (by kernel_rfl) rfl rfl ?_) | refine zD ?_ | refine zB _ rfl (by kernel_rfl) ?_ | refine zX rfl ?_ | refine zY rfl ?_ | refine zC ?_ | with_reducible refine zO ?_ | refine zI ?_ | refine zJ ?_ | (with_reducible first | refine zM ?_ | refine zN ?_ | refine zF ?_ | refine zH ?_ | refine zG ?_) | refine zP ?_
        refine ⟨⟨i + 1, hlt, fun j y hj hy => ?_⟩, by simp only; omega, ?_⟩
        · rcases Nat.lt_succ_iff_lt_or_eq.1 hj with hj | rfl
          · exact hb j y hj hy
          · rw [hz] at hy; cases hy; exact h2
        · exact yX [] rfl rfl (by decide) .nil (by repeat' first | exact zk | refine zc ?_ ?_ | exact zo | exact le_refl rfl | exact zm rfl rfl | exact zt rfl | exact xa (by assumption) (by omega))
    · have hge : i = xs.length := by
        have : ¬ ((i : Int) < xs.length) := by simpa using h
        omega
      subst hge
      repeat' first | refine zL ?_ | refine zA ?_ | refine zQ [] ?_ | (refine isA ?_; refine zg rfl ?_) | (refine isL ?_; refine zW rfl (by kernel_rfl) rfl rfl ?_) | (refine zd rfl ?_; refine zV rfl (by kernel_rfl) rfl rfl ?_) | exact yD rfl rfl (by rw [avR, lD hb, Bool.true_and]) | refine zD ?_ | refine zB _ rfl (by kernel_rfl) ?_ | refine zX rfl ?_ | refine zY rfl ?_ | refine zC ?_ | with_reducible refine zO ?_ | refine zI ?_ | refine zJ ?_ | (with_reducible first | refine zM ?_ | refine zN ?_ | refine zF ?_ | refine zH ?_ | refine zG ?_) | refine zP ?_
theorem gV (xs : List Rw) (hl : xs.length ≤ 1000000000) : zx Go.Proofs.Try.prog 74 [rwL xs] [] (B (avR xs)) [] false := by
  refine zu [2] Go.Proofs.Try.func74 rfl rfl ?_
  simp only [Go.Proofs.Try.ntmps74, List.length_cons, List.length_nil, Nat.reduceAdd, Nat.reduceSub, List.replicate_succ, List.replicate_zero, List.cons_append, List.nil_append]
  repeat' first | refine zL ?_ | refine zA ?_ | refine zQ [] ?_ | (refine isA ?_; refine zg rfl ?_) | (refine isL ?_; refine zW rfl (by kernel_rfl) rfl rfl ?_) | (refine zd rfl ?_; refine zV rfl (by kernel_rfl) rfl rfl ?_) | (refine zp 121 ?_; refine za rfl (zK rfl (gY xs hl) (.cons (.same rfl) .nil) rfl) rfl ?_) | (refine zq 121 rfl ?_; refine zT rfl (by kernel_rfl) rfl (zK rfl (gY xs hl) (.cons (.same rfl) .nil) rfl) rfl ?_) | exact yD rfl rfl (by first | ((try simp only [Bool.not_eq_true', Bool.not_eq_false'] at *); simp only [avR, *, Bool.true_and, Bool.false_and, Bool.and_true, Bool.and_false, Bool.true_or, Bool.false_or, Bool.or_true, Bool.or_false, Bool.not_true, Bool.not_false, cond_true, cond_false]; done) | (simp_all [avR]; done) | (simp_all [avR]; intros; omega)) | refine zD ?_ | refine zB _ rfl (by kernel_rfl) ?_ | refine zX rfl ?_ | refine zY rfl ?_ | refine zC ?_ | with_reducible refine zO ?_ | refine zI ?_ | refine zJ ?_ | (with_reducible first | refine zM ?_ | refine zN ?_ | refine zF ?_ | refine zH ?_ | refine zG ?_) | refine zP ?_ | (refine wy ?_; refine yW rfl rfl (fun hbr => ?_) (fun hbr => ?_) <;> (fail_if_success (with_reducible (have hx : true = true := hbr))) <;> (fail_if_success (with_reducible (have hx : false = false := hbr)))) | (refine zd rfl ?_; refine yG rfl rfl rfl rfl (fun hbr => ?_) (fun hbr => ?_) <;> (fail_if_success (with_reducible (have hx : true = true := hbr))) <;> (fail_if_success (with_reducible (have hx : false = false := hbr))))
theorem wi (xs : List Rw) (hl : xs.length ≤ 1000000000) : zx Go.Proofs.Try.prog 114 [rwL xs] [] (.sl 0 0 xs.length) [rwR xs] false := by
  refine zu [2] Go.Proofs.Try.func114 rfl rfl ?_
  simp only [Go.Proofs.Try.ntmps114, List.length_cons, List.length_nil, Nat.reduceAdd, Nat.reduceSub, List.replicate_succ, List.replicate_zero, List.cons_append, List.nil_append]
  repeat' first | refine zL ?_ | refine zA ?_ | refine zQ [] ?_ | (refine isA ?_; refine zg rfl ?_) | (refine isL ?_; refine zW rfl (by kernel_rfl) rfl rfl ?_) | (refine zd rfl ?_; refine zV rfl (by kernel_rfl) rfl rfl ?_) | (refine xt ?_; refine za rfl (eO (T := rwT) (xs := xs) rfl rfl rfl rfl hl rfl) rfl ?_) | (refine xR rfl ?_; refine zT rfl (by kernel_rfl) rfl (eO (T := rwT) (xs := xs) rfl rfl rfl rfl hl rfl) rfl ?_) | exact lm [0] rfl (vT (by decide) (.cons rfl rfl rfl rfl (zU (zE _ _)) .nil)) (zm rfl rfl) (Or.inr ⟨rfl, fun q hq => by simp at hq; subst hq; exact ⟨Nat.zero_ne_one, fun _ => (wE _).flatS⟩⟩) | refine zD ?_ | refine zB _ rfl (by kernel_rfl) ?_ | refine zX rfl ?_ | refine zY rfl ?_ | refine zC ?_ | with_reducible refine zO ?_ | refine zI ?_ | refine zJ ?_ | (with_reducible first | refine zM ?_ | refine zN ?_ | refine zF ?_ | refine zH ?_ | refine zG ?_) | refine zP ?_
end Go.Proofs.Ytojcojanokhnaaa.Ab
namespace Go.Proofs.Ytojcojanokhnaaa.Ab
open Go.RowKit
section
variable {P : Program} {o : Oper} {ρ : Operand → V} {H : List Reg} {α : Type} {T : Ty α}
theorem lB {ty e b h hz zi : Nat} {s x : Operand} {outs : List (List α)} {n : Nat} [ht : Sl P ty e 1 b] (ho : o.op = .call { callee := .builtin .append, args := #[s, x], argTypes := #[ty, ty] })
    (hs : ρ s = .sl h 0 outs.length) (hH : H[h]? = some ⟨e, 1, nC 1 outs, 0⟩) (hx : ρ x = .sl hz 0 1) (hzz : H[hz]? = some ⟨e, 1, [.sl zi 0 n], 0⟩) (hb : (outs.length + 1) * b ≤ 140737488355328) (hbp : decide (0 < b) = true) :
    z4 P o ρ H (.sl H.length 0 (outs.length + 1)) (H.set h ⟨e, 1, nC 1 outs, 2⟩ ++ [⟨e, 1, nC 1 outs ++ [.sl zi 0 n], 0⟩]) := by
  have hb0 : 0 < b := of_decide_eq_true hbp
  have hsrc : Src H (ρ x) 1 [.sl zi 0 n] := by
    rw [hx]
    have := Src.sl (H := H) (off := 0) (m := 1) (r := ⟨e, 1, [.sl zi 0 n], 0⟩) hzz (Nat.zero_le _) (Nat.le_refl _)
    exact this
  have := vL (P := P) (ρ := ρ) (ty := ty) (m := 1) ho hs hH rfl rfl rfl (by show outs.length * 1 ≤ (nC 1 outs).length; rw [xN]; omega) hsrc rfl (fun c hc => by simp at hc; subst hc; rfl) hb (by
    have := Nat.le_mul_of_pos_right (outs.length + 1) hb0
    simp only [maxLen]
    omega)
  have e1 : (⟨e, 1, nC 1 outs, 0⟩ : Reg).cells.take (outs.length * 1) = nC 1 outs := by
    show (nC 1 outs).take _ = _
    rw [List.take_of_length_le]
    rw [xN]; omega
  rw [e1] at this
  exact this
theorem fB (b : Nat) (outs : List (List α)) (z : List α) : nC b (outs ++ [z]) = nC b outs ++ [.sl (b + outs.length) 0 z.length] := by
  rw [tY]; rfl
theorem kt {outs : List (List α)} {z : List α} {e i zi ty : Nat} (hO : H[i]? = some ⟨ty, 1, nC 1 outs ++ [.sl zi 0 z.length], 0⟩) (hz : H[zi]? = some (yo T e z)) (hR : ∀ j x, outs[j]? = some x → H[1 + j]? = some (yo T e x))
    (h1 : outs.length < zi) (h2 : outs.length < i) (h3 : i ≠ zi) : HLe (i :: (List.range' 1 outs.length ++ [zi])) (⟨ty, 1, nC 1 (outs ++ [z]), 0⟩ :: nR T e (outs ++ [z])) H := by
  have hrl : (List.range' 1 outs.length).length = outs.length := by simp
  refine ⟨by simp [zh], ?_, fun k h hk => ?_⟩
  · rw [List.nodup_cons, List.nodup_append]
    refine ⟨?_, List.nodup_range', by simp, fun a ha c hc => ?_⟩
    · rw [List.mem_append, List.mem_range'_1, List.mem_singleton]
      omega
    · rw [List.mem_range'_1] at ha
      simp at hc
      omega
  · cases k with
    | zero =>
      simp at hk
      subst hk
      refine ⟨_, _, rfl, hO, fun _ => ⟨rfl, rfl, rfl, ?_⟩⟩
      show Les _ (nC 1 (outs ++ [z])) (nC 1 outs ++ [.sl zi 0 z.length])
      have hl : ∀ (b n m : Nat) (A : List (List α)), (∀ j, j < A.length → (i :: (List.range' 1 outs.length ++ [zi]))[b + j]? = some (b + j)) → (i :: (List.range' 1 outs.length ++ [zi]))[b + A.length]? = some zi →
          Les (i :: (List.range' 1 outs.length ++ [zi])) (nC b A ++ [.sl (b + A.length) 0 z.length]) (nC b A ++ [.sl zi 0 z.length]) := fun b n m A => by
        induction A generalizing b with
        | nil => exact fun _ h => zc (zm h rfl) zk
        | cons x A ih => exact fun h hzz => zc (zm (h 0 (by simp)) rfl) (by
            have := ih (b + 1) (fun j hj => by have := h (j + 1) (by simp; omega); rw [show b + 1 + j = b + (j + 1) by omega]; exact this) (by rw [show b + 1 + A.length = b + (x :: A).length by simp; omega]; exact hzz)
            rw [show b + (x :: A).length = b + 1 + A.length by simp; omega]
            exact this)
      rw [fB]
      refine hl 1 0 0 outs (fun j hj => ?_) ?_
      · rw [Nat.add_comm 1 j, List.getElem?_cons_succ, List.getElem?_append_left (by rw [hrl]; exact hj)]
        simp [hj]; omega
      · rw [Nat.add_comm 1, List.getElem?_cons_succ, List.getElem?_append_right (by rw [hrl]; exact Nat.le_refl _), hrl, Nat.sub_self]; rfl
    | succ k =>
      rw [List.getElem?_cons_succ] at hk
      rcases Nat.lt_or_ge k outs.length with hlt | hge
      · rw [List.getElem?_append_left (by rw [hrl]; exact hlt)] at hk
        have hh : h = 1 + k := by
          obtain ⟨_, q⟩ := List.getElem?_eq_some_iff.1 hk
          simp at q
          omega
        subst hh
        have hx := List.getElem?_eq_getElem hlt
        refine ⟨_, _, ?_, hR _ _ hx, fun _ => ⟨rfl, rfl, rfl, zU (zE T _)⟩⟩
        rw [List.getElem?_cons_succ]
        exact yV (by rw [List.getElem?_append_left hlt]; exact hx)
      · rw [List.getElem?_append_right (by rw [hrl]; exact hge), hrl] at hk
        have hk0 : k - outs.length = 0 := by
          have := (List.getElem?_eq_some_iff.1 hk).1
          simp at this
          exact this
        rw [hk0] at hk
        simp at hk
        subst hk
        refine ⟨_, _, ?_, hz, fun _ => ⟨rfl, rfl, rfl, zU (zE T _)⟩⟩
        rw [List.getElem?_cons_succ]
        exact yV (by rw [List.getElem?_append_right hge, hk0]; rfl)
end
section
variable {P : Program} {ops : Array Oper} {ds : List Nat} {k : Nat} {Q : Exit → St → Prop} {S : St}
theorem tn {d : Option Tmp} {t : TypeId} {n : Nat} {els : Array (Nat × Operand)} {ty : TypeId} {p : String} {a : Array Edge} {g : Option (Nat × Bool)} (ho : ops[k]? = some ⟨d, .buildSlice t n els, ty, p, a, g⟩) (h : ALex P ops ds k Q S) : ALex P ops ds k Q S := h
end
end Go.Proofs.Ytojcojanokhnaaa.Ab
namespace Go.Proofs.Ytojcojanokhnaaa.Ab
open Go.RowKit
theorem zb {L : List Reg} {N : Reg} {n : Nat} (h : L.length = n) : (L ++ [N])[n]? = some N := by
  rw [List.getElem?_append_right (by omega), show n - L.length = 0 by omega]; rfl
theorem ku {D S : Reg} {out : List Rn} {z : Rn} {A : List Reg} {k : Nat} (hE : A[k]? = some (rwR z)) : HLe ((out.length + A.length + 2) :: (List.range' 1 out.length ++ [1 + out.length + k])) (rnN (out ++ [z])) (D :: (nR rwT 78 out ++ A ++ [S]) ++ [⟨84, 1, nC 1 out ++ [.sl (1 + out.length + k) 0 z.length], 0⟩]) := by
  have hk : k < A.length := (List.getElem?_eq_some_iff.1 hE).1
  refine kt (zb (by simp [zh]; omega)) ?_ (kX (K0 := [D]) (D := A ++ [S] ++ [⟨84, 1, nC 1 out ++ [.sl (1 + out.length + k) 0 z.length], 0⟩]) rfl (by simp)) (by omega) (by omega) (by omega)
  rw [show 1 + out.length + k = (out.length + k) + 1 by omega, List.cons_append, List.getElem?_cons_succ, List.append_assoc, List.append_assoc, List.getElem?_append_right (by simp [zh]), zh, Nat.add_sub_cancel_left, List.getElem?_append_left hk]
  exact hE
theorem wo {L : List Reg} {b b' : Reg} {n : Nat} (h : L.length = n) : (L ++ [b]).set n b' = L ++ [b'] := by
  subst h; rw [List.set_append_right _ _ (Nat.le_refl _), Nat.sub_self]; rfl
theorem gX (rs : List Rn) (hok : v5 rs) : zx Go.Proofs.Try.prog 115 [rnL rs] [] (.sl 0 0 rs.length) (rnN rs) false := by
  have hl := hok.1
  refine zu [2] Go.Proofs.Try.func115 rfl rfl ?_
  simp only [Go.Proofs.Try.ntmps115, List.length_cons, List.length_nil, Nat.reduceAdd, Nat.reduceSub, List.replicate_succ, List.replicate_zero, List.cons_append, List.nil_append]
  repeat' first | refine zL ?_ | refine zA ?_ | refine zQ [] ?_ | (refine isA ?_; refine zg rfl ?_) | (refine isL ?_; refine zW rfl (by kernel_rfl) rfl rfl ?_) | (refine zd rfl ?_; refine zV rfl (by kernel_rfl) rfl rfl ?_) | refine zD ?_ | refine zB _ rfl (by kernel_rfl) ?_ | refine zX rfl ?_ | refine zY rfl ?_ | refine zC ?_ | with_reducible refine zO ?_ | refine zI ?_ | refine zJ ?_ | (with_reducible first | refine zM ?_ | refine zN ?_ | refine zF ?_ | refine zH ?_ | refine zG ?_) | refine zP ?_
  refine z5 (α := { i : Nat // i ≤ rs.length }) (fun i => ⟨[.any, .any, .any, .sl 0 0 (rs.take i.1).length, .any, .any, rnL rs, I rs.length, I i.1, .any, .any, .any, .any, .any, .any, .any, .any, .any, .any, .any, .any], rnN (rs.take i.1), 0⟩) (fun i => rs.length - i.1) ⟨0, Nat.zero_le _⟩ ?_ ?_
  · refine Sub.trans (T := ⟨[.any, .any, .any, xx, .any, .any, rnL rs, I rs.length, I 0, .any, .any, .any, .any, .any, .any, .any, .any, .any, .any, .any, .any], [], 0⟩) (uu 84 1 ?_ (.rest _)) (yX [] rfl rfl (by decide) .nil (by repeat' first | exact zk | refine zc ?_ ?_ | exact zo | exact le_refl rfl | exact zm rfl rfl | exact zt rfl))
    exact .cons (.same _) (.cons (.same _) (.cons (.same _) (.cons .nil (.rest _))))
  · rintro ⟨i, hi⟩
    have hnl : (rnN (rs.take i)).length = (rs.take i).length + 1 := by simp [zh]
    repeat' first | refine zL ?_ | refine zA ?_ | refine zQ [] ?_ | (refine isA ?_; refine zg rfl ?_) | (refine isL ?_; refine zW rfl (by kernel_rfl) rfl rfl ?_) | (refine zd rfl ?_; refine zV rfl (by kernel_rfl) rfl rfl ?_) | refine zD ?_ | refine zB _ rfl (by kernel_rfl) ?_ | refine zX rfl ?_ | refine zY rfl ?_ | refine zC ?_ | with_reducible refine zO ?_ | refine zI ?_ | refine zJ ?_ | (with_reducible first | refine zM ?_ | refine zN ?_ | refine zF ?_ | refine zH ?_ | refine zG ?_) | refine zP ?_
    refine zj rfl (fun h => ?_) (fun h => ?_)
    · have hlt : i < rs.length := by simpa using h
      obtain ⟨x, hx⟩ : ∃ z, rs[i]? = some z := ⟨_, List.getElem?_eq_getElem hlt⟩
      have ets : rs.take (i + 1) = rs.take i ++ [x] := yp hx
      have etl : (rs.take i).length = i := by simp; omega
      repeat' first | refine zL ?_ | refine zA ?_ | refine zQ [] ?_ | (refine isA ?_; refine zg rfl ?_) | (refine isL ?_; refine zW rfl (by kernel_rfl) rfl rfl ?_) | (refine zd rfl ?_; refine zV rfl (by kernel_rfl) rfl rfl ?_) | (refine z7 ?_; refine za rfl (zz (t := rnT) (z := x) rfl rfl rfl rfl (Int.natCast_nonneg i) hx) rfl ?_) | (refine z6 rfl ?_; refine zT rfl (by kernel_rfl) rfl (zz (t := rnT) (z := x) rfl rfl rfl rfl (Int.natCast_nonneg i) hx) rfl ?_) | (refine vK (x := .tmp 5) ?_; refine za rfl (yF (vs := [rwL x]) rfl rfl rfl rfl (fun c hc => by simp at hc; subst hc; rfl) (zb rfl) rfl (Nat.le_refl _)) rfl ?_) | (refine vJ (x := .tmp 5) rfl ?_; refine zT rfl (by kernel_rfl) rfl (yF (vs := [rwL x]) rfl rfl rfl rfl (fun c hc => by simp at hc; subst hc; rfl) (zb rfl) rfl (Nat.le_refl _)) rfl ?_) | refine zD ?_ | refine zB _ rfl (by kernel_rfl) ?_ | refine zX rfl ?_ | refine zY rfl ?_ | refine zC ?_ | with_reducible refine zO ?_ | refine zI ?_ | refine zJ ?_ | (with_reducible first | refine zM ?_ | refine zN ?_ | refine zF ?_ | refine zH ?_ | refine zG ?_) | refine zP ?_
      refine ge (T := ⟨[.any, .any, .any, .sl 0 0 i, .any, .ptr (i + 1) 0, rnL rs, I rs.length, I i, .any, .any, .any, .sl 0 0 i, .ptr (i + 1) 0, .any, .any, .any, .any, .any, .any, .any], rnN (rs.take i) ++ [⟨84, 1, [rwL x], 0⟩], 0⟩) (yg (by rw [wo rfl]; rfl) (by
        repeat' first | exact EqS.nil | refine EqS.any ?_ | refine EqS.same rfl ?_ | refine EqS.same (congrArg (V.sl 0 0) etl) ?_ | refine EqS.same (congrArg (fun n => V.ptr n 0) (hnl.trans (by rw [etl]))) ?_)) ?_
      repeat' first | refine zL ?_ | refine zA ?_ | refine zQ [] ?_ | (refine isA ?_; refine zg rfl ?_) | (refine isL ?_; refine zW rfl (by kernel_rfl) rfl rfl ?_) | (refine zd rfl ?_; refine zV rfl (by kernel_rfl) rfl rfl ?_) | (refine yt (x := .tmp 13) ?_; refine za rfl (xE rfl rfl (zb (by rw [hnl, etl])) rfl rfl) rfl ?_) | (refine yr (x := .tmp 13) rfl ?_; refine zT rfl (by kernel_rfl) rfl (xE rfl rfl (zb (by rw [hnl, etl])) rfl rfl) rfl ?_) | (refine zp 114 ?_; refine za rfl (yI (r' := .sl (i + 2) 0 x.length) (H' := rnN (rs.take i) ++ [⟨84, 1, [rwL x], 0⟩] ++ [rwR x]) rfl (wi x (hok.at hx)) (.cons (.same rfl) .nil) (fun q hq => by simp at hq; subst hq; exact zE _ _) (by simp only [List.length_append, hnl, etl, shV, Nat.zero_add, List.length_singleton]) rfl) rfl ?_) | (refine zq 114 rfl ?_; refine zT rfl (by kernel_rfl) rfl (yI (r' := .sl (i + 2) 0 x.length) (H' := rnN (rs.take i) ++ [⟨84, 1, [rwL x], 0⟩] ++ [rwR x]) rfl (wi x (hok.at hx)) (.cons (.same rfl) .nil) (fun q hq => by simp at hq; subst hq; exact zE _ _) (by simp only [List.length_append, hnl, etl, shV, Nat.zero_add, List.length_singleton]) rfl) rfl ?_) | (refine xt ?_; refine za rfl (lB (outs := rs.take i) (hz := (rnN (rs.take i) ++ [(⟨84, 1, [rwL x], 0⟩ : Reg)] ++ [rwR x]).length) (zi := i + 2) (n := x.length) rfl (congrArg (V.sl 0 0) etl.symm) rfl rfl (zb rfl) (by omega) rfl) rfl ?_) | (refine xR rfl ?_; refine zT rfl (by kernel_rfl) rfl (lB (outs := rs.take i) (hz := (rnN (rs.take i) ++ [(⟨84, 1, [rwL x], 0⟩ : Reg)] ++ [rwR x]).length) (zi := i + 2) (n := x.length) rfl (congrArg (V.sl 0 0) etl.symm) rfl rfl (zb rfl) (by omega) rfl) rfl ?_) | refine zD ?_ | refine zB _ rfl (by kernel_rfl) ?_ | refine zX rfl ?_ | refine zY rfl ?_ | refine zC ?_ | with_reducible refine zO ?_ | refine zI ?_ | refine zJ ?_ | (with_reducible first | refine zM ?_ | refine zN ?_ | refine zF ?_ | refine zH ?_ | refine zG ?_) | refine zP ?_
      refine ⟨⟨i + 1, hlt⟩, by simp only; omega, ?_⟩
      have q := ku (D := ⟨84, 1, nC 1 (rs.take i), 2⟩) (S := ⟨84, 1, [.sl (i + 2) 0 x.length], 0⟩) (out := rs.take i) (z := x) (A := [⟨84, 1, [rwL x], 0⟩, rwR x]) (k := 1) rfl
      have ei : 1 + (rs.take i).length + 1 = i + 2 := by omega
      have ej : (rs.take i).length + 2 + 2 = i + 4 := by omega
      rw [ei, ← ets] at q
      simp only [List.length_cons, List.length_nil, Nat.zero_add, Nat.reduceAdd, ej, etl] at q
      refine vz ((i + 4) :: (List.range' 1 i ++ [i + 2])) rfl (fun i hi => absurd hi (Nat.not_lt_zero _)) ?_ (by
        repeat' first | exact zk | refine zc ?_ ?_ | exact zo | exact le_refl rfl | exact zm (congrArg some (by simp only [List.length_append, List.length_set, hnl, etl, List.length_singleton])) (by rw [ets, List.length_append, etl]; rfl) | exact xa (by assumption) (by omega))
      show HLe _ (rnN (rs.take (i + 1))) (⟨84, 1, nC 1 (rs.take i), 2⟩ :: (nR rwT 78 (rs.take i) ++ [⟨84, 1, [rwL x], 0⟩] ++ [rwR x] ++ [⟨84, 1, [.sl (i + 2) 0 x.length], 0⟩]) ++ [⟨84, 1, nC 1 (rs.take i) ++ [.sl (i + 2) 0 x.length], 0⟩])
      simp only [List.append_assoc, List.cons_append, List.nil_append] at q ⊢
      exact q
    · have hge : i = rs.length := by
        have : ¬ ((i : Int) < rs.length) := by simpa using h
        omega
      subst hge
      repeat' first | refine zL ?_ | refine zA ?_ | refine zQ [] ?_ | (refine isA ?_; refine zg rfl ?_) | (refine isL ?_; refine zW rfl (by kernel_rfl) rfl rfl ?_) | (refine zd rfl ?_; refine zV rfl (by kernel_rfl) rfl rfl ?_) | exact lm _ rfl (by rw [List.take_length]; exact mb _) (zm rfl (by rw [List.take_length])) (Or.inr ⟨rfl, by exact lS _⟩) | refine zD ?_ | refine zB _ rfl (by kernel_rfl) ?_ | refine zX rfl ?_ | refine zY rfl ?_ | refine zC ?_ | with_reducible refine zO ?_ | refine zI ?_ | refine zJ ?_ | (with_reducible first | refine zM ?_ | refine zN ?_ | refine zF ?_ | refine zH ?_ | refine zG ?_) | refine zP ?_
end Go.Proofs.Ytojcojanokhnaaa.Ab
namespace Go.Proofs.Ytojcojanokhnaaa.Ab
open Go.RowKit
theorem sn (k : Int) : zx Go.Proofs.Try.prog 46 [xx, I k] [] (I k) [] false := by
  refine zu [4] Go.Proofs.Try.func46 rfl rfl ?_
  simp only [Go.Proofs.Try.ntmps46, List.length_cons, List.length_nil, Nat.reduceAdd, Nat.reduceSub, List.replicate_succ, List.replicate_zero, List.cons_append, List.nil_append]
  repeat' first | refine zL ?_ | refine zA ?_ | refine zQ [] ?_ | (refine isA ?_; refine zg rfl ?_) | (refine isL ?_; refine zW rfl (by kernel_rfl) rfl rfl ?_) | (refine zd rfl ?_; refine zV rfl (by kernel_rfl) rfl rfl ?_) | refine zD ?_ | refine zB _ rfl (by kernel_rfl) ?_ | refine zX rfl ?_ | refine zY rfl ?_ | refine zC ?_ | with_reducible refine zO ?_ | refine zI ?_ | refine zJ ?_ | (with_reducible first | refine zM ?_ | refine zN ?_ | refine zF ?_ | refine zH ?_ | refine zG ?_) | refine zP ?_
  refine z5 (α := Unit) (fun _ => ⟨[xx, I k, .any, .any, .any, I 0, .any, .any, .any, .any, .any, .any, .any, .any, .any, .any, .any, .any, .any, .any, .any, .any, .any, .any, .any, .any, .any, .any, .any, .any, .any, .any, .any, .any], [], 0⟩) (fun _ => 0) () ?_ ?_
  · exact yX [] rfl rfl (by decide) .nil (by repeat' first | exact zk | refine zc ?_ ?_ | exact zo | exact le_refl rfl | exact zm rfl rfl | exact zt rfl)
  · intro _
    repeat' first | refine zL ?_ | refine zA ?_ | refine zQ [] ?_ | (refine isA ?_; refine zg rfl ?_) | (refine isL ?_; refine zW rfl (by kernel_rfl) rfl rfl ?_) | (refine zd rfl ?_; refine zV rfl (by kernel_rfl) rfl rfl ?_) | exact yD rfl rfl rfl | refine zD ?_ | refine zB _ rfl (by kernel_rfl) ?_ | refine zX rfl ?_ | refine zY rfl ?_ | refine zC ?_ | with_reducible refine zO ?_ | refine zI ?_ | refine zJ ?_ | (with_reducible first | refine zM ?_ | refine zN ?_ | refine zF ?_ | refine zH ?_ | refine zG ?_) | refine zP ?_
theorem qV {n : Nat} {l : Int} (hn : n ≤ 9223372036854775807) (h0 : 0 ≤ l) (h1 : l ≤ 1048576) (h : decide (szL n l < 0) = false) : (n : Int) ≤ l ∧ szL n l = l - n := by
  have e : IntKind.i64.wrap (l - n) = l - n := by rw [IntKind.wrap_i64]; omega
  unfold szL at h ⊢
  rw [e] at h ⊢
  by_cases hc : l - (n : Int) < 0
  · rw [decide_eq_true hc] at h; cases h
  · rw [show decide (l - (n : Int) < 0) = false from decide_eq_false hc, cond_false]
    exact ⟨by omega, rfl⟩
end Go.Proofs.Ytojcojanokhnaaa.Ab
namespace Go.Proofs.Ytojcojanokhnaaa.Ab
open Go.RowKit
structure So where
  input : List Rw
  pos : Int
  heap : List Rw
  dfr : List Rw
  out : List Rw
  runs : List Rn
  lp : Int
  rp : Int
  ph : Int
  wr : Int
def soE (s : So) : List V := [rwL s.input, I s.pos, rwL s.heap, rwL s.dfr, rwL s.out, rnL s.runs, I s.lp, I s.rp, I s.ph, I s.wr]
structure okSo (s : So) : Prop where
  input : s.input.length ≤ 10000000
  heap : s.heap.length ≤ 10000000
  dfr : s.dfr.length ≤ 10000000
  out : s.out.length ≤ 10000000
  runs : s.runs.length ≤ 10000000
  tot : tot s.runs ≤ 10000000
theorem okSo.rn {s : So} (h : okSo s) : v5 s.runs := ⟨by have := h.runs; omega, fun x hx => by
  have : x.length ≤ Ab.tot s.runs := mV (List.mem_map.2 ⟨x, hx, rfl⟩)
  have := h.tot
  omega⟩
theorem y4 (s : So) (hok : okSo s) : zx Go.Proofs.Try.prog 34 [.agg (soE s)] [] (.agg (soE s)) [] true := by
  have g1 := hok.input
  have g2 := hok.heap
  have g3 := hok.dfr
  have g4 := hok.out
  have g5 := hok.rn
  refine xU 2 27 Go.Proofs.Try.func34 rfl rfl ?_
  simp only [Go.Proofs.Try.ntmps34, List.length_cons, List.length_nil, Nat.reduceAdd, Nat.reduceSub, List.replicate_succ, List.replicate_zero, List.cons_append, List.nil_append]
  repeat' first | refine zL ?_ | refine zA ?_ | refine zQ [] ?_ | (refine isA ?_; refine zg rfl ?_) | (refine isL ?_; refine zW rfl (by kernel_rfl) rfl rfl ?_) | (refine zd rfl ?_; refine zV rfl (by kernel_rfl) rfl rfl ?_) | (refine zp 41 (x := #[.tmp 5]) ?_; refine za rfl (zK rfl (wB _ (by omega)) (.cons (.same rfl) .nil) rfl) rfl ?_) | (refine zq 41 (x := #[.tmp 5]) rfl ?_; refine zT rfl (by kernel_rfl) rfl (zK rfl (wB _ (by omega)) (.cons (.same rfl) .nil) rfl) rfl ?_) | (refine zp 41 (x := #[.tmp 12]) ?_; refine za rfl (zK rfl (wB _ (by omega)) (.cons (.same rfl) .nil) rfl) rfl ?_) | (refine zq 41 (x := #[.tmp 12]) rfl ?_; refine zT rfl (by kernel_rfl) rfl (zK rfl (wB _ (by omega)) (.cons (.same rfl) .nil) rfl) rfl ?_) | (refine zp 41 (x := #[.tmp 16]) ?_; refine za rfl (zK rfl (wB _ (by omega)) (.cons (.same rfl) .nil) rfl) rfl ?_) | (refine zq 41 (x := #[.tmp 16]) rfl ?_; refine zT rfl (by kernel_rfl) rfl (zK rfl (wB _ (by omega)) (.cons (.same rfl) .nil) rfl) rfl ?_) | (refine zp 41 (x := #[.tmp 20]) ?_; refine za rfl (zK rfl (wB _ (by omega)) (.cons (.same rfl) .nil) rfl) rfl ?_) | (refine zq 41 (x := #[.tmp 20]) rfl ?_; refine zT rfl (by kernel_rfl) rfl (zK rfl (wB _ (by omega)) (.cons (.same rfl) .nil) rfl) rfl ?_) | (refine zp 104 ?_; refine za rfl (zK rfl (nD _ g5) (.cons (.same rfl) .nil) rfl) rfl ?_) | (refine zq 104 rfl ?_; refine zT rfl (by kernel_rfl) rfl (zK rfl (nD _ g5) (.cons (.same rfl) .nil) rfl) rfl ?_) | exact dB (yP rfl rfl rfl rfl rfl) (.same rfl) | refine zD ?_ | refine zB _ rfl (by kernel_rfl) ?_ | refine zX rfl ?_ | refine zY rfl ?_ | refine zC ?_ | with_reducible refine zO ?_ | refine zI ?_ | refine zJ ?_ | (with_reducible first | refine zM ?_ | refine zN ?_ | refine zF ?_ | refine zH ?_ | refine zG ?_) | refine zP ?_
theorem un (s : So) (hok : okSo s) : zx Go.Proofs.Try.prog 35 [.agg (soE s), .agg (soE s)] [] (B true) [] false := by
  have g1 := hok.input
  have g2 := hok.heap
  have g3 := hok.dfr
  have g4 := hok.out
  have g5 := hok.rn
  refine zu [4] Go.Proofs.Try.func35 rfl rfl ?_
  simp only [Go.Proofs.Try.ntmps35, List.length_cons, List.length_nil, Nat.reduceAdd, Nat.reduceSub, List.replicate_succ, List.replicate_zero, List.cons_append, List.nil_append]
  repeat' first | (refine isA ?_; refine za rfl (uM rfl rfl rfl) rfl ?_) | refine zL ?_ | refine zA ?_ | refine zQ [] ?_ | (refine isA ?_; refine zg rfl ?_) | (refine isL ?_; refine zW rfl (by kernel_rfl) rfl rfl ?_) | (refine zd rfl ?_; refine zV rfl (by kernel_rfl) rfl rfl ?_) | (refine zp 44 (x := #[.tmp 6]) ?_; refine za rfl (zK rfl (xd _ (by omega)) (.cons (.same rfl) (.cons (.same rfl) .nil)) rfl) rfl ?_) | (refine zq 44 (x := #[.tmp 6]) rfl ?_; refine zT rfl (by kernel_rfl) rfl (zK rfl (xd _ (by omega)) (.cons (.same rfl) (.cons (.same rfl) .nil)) rfl) rfl ?_) | (refine zp 44 ?_; refine za rfl (zK rfl (xd _ (by omega)) (.cons (.same rfl) (.cons (.same rfl) .nil)) rfl) rfl ?_) | (refine zp 105 ?_; refine za rfl (zK rfl (nK _ g5) (.cons (.same rfl) (.cons (.same rfl) .nil)) rfl) rfl ?_) | (refine zq 105 rfl ?_; refine zT rfl (by kernel_rfl) rfl (zK rfl (nK _ g5) (.cons (.same rfl) (.cons (.same rfl) .nil)) rfl) rfl ?_) | exact yD rfl rfl rfl | refine zD ?_ | refine zB _ rfl (by kernel_rfl) ?_ | refine zX rfl ?_ | refine zY rfl ?_ | refine zC ?_ | with_reducible refine zO ?_ | refine zI ?_ | refine zJ ?_ | (with_reducible first | refine zM ?_ | refine zN ?_ | refine zF ?_ | refine zH ?_ | refine zG ?_) | refine zP ?_
def szS (s : So) (l : Int) : Int :=
  let a := szL s.input.length l
  let b := szL s.heap.length a
  let c := szL s.dfr.length b
  let d := szL s.out.length c
  let e := szR s.runs d
  cond (decide (a < 0)) (-1) (cond (decide (b < 0)) (-1) (cond (decide (c < 0)) (-1) (cond (decide (d < 0)) (-1) (cond (decide (e < 0)) (-1) e))))
theorem wb (s : So) (l : Int) (hl : s.runs.length ≤ 9223372036854775807) : zx Go.Proofs.Try.prog 33 [.agg (soE s), I l] [] (I (szS s l)) [] false := by
  refine zu [4] Go.Proofs.Try.func33 rfl rfl ?_
  simp only [Go.Proofs.Try.ntmps33, List.length_cons, List.length_nil, Nat.reduceAdd, Nat.reduceSub, List.replicate_succ, List.replicate_zero, List.cons_append, List.nil_append]
  repeat' first | refine zL ?_ | refine zA ?_ | refine zQ [] ?_ | (refine isA ?_; refine zg rfl ?_) | (refine isL ?_; refine zW rfl (by kernel_rfl) rfl rfl ?_) | (refine zd rfl ?_; refine zV rfl (by kernel_rfl) rfl rfl ?_) | (refine zp 40 ?_; refine za rfl (zK rfl (tK _ _) (.cons (.same rfl) (.cons (.same rfl) .nil)) rfl) rfl ?_) | (refine zq 40 rfl ?_; refine zT rfl (by kernel_rfl) rfl (zK rfl (tK _ _) (.cons (.same rfl) (.cons (.same rfl) .nil)) rfl) rfl ?_) | (refine zp 103 ?_; refine za rfl (zK rfl (nF _ _ hl) (.cons (.same rfl) (.cons (.same rfl) .nil)) rfl) rfl ?_) | (refine zq 103 rfl ?_; refine zT rfl (by kernel_rfl) rfl (zK rfl (nF _ _ hl) (.cons (.same rfl) (.cons (.same rfl) .nil)) rfl) rfl ?_) | refine zj rfl (fun _ => ?_) (fun _ => ?_) | (refine yD rfl rfl ?_; simp only [szS, *, cond_true, cond_false]; done) | refine zD ?_ | refine zB _ rfl (by kernel_rfl) ?_ | refine zX rfl ?_ | refine zY rfl ?_ | refine zC ?_ | with_reducible refine zO ?_ | refine zI ?_ | refine zJ ?_ | (with_reducible first | refine zM ?_ | refine zN ?_ | refine zF ?_ | refine zH ?_ | refine zG ?_) | refine zP ?_
structure rdSo (s : So) : Prop where
  input : s.input.length ≤ 9223372036854775807
  heap : s.heap.length ≤ 9223372036854775807
  dfr : s.dfr.length ≤ 9223372036854775807
  out : s.out.length ≤ 9223372036854775807
  runs : s.runs.length ≤ 9223372036854775807
  each : ∀ x ∈ s.runs, x.length ≤ 9223372036854775807
theorem nU {s : So} {l : Int} (hr : rdSo s) (h0 : 0 ≤ l) (h1 : l ≤ 1048576) (h : decide (szS s l < 0) = false) : okSo s ∧ (s.input.length : Int) + s.heap.length + s.dfr.length + s.out.length + s.runs.length + tot s.runs ≤ l ∧ 0 ≤ szS s l ∧ szS s l ≤ l := by
  unfold szS at h ⊢
  simp only at h ⊢
  have neg : ∀ {b : Bool} {x : Int}, decide (cond b (-1) x < 0) = false → b = false := fun {b x} h => by cases b <;> first | rfl | cases h
  have e1 := neg h
  simp only [e1, cond_false] at h ⊢
  have e2 := neg h
  simp only [e2, cond_false] at h ⊢
  have e3 := neg h
  simp only [e3, cond_false] at h ⊢
  have e4 := neg h
  simp only [e4, cond_false] at h ⊢
  have e5 := neg h
  simp only [e5, cond_false] at h ⊢
  obtain ⟨a1, a2⟩ := qV hr.input h0 h1 e1
  rw [a2] at e2 e3 e4 e5 ⊢
  obtain ⟨b1, b2⟩ := qV hr.heap (by omega) (by omega) e2
  rw [b2] at e3 e4 e5 ⊢
  obtain ⟨c1, c2⟩ := qV hr.dfr (by omega) (by omega) e3
  rw [c2] at e4 e5 ⊢
  obtain ⟨d1, d2⟩ := qV hr.out (by omega) (by omega) e4
  rw [d2] at e5 ⊢
  obtain ⟨f1, f2⟩ := eZ hr.runs hr.each (by omega) (by omega) e5
  rw [f2]
  exact ⟨⟨by omega, by omega, by omega, by omega, by omega, by omega⟩, by omega, by omega, by omega⟩
def xX (s : So) : Nat := s.input.length + s.heap.length + s.dfr.length + s.out.length + tot s.runs
def xI (k : Int) (s : So) : So :=
  ⟨mkC k s.input s.input.length, s.pos, mkC (kk k (3 * s.input.length)) s.heap s.heap.length, mkC (kk k (3 * (s.input.length + s.heap.length))) s.dfr s.dfr.length, mkC (kk k (3 * (s.input.length + s.heap.length + s.dfr.length))) s.out s.out.length, y9 (kk k (3 * (s.input.length + s.heap.length + s.dfr.length + s.out.length))) s.runs, s.lp, s.rp, s.ph, s.wr⟩
theorem tN (s : So) (hok : okSo s) : zx Go.Proofs.Try.prog 51 [.agg (soE (xI 1 s)), I 1] [] (I (kk 1 (3 * xX s))) [] false := by
  have g1 := hok.input
  have g2 := hok.heap
  have g3 := hok.dfr
  have g4 := hok.out
  have g5 := hok.rn
  have g6 := hok.tot
  have m1 := ye 1 (xs := s.input) (Nat.le_refl _)
  have m2 := ye (kk 1 (3 * s.input.length)) (xs := s.heap) (Nat.le_refl _)
  have m3 := ye (kk 1 (3 * (s.input.length + s.heap.length))) (xs := s.dfr) (Nat.le_refl _)
  have m4 := ye (kk 1 (3 * (s.input.length + s.heap.length + s.dfr.length))) (xs := s.out) (Nat.le_refl _)
  have n1 : decide (kk 1 (3 * s.input.length) < 0) = false := vR (by omega) (by omega) (by omega)
  have n2 : decide (kk 1 (3 * (s.input.length + s.heap.length)) < 0) = false := vR (by omega) (by omega) (by omega)
  have n3 : decide (kk 1 (3 * (s.input.length + s.heap.length + s.dfr.length)) < 0) = false := vR (by omega) (by omega) (by omega)
  have n4 : decide (kk 1 (3 * (s.input.length + s.heap.length + s.dfr.length + s.out.length)) < 0) = false := vR (by omega) (by omega) (by omega)
  have n5 : decide (kk 1 (3 * xX s) < 0) = false := vR (by omega) (by omega) (by unfold xX; omega)
  have q1 := xq (mkC 1 s.input s.input.length) 1 (by omega) ui
  have q2 := xq (mkC (kk 1 (3 * s.input.length)) s.heap s.heap.length) (kk 1 (3 * s.input.length)) (by omega) ui
  have q3 := xq (mkC (kk 1 (3 * (s.input.length + s.heap.length))) s.dfr s.dfr.length) (kk 1 (3 * (s.input.length + s.heap.length))) (by omega) ui
  have q4 := xq (mkC (kk 1 (3 * (s.input.length + s.heap.length + s.dfr.length))) s.out s.out.length) (kk 1 (3 * (s.input.length + s.heap.length + s.dfr.length))) (by omega) ui
  rw [m1] at q1
  rw [m2, wZ, ← Nat.mul_add] at q2
  rw [m3, wZ, ← Nat.mul_add] at q3
  rw [m4, wZ, ← Nat.mul_add] at q4
  have q5 := nz s.runs (kk 1 (3 * (s.input.length + s.heap.length + s.dfr.length + s.out.length))) g5 (by have := of_decide_eq_false n4; omega) (by rw [nr (by omega) (by omega) (by omega)]; omega) (by omega)
  rw [wZ, ← Nat.mul_add] at q5
  refine zu [4] Go.Proofs.Try.func51 rfl rfl ?_
  simp only [Go.Proofs.Try.ntmps51, List.length_cons, List.length_nil, Nat.reduceAdd, Nat.reduceSub, List.replicate_succ, List.replicate_zero, List.cons_append, List.nil_append]
  repeat' first | refine zL ?_ | refine zA ?_ | refine zQ [] ?_ | (refine isA ?_; refine zg rfl ?_) | (refine isL ?_; refine zW rfl (by kernel_rfl) rfl rfl ?_) | (refine zd rfl ?_; refine zV rfl (by kernel_rfl) rfl rfl ?_) | (refine zp 52 ?_; refine za rfl (zK rfl q1 (.cons (.same rfl) (.cons (.same rfl) .nil)) rfl) rfl ?_) | (refine zq 52 rfl ?_; refine zT rfl (by kernel_rfl) rfl (zK rfl q1 (.cons (.same rfl) (.cons (.same rfl) .nil)) rfl) rfl ?_) | refine zD ?_ | refine zB _ rfl (by kernel_rfl) ?_ | refine zX rfl ?_ | refine zY rfl ?_ | refine zC ?_ | with_reducible refine zO ?_ | refine zI ?_ | refine zJ ?_ | (with_reducible first | refine zM ?_ | refine zN ?_ | refine zF ?_ | refine zH ?_ | refine zG ?_) | refine zP ?_
  refine zj rfl (fun h => by rw [n1] at h; cases h) (fun _ => ?_)
  repeat' first | refine zL ?_ | refine zA ?_ | refine zQ [] ?_ | (refine isA ?_; refine zg rfl ?_) | (refine isL ?_; refine zW rfl (by kernel_rfl) rfl rfl ?_) | (refine zd rfl ?_; refine zV rfl (by kernel_rfl) rfl rfl ?_) | (refine zp 52 ?_; refine za rfl (zK rfl q2 (.cons (.same rfl) (.cons (.same rfl) .nil)) rfl) rfl ?_) | (refine zq 52 rfl ?_; refine zT rfl (by kernel_rfl) rfl (zK rfl q2 (.cons (.same rfl) (.cons (.same rfl) .nil)) rfl) rfl ?_) | refine zD ?_ | refine zB _ rfl (by kernel_rfl) ?_ | refine zX rfl ?_ | refine zY rfl ?_ | refine zC ?_ | with_reducible refine zO ?_ | refine zI ?_ | refine zJ ?_ | (with_reducible first | refine zM ?_ | refine zN ?_ | refine zF ?_ | refine zH ?_ | refine zG ?_) | refine zP ?_
  refine zj rfl (fun h => by rw [n2] at h; cases h) (fun _ => ?_)
  repeat' first | refine zL ?_ | refine zA ?_ | refine zQ [] ?_ | (refine isA ?_; refine zg rfl ?_) | (refine isL ?_; refine zW rfl (by kernel_rfl) rfl rfl ?_) | (refine zd rfl ?_; refine zV rfl (by kernel_rfl) rfl rfl ?_) | (refine zp 52 ?_; refine za rfl (zK rfl q3 (.cons (.same rfl) (.cons (.same rfl) .nil)) rfl) rfl ?_) | (refine zq 52 rfl ?_; refine zT rfl (by kernel_rfl) rfl (zK rfl q3 (.cons (.same rfl) (.cons (.same rfl) .nil)) rfl) rfl ?_) | refine zD ?_ | refine zB _ rfl (by kernel_rfl) ?_ | refine zX rfl ?_ | refine zY rfl ?_ | refine zC ?_ | with_reducible refine zO ?_ | refine zI ?_ | refine zJ ?_ | (with_reducible first | refine zM ?_ | refine zN ?_ | refine zF ?_ | refine zH ?_ | refine zG ?_) | refine zP ?_
  refine zj rfl (fun h => by rw [n3] at h; cases h) (fun _ => ?_)
  repeat' first | refine zL ?_ | refine zA ?_ | refine zQ [] ?_ | (refine isA ?_; refine zg rfl ?_) | (refine isL ?_; refine zW rfl (by kernel_rfl) rfl rfl ?_) | (refine zd rfl ?_; refine zV rfl (by kernel_rfl) rfl rfl ?_) | (refine zp 52 ?_; refine za rfl (zK rfl q4 (.cons (.same rfl) (.cons (.same rfl) .nil)) rfl) rfl ?_) | (refine zq 52 rfl ?_; refine zT rfl (by kernel_rfl) rfl (zK rfl q4 (.cons (.same rfl) (.cons (.same rfl) .nil)) rfl) rfl ?_) | refine zD ?_ | refine zB _ rfl (by kernel_rfl) ?_ | refine zX rfl ?_ | refine zY rfl ?_ | refine zC ?_ | with_reducible refine zO ?_ | refine zI ?_ | refine zJ ?_ | (with_reducible first | refine zM ?_ | refine zN ?_ | refine zF ?_ | refine zH ?_ | refine zG ?_) | refine zP ?_
  refine zj rfl (fun h => by rw [n4] at h; cases h) (fun _ => ?_)
  repeat' first | refine zL ?_ | refine zA ?_ | refine zQ [] ?_ | (refine isA ?_; refine zg rfl ?_) | (refine isL ?_; refine zW rfl (by kernel_rfl) rfl rfl ?_) | (refine zd rfl ?_; refine zV rfl (by kernel_rfl) rfl rfl ?_) | (refine zp 109 ?_; refine za rfl (zK rfl q5 (.cons (.same rfl) (.cons (.same rfl) .nil)) rfl) rfl ?_) | (refine zq 109 rfl ?_; refine zT rfl (by kernel_rfl) rfl (zK rfl q5 (.cons (.same rfl) (.cons (.same rfl) .nil)) rfl) rfl ?_) | refine zD ?_ | refine zB _ rfl (by kernel_rfl) ?_ | refine zX rfl ?_ | refine zY rfl ?_ | refine zC ?_ | with_reducible refine zO ?_ | refine zI ?_ | refine zJ ?_ | (with_reducible first | refine zM ?_ | refine zN ?_ | refine zF ?_ | refine zH ?_ | refine zG ?_) | refine zP ?_
  refine zj rfl (fun h => by rw [show (s.input.length + s.heap.length + s.dfr.length + s.out.length) + tot s.runs = xX s from rfl, n5] at h; cases h) (fun _ => ?_)
  repeat' first | refine zL ?_ | refine zA ?_ | refine zQ [] ?_ | (refine isA ?_; refine zg rfl ?_) | (refine isL ?_; refine zW rfl (by kernel_rfl) rfl rfl ?_) | (refine zd rfl ?_; refine zV rfl (by kernel_rfl) rfl rfl ?_) | exact yD rfl rfl rfl | refine zD ?_ | refine zB _ rfl (by kernel_rfl) ?_ | refine zX rfl ?_ | refine zY rfl ?_ | refine zC ?_ | with_reducible refine zO ?_ | refine zI ?_ | refine zJ ?_ | (with_reducible first | refine zM ?_ | refine zN ?_ | refine zF ?_ | refine zH ?_ | refine zG ?_) | refine zP ?_
end Go.Proofs.Ytojcojanokhnaaa.Ab
namespace Go.Proofs.Ytojcojanokhnaaa.Ab
open Go.RowKit
section
variable {P : Program} {o : Oper} {ρ : Operand → V} {H : List Reg}
theorem sO {f : FuncId} {cargs : List V} {r : V} {K : List Reg}
    (hrun : ∀ (A : Nat → Prop) (φ : List Hd) (a : Act) (w : World), HeapOk A w φ H → (∀ x ∈ o.op.operands, Rel A w φ (ρ x) (a.eval x)) → ∃ xs : Array Value, (execOp a.eval o).run P w = .ok (.enter f xs) w ∧ xs.size = cargs.length ∧ zv A w φ cargs (fun i => xs[i]?))
    (hm : zx P f cargs H r K true) : z4 P o ρ H r K := by
  intro S hS hρ C φ a w hI next Q hn
  obtain ⟨hm0, ⟨A, hA, hr⟩, hs, hd⟩ := hI
  subst hS
  obtain ⟨xs, hexec, hxl, hargr⟩ := hrun A φ a w hA.ok (fun x hx => by rw [← hρ x hx]; exact wS hr x)
  have hcall := hm A φ w xs hA.ok hargr hxl
  unfold Oper.wp
  rw [hexec, Oper.upon_enter]
  refine hcall.mono ?_
  rintro e w' ⟨x, φ', A', rfl, k1, k2, k3, k4, k5, k6⟩
  have hfrA : ∀ b, A b → w'.heap[b]? = w.heap[b]? := fun b hb => k5.block b (hA.ok.low b hb) (fun h hl => hA.ok.apart h b hl hb)
  have xY : ∀ b, A' b → A b ∨ w.heap.size ≤ b := fun b hb => (k3 b hb).imp (fun h => h.2) id
  have hJ : InvA C (fun b => A b ∨ A' b) φ' K w' := by
    refine ⟨⟨k1.len, fun h hd q q1 q2 q3 => ?_, k1.inj, fun h b hl hb => ?_, fun h hd q b q1 q2 q3 q4 => Or.inr (k1.frz h hd q b q1 q2 q3 q4), fun b hb => ?_⟩, fun b hb => ?_, fun h b hl => ?_, ?_, fun h hd hh => k6 h hd (hA.pre h hd hh)⟩
    · obtain ⟨e1, e2⟩ := k1.regs h hd q q1 q2 q3
      refine ⟨e1, ?_⟩
      cases hb : hd.blk with
      | none => rw [hb] at e2; exact e2
      | some b =>
        rw [hb] at e2
        obtain ⟨c, c1, c2, c3, c4⟩ := e2
        exact ⟨c, c1, c2, c3, zv.mono (fun b hb => ⟨Or.inr hb, rfl⟩) (fun _ _ h => h) c4⟩
    · rcases hb with hb | hb
      · rcases k4 h b hl with h1 | ⟨h0, h1⟩
        · have := hA.ok.low b hb
          omega
        · exact hA.ok.apart h0 b h1 hb
      · exact k1.apart h b hl hb
    · rcases hb with hb | hb
      · exact Nat.lt_of_lt_of_le (hA.ok.low b hb) k5.size
      · exact k1.low b hb
    · rcases hb with hb | hb
      · exact hA.old b hb
      · rcases xY b hb with hb | hb
        · exact hA.old b hb
        · exact Or.inr (Nat.le_trans hA.frame.size hb)
    · rcases k4 h b hl with h1 | ⟨h0, h1⟩
      · exact Or.inl (Nat.le_trans hA.frame.size h1)
      · exact hA.own h0 b h1
    · obtain ⟨f1, f2, f3, f4, f5⟩ := hA.frame
      refine ⟨k5.os.trans f1, k5.tape.trans f2, k5.output.trans f3, Nat.le_trans f4 k5.size, fun b hb hno => ?_⟩
      rw [k5.block b (Nat.lt_of_lt_of_le hb f4) (fun h hl => ?_)]
      · exact f5 b hb hno
      · rcases hA.own h b hl with h1 | ⟨h0, h1⟩
        · have h2 : b < C.w0.heap.size := hb
          omega
        · exact hno h0 h1
  have hr' : zv (fun b => A b ∨ A' b) w' φ' S.tmps (fun i => a.tmps[i]?) := zv.mono (fun b hb => ⟨Or.inl hb, hfrA b hb⟩) (fun h hd hh => k6 h hd hh) hr
  have hx : Rel (fun b => A b ∨ A' b) w' φ' r x := Rel.mono (fun b hb => ⟨Or.inr hb, rfl⟩) (fun _ _ h => h) k2
  obtain ⟨h7, h8⟩ := wP (H := K) hs hr' hx o.dst
  refine hn x w' φ' ⟨by cases o.dst <;> exact hm0, ⟨_, ?_, h7⟩, h8, by cases o.dst <;> exact hd⟩
  rw [xv]
  exact hJ
theorem yN {f : FuncId} {args : List Operand} {ats : Array TypeId} {cargs : List V} {r : V} {K : List Reg} [he : Ent P f] (ho : o.op = .call { callee := .value (.func f), args := args.toArray, argTypes := ats })
    (hm : zx P f cargs H r K true) (hargs : args.map ρ = cargs) : z4 P o ρ H r K :=
  sO (fun A φ a w _ hh => ⟨_, vD ho, by rw [← hargs]; simp, by rw [← hargs]; exact ws fun x hx => hh x (by rw [ho]; simp only [Op.operands, Call.operands]; simp [hx])⟩) hm
theorem nk {r : V} {S : St} : Out true r S.H r S := fun C A φ w x hm hA hv =>
  ⟨φ, A, hA.ok, hv, fun b hb => (hA.old b hb).imp (fun h => ⟨rfl, h⟩) id, fun h b hl => hA.own h b hl, fun h hd hh => hA.pre h hd hh⟩
theorem eG {l : List V} {H K : List Reg} {m : Nat} {e : Exit} (he : e = .ret ∨ e = .normal) (hK : H = K) : (e = .ret ∨ e = .normal) ∧ Out true (.tup []) K (vg ⟨l, H, m⟩ []) ⟨l, H, m⟩ := by
  subst hK; exact ⟨he, nk (S := ⟨l, H, m⟩)⟩
end
end Go.Proofs.Ytojcojanokhnaaa.Ab
