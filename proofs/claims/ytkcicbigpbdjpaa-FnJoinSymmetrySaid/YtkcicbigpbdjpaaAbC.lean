/-
  REGIONS: in the order of the text; in whatever order.
-/
import Derived.Test.YtkcicbigpbdjpaaAbB
namespace Go.Proofs.Ytkcicbigpbdjpaa.Ab
open Go.RowKit
set_option linter.unusedVariables false
set_option linter.unusedSimpArgs false

/-! The order's closure: after the kit's printed words (PrintLast), turned to this namespace. -/
section
variable {ops : Array Oper} {md : Region.Mode}
/-- Operation d waits for operation i, by a chain of at most 'fuel' edges. -/
def Region.reachB (md : Region.Mode) (ops : Array Oper) (i : Nat) : Nat → Nat → Bool
  | 0, _ => false
  | fuel + 1, d => match ops[d]? with
    | some o => o.after.any fun e => Region.binds md e && (e.on == i || Region.reachB md ops i fuel e.on)
    | none => false

/-- What is listed is closed under the edges. -/
def Region.closedB (md : Region.Mode) (ops : Array Oper) (listed : Array Bool) : Bool :=
  (List.range ops.size).all fun j => !listed.getD j false || match ops[j]? with
    | some o => o.after.all fun e => !Region.binds md e || listed.getD e.on false
    | none => true

/-- Each of ds that has not come up yet waits for number i. -/
def Region.lastB (md : Region.Mode) (ops : Array Oper) (listed : Array Bool) (ds : List Nat) (i : Nat) : Bool :=
  ds.all fun d => listed.getD d true || Region.reachB md ops i ops.size d

def ListedClosed (md : Region.Mode) (ops : Array Oper) (listed : Array Bool) : Prop :=
  ∀ j oj, ops[j]? = some oj → listed.getD j false = true → ∀ e ∈ oj.after, Region.binds md e = true → listed.getD e.on false = true

theorem Region.closedB_spec {listed : Array Bool} (h : Region.closedB md ops listed = true) : ListedClosed md ops listed := by
  intro j oj hj hl e he hb
  have hlt : j < ops.size := (Array.getElem?_eq_some_iff.1 hj).1
  have h1 := List.all_eq_true.1 h j (List.mem_range.2 hlt)
  simp only [hl, hj, Bool.not_true, Bool.false_or] at h1
  have h2 := Array.all_eq_true_iff_forall_mem.1 h1 e he
  simpa [hb] using h2

theorem ListedClosed.set {listed : Array Bool} {i : Nat} (h : ListedClosed md ops listed) (hi : i ∈ Region.ready md ops listed) : ListedClosed md ops (listed.setIfInBounds i true) := by
  obtain ⟨_, oi, hoi, hall⟩ := mem_ready.1 hi
  intro j oj hj hl e he hb
  by_cases hij : i = j
  · subst hij
    have : oj = oi := Option.some.inj (hj.symm.trans hoi)
    subst this
    exact getD_set_true (hall e he hb)
  · rw [getD_set_ne false hij] at hl
    exact getD_set_true (h j oj hj hl e he hb)

theorem Region.reach_listed {listed : Array Bool} {i : Nat} (hc : ListedClosed md ops listed) : ∀ (fuel d : Nat), Region.reachB md ops i fuel d = true → listed.getD d false = true → listed.getD i false = true
  | 0, _, h, _ => by simp [Region.reachB] at h
  | fuel + 1, d, h, hl => by
    unfold Region.reachB at h
    cases ho : ops[d]? with
    | none => rw [ho] at h; simp at h
    | some o =>
      rw [ho] at h
      obtain ⟨e, he, h1⟩ := Array.any_eq_true'.1 h
      simp only [Bool.and_eq_true, Bool.or_eq_true, beq_iff_eq] at h1
      have hle := hc d o ho hl e he h1.1
      rcases h1.2 with h2 | h2
      · rw [← h2]; exact hle
      · exact Region.reach_listed hc fuel e.on h2 hle

/-- What waits for i cannot come up before i is listed. -/
theorem Region.reach_not_ready {listed : Array Bool} {i d fuel : Nat} (hc : ListedClosed md ops listed) (hr : Region.reachB md ops i fuel d = true) (hun : listed.getD i true = false) : d ∉ Region.ready md ops listed := by
  intro hd
  obtain ⟨_, o, ho, hall⟩ := mem_ready.1 hd
  have hi : listed.getD i false = true := by
    cases fuel with
    | zero => simp [Region.reachB] at hr
    | succ n =>
      unfold Region.reachB at hr
      rw [ho] at hr
      obtain ⟨e, he, h1⟩ := Array.any_eq_true'.1 hr
      simp only [Bool.and_eq_true, Bool.or_eq_true, beq_iff_eq] at h1
      have hle := hall e he h1.1
      rcases h1.2 with h2 | h2
      · rw [← h2]; exact hle
      · exact Region.reach_listed hc n e.on h2 hle
  rcases Nat.lt_or_ge i listed.size with h' | h'
  · simp [h'] at hun hi
    rw [hun] at hi
    cases hi
  · simp [Array.getElem?_eq_none h'] at hun

end

def yieldV : Value → Option Bool
  | .bool b => some b
  | _ => none

/-- Whether an operation's guard lets it be carried out, if that is known. -/
def wantA (ops : Array Oper) (S : St) (o : Oper) : Option Bool :=
  match o.guard with
  | none => some true
  | some (j, want) => match (ops[j]?).bind (·.dst) with
    | none => some false
    | some d => match S.tmps[d]? with
      | some (.k v) => some (yieldV v == some want)
      | _ => none

section
variable {P : Program} {ops : Array Oper} {Q : Exit → St → Prop} {S : St} {o : Oper} {rest : List Oper}

theorem wantA_spec {C : Cx} {φ : List Hd} {a : Act} {w : World} (hI : Inv C φ S a w) {b : Bool} (h : wantA ops S o = some b) : Region.wanted o (yielded ops a.tmps) = b := by
  obtain ⟨A, hA, hr⟩ := hI.ex
  unfold wantA at h
  unfold Region.wanted
  cases hg : o.guard with
  | none => rw [hg] at h; simpa using h
  | some gw =>
    obtain ⟨j, want⟩ := gw
    rw [hg] at h
    simp only at h ⊢
    unfold yielded
    cases hd : (ops[j]?).bind (·.dst) with
    | none => rw [hd] at h; simpa using h
    | some d =>
      rw [hd] at h
      simp only at h
      cases ht : S.tmps[d]? with
      | none => rw [ht] at h; simp at h
      | some v =>
        rw [ht] at h
        cases v with
        | k v =>
          obtain ⟨y, h1, h2⟩ := rels_get hr ht
          rw [Rel] at h2
          subst h2
          simp only [Option.some.injEq] at h
          subst h
          simp only [Option.bind_some]
          rw [show a.tmps[d]? = some y from h1]
          cases y <;> rfl
        | _ => simp at h

theorem aops_nil (h : Q .normal S) : AOps P ops [] Q S := ⟨fun C φ a w hI => wpList_nil ⟨S, φ, hI, h⟩⟩

theorem aops_want {v : V} {H' : List Reg} (hw : wantA ops S o = some true) (hs : Step P o S.ev S.H v H') (h : AOps P ops rest Q (S.put o.dst v H')) : AOps P ops (o :: rest) Q S := ⟨fun C φ a w hI => by
  refine wpList_step fun K hK => ?_
  rw [if_pos (wantA_spec hI hw)]
  exact hs S rfl (fun _ _ => rfl) C φ a w hI K _ fun x w' φ' hI' => hK _ _ (h.out C φ' _ _ hI')⟩

theorem undef_rel (C : Cx) (φ : List Hd) (a : Act) (w : World) (hI : Inv C φ S a w) (dst : Option Tmp) : Inv C φ (S.put dst (.k undef) S.H) (a.put dst undef) w := by
  obtain ⟨hm, ⟨A, hA, hr⟩, hs, hd⟩ := hI
  obtain ⟨h3, h4⟩ := put_rel (H := S.H) (v := .k undef) (x := undef) hs hr (by simp [Rel]) dst
  refine ⟨by cases dst <;> exact hm, ⟨A, ?_, h3⟩, h4, by cases dst <;> exact hd⟩
  have : (S.put dst (.k undef) S.H).H = S.H := by cases dst <;> rfl
  rw [this]
  exact hA

theorem aops_skip (hw : wantA ops S o = some false) (h : AOps P ops rest Q (S.put o.dst (.k undef) S.H)) : AOps P ops (o :: rest) Q S := ⟨fun C φ a w hI => by
  refine wpList_step fun K hK => ?_
  rw [if_neg (by rw [wantA_spec hI hw]; simp)]
  exact hK _ _ (h.out C φ _ _ (undef_rel C φ a w hI o.dst))⟩

theorem set_same {d : Nat} {v : V} (hd : S.tmps[d]? = some v) : (⟨S.tmps.set d v, S.H, S.m⟩ : St) = S := by
  obtain ⟨l, H, m⟩ := S
  simp only at hd ⊢
  congr 1
  refine List.ext_getElem? fun i => ?_
  rw [List.getElem?_set]
  by_cases hi : d = i
  · subst hi
    obtain ⟨hlt, hv⟩ := List.getElem?_eq_some_iff.1 hd
    simp [hlt, hd, hv]
  · simp [hi]

/-- A Bool that is not known is parted on. -/
theorem aops_split {l : List Oper} (d : Nat) {b : Bool} (hd : S.tmps[d]? = some (.k (.bool b))) (h : ∀ b', b' = b → AOps P ops l Q ⟨S.tmps.set d (.k (.bool b')), S.H, S.m⟩) : AOps P ops l Q S := by
  have := h b rfl
  rwa [set_same hd] at this

theorem aw_region {id : Nat} {l : List Oper} (h : AOps P l.toArray l Q S) : AW P (.region id l.toArray false) Q S := ⟨fun C φ a w hI => wp_region_lit (h.out C φ a w hI)⟩
end

/-! ### Whatever order -/
section
variable {P : Program} {ops : Array Oper} {md : Region.Mode} {ds : List Nat} {Q : Exit → St → Prop}

def AOp (P : Program) (ops : Array Oper) (ds : List Nat) (i : Nat) (K : St → Prop) (S : St) : Prop :=
  match ops[i]? with
  | none => K S
  | some o => (wantA ops S o = some true ∧ ∃ v H', Step P o S.ev S.H v H' ∧ (i ∉ ds → H' = S.H) ∧ K (S.put o.dst v H')) ∨ (wantA ops S o = some false ∧ K (S.put o.dst (.k undef) S.H))

def AAny (P : Program) (md : Region.Mode) (ops : Array Oper) (ds : List Nat) (Q : Exit → St → Prop) : Nat → Array Bool → St → Prop
  | 0, listed, S => Region.ready md ops listed = [] ∧ Q .normal S
  | n + 1, listed, S => (Region.ready md ops listed = [] → Q .normal S) ∧ ∀ i ∈ Region.ready md ops listed, AOp P ops ds i (AAny P md ops ds Q n (listed.setIfInBounds i true)) S

theorem AOp.mono {i : Nat} {K K' : St → Prop} {S : St} (hk : ∀ S, K S → K' S) (h : AOp P ops ds i K S) : AOp P ops ds i K' S := by
  unfold AOp at *
  split at h
  · exact hk _ h
  · rcases h with ⟨h1, v, H', h2, h3, h4⟩ | ⟨h1, h2⟩
    · exact Or.inl ⟨h1, v, H', h2, h3, hk _ h4⟩
    · exact Or.inr ⟨h1, hk _ h2⟩

theorem wpAny_of_AAny : ∀ (n : Nat) (listed : Array Bool) (S : St), AAny P md ops ds Q n listed S → ∀ (C : Cx) (φ : List Hd) (a : Act) (w : World), Inv C φ S a w → wpAny P md ops (Lift C Q) n listed a w
  | 0, listed, S, h, C, φ, a, w, hI => ⟨h.1, S, φ, hI, h.2⟩
  | n + 1, listed, S, h, C, φ, a, w, hI => by
    refine ⟨fun h0 => ⟨S, φ, hI, h.1 h0⟩, fun i hi => ?_⟩
    have h1 := h.2 i hi
    unfold AOp at h1
    unfold wpOp
    cases ho : ops[i]? with
    | none => rw [ho] at h1; exact wpAny_of_AAny n _ S h1 C φ a w hI
    | some o =>
      rw [ho] at h1
      simp only at h1 ⊢
      rcases h1 with ⟨hw, v, H', hs, _, hk⟩ | ⟨hw, hk⟩
      · rw [if_pos (wantA_spec hI hw)]
        exact Or.inl (hs S rfl (fun _ _ => rfl) C φ a w hI _ _ fun x w' φ' hI' => wpAny_of_AAny n _ _ hk C φ' _ _ hI')
      · rw [if_neg (by rw [wantA_spec hI hw]; simp)]
        exact wpAny_of_AAny n _ _ hk C φ _ _ (undef_rel C φ a w hI o.dst)

theorem drew_inv {C : Cx} {φ : List Hd} {S : St} {a : Act} {w : World} (hI : Inv C φ S a w) : Inv C φ S a { w with drawn := w.drawn + 1 } := by
  obtain ⟨hm, ⟨A, hA, hr⟩, hs, hd⟩ := hI
  refine ⟨hm, ⟨A, ⟨⟨hA.ok.len, fun h hd r h1 h2 h3 => ?_, hA.ok.inj, hA.ok.apart, hA.ok.frz, hA.ok.low⟩, hA.old, hA.own, ⟨hA.frame.os, hA.frame.tape, hA.frame.output, hA.frame.size, hA.frame.block⟩, hA.pre⟩, Rels.mono (w := w) (w' := { w with drawn := w.drawn + 1 }) (fun b hb => ⟨hb, rfl⟩) (fun _ _ h => h) hr⟩, hs, hd⟩
  obtain ⟨e1, e2⟩ := hA.ok.regs h hd r h1 h2 h3
  refine ⟨e1, ?_⟩
  cases hb : hd.blk with
  | none => rw [hb] at e2; exact e2
  | some b =>
    rw [hb] at e2
    obtain ⟨c, k1, k2, k3, k4⟩ := e2
    exact ⟨c, k1, k2, k3, Rels.mono (w := w) (w' := { w with drawn := w.drawn + 1 }) (fun b hb => ⟨hb, rfl⟩) (fun _ _ h => h) k4⟩

theorem aw_region_any {id : Nat} {S : St} (ds : List Nat) (hm : P.follows .mixedOrders = true) (h : AAny P .any ops ds Q ops.size (Array.replicate ops.size false) S) : AW P (.region id ops true) Q S :=
  ⟨fun C φ a w hI => wp_region_any hm (wpAny_of_AAny _ _ _ h C φ a _ (drew_inv hI))⟩

theorem ev_put {S : St} {dst : Option Tmp} {v : V} {H : List Reg} {x : Operand} (h : ∀ d, dst = some d → x ≠ .tmp d) : (S.put dst v H).ev x = S.ev x := by
  cases dst with
  | none => cases x <;> rfl
  | some d =>
    cases x with
    | tmp t =>
      have hne : d ≠ t := fun e => h d rfl (e ▸ rfl)
      simp [St.ev, St.put, List.getElem?_set, hne]
    | _ => rfl

theorem put_comm {S : St} {x y : Option Tmp} (v u : V) (H H' : List Reg) (h : ∀ d, x = some d → y ≠ some d) : (S.put x v H).put y u H' = (S.put y u H').put x v H' := by
  cases x with
  | none => cases y <;> rfl
  | some d =>
    cases y with
    | none => rfl
    | some e =>
      have hne : d ≠ e := fun he => h d rfl (he ▸ rfl)
      simp [St.put, List.set_comm _ _ hne]

theorem put_H {S : St} {x : Option Tmp} {v : V} {H : List Reg} : (S.put x v H).H = H := by cases x <;> rfl

theorem wantA_put {S : St} {o : Oper} {dst : Option Tmp} {v : V} {H : List Reg} (h : ∀ d, dst = some d → d ∉ o.looksAt ops) : wantA ops (S.put dst v H) o = wantA ops S o := by
  cases dst with
  | none => rfl
  | some d =>
    unfold wantA
    cases hg : o.guard with
    | none => rfl
    | some gw =>
      obtain ⟨j, want⟩ := gw
      simp only
      cases ht : (ops[j]?).bind (·.dst) with
      | none => rfl
      | some t =>
        have hne : d ≠ t := fun e => h d rfl (by subst e; simp [Oper.looksAt, hg, ht])
        simp [St.put, List.getElem?_set, hne]

theorem operand_put {S : St} {o : Oper} {dst : Option Tmp} {v : V} {H : List Reg} (h : ∀ d, dst = some d → d ∉ o.looksAt ops) : ∀ x ∈ o.op.operands, (S.put dst v H).ev x = S.ev x :=
  fun x hx => ev_put fun d hd hxd => h d hd (by
    subst hxd
    exact List.mem_append_left _ (List.mem_filterMap.2 ⟨.tmp d, by simpa using hx, rfl⟩))

theorem Step.congr {o : Oper} {ρ ρ' : Operand → V} {H H' : List Reg} {v : V} (h : Step P o ρ H v H') (hρ : ∀ x ∈ o.op.operands, ρ' x = ρ x) : Step P o ρ' H v H' :=
  fun S hS hx => h S hS fun x hm => (hx x hm).trans (hρ x hm)

/-- The operation turns nothing: in the rows that are there ('all = false'), in any ('all = true'). -/
def Still (P : Program) (ops : Array Oper) (all : Bool) (o : Oper) (v : V) (S : St) : Prop :=
  (wantA ops S o = some true ∧ ((all = true ∧ ∀ H, Step P o S.ev H v H) ∨ (all = false ∧ Step P o S.ev S.H v S.H))) ∨ (wantA ops S o = some false ∧ v = .k undef)

theorem Still.aop {all : Bool} {i : Nat} {o : Oper} {v : V} {S : St} {K : St → Prop} (hi : ops[i]? = some o) (h : Still P ops all o v S) (hk : K (S.put o.dst v S.H)) : AOp P ops ds i K S := by
  unfold AOp
  rw [hi]
  rcases h with ⟨h1, h2 | h2⟩ | ⟨h1, rfl⟩
  · exact Or.inl ⟨h1, v, S.H, h2.2 _, fun _ => rfl, hk⟩
  · exact Or.inl ⟨h1, v, S.H, h2.2, fun _ => rfl, hk⟩
  · exact Or.inr ⟨h1, hk⟩

theorem Still.keep {all : Bool} {oi oj : Oper} {v u : V} {S : St} {H' : List Reg} (hap : ∀ d, oj.dst = some d → d ∉ oi.looksAt ops) (hH : all = false → H' = S.H) (h : Still P ops all oi v S) : Still P ops all oi v (S.put oj.dst u H') := by
  unfold Still at *
  rw [wantA_put hap, put_H]
  rcases h with ⟨h1, h2 | h2⟩ | h1
  · exact Or.inl ⟨h1, Or.inl ⟨h2.1, fun H => (h2.2 H).congr (operand_put hap)⟩⟩
  · refine Or.inl ⟨h1, Or.inr ⟨h2.1, ?_⟩⟩
    rw [hH h2.1]
    exact h2.2.congr (operand_put hap)
  · exact Or.inr h1

theorem AOp.put {all : Bool} {j : Nat} {oi oj : Oper} {v : V} {S : St} {K : St → Prop} (hj : ops[j]? = some oj) (hap : oi.apart ops oj = true) (hd : all = false → j ∉ ds)
    (hy : Still P ops all oi v S) (h : AOp P ops ds j K (S.put oi.dst v S.H)) : AOp P ops ds j (fun S' => Still P ops all oi v S' ∧ K (S'.put oi.dst v S'.H)) S := by
  obtain ⟨h1, h2, h3⟩ := Oper.apart_spec hap
  unfold AOp at *
  rw [hj] at *
  simp only at h ⊢
  rw [wantA_put h1, put_H] at h
  rcases h with ⟨hw, u, H', hs, hH, hk⟩ | ⟨hw, hk⟩
  · refine Or.inl ⟨hw, u, H', hs.congr (fun x hx => (operand_put h1 x hx).symm), hH, hy.keep h3 (fun ha => hH (hd ha)), ?_⟩
    rw [put_H, ← put_comm v u S.H H' h2]
    exact hk
  · refine Or.inr ⟨hw, hy.keep h3 (fun _ => rfl), ?_⟩
    rw [put_H, ← put_comm v (.k undef) S.H S.H h2]
    exact hk

theorem AAny_first {all : Bool} {i : Nat} {oi : Oper} {v : V} (hi : ops[i]? = some oi) (m : Nat) :
    ∀ (n : Nat) (listed : Array Bool) (S : St),
      (∀ j oj, ops[j]? = some oj → j ≠ i → listed.getD j true = false → (∀ e ∈ oj.after, Region.binds md e = true → e.on ≠ i) → oi.apart ops oj = true) →
      (all = false → ListedClosed md ops listed ∧ ∀ d ∈ ds, listed.getD d true = false → Region.reachB md ops i m d = true) →
      i ∈ Region.ready md ops listed → Still P ops all oi v S →
      AAny P md ops ds Q n (listed.setIfInBounds i true) (S.put oi.dst v S.H) → AAny P md ops ds Q (n + 1) listed S := by
  intro n
  induction n with
  | zero =>
    intro listed S _ _ hr hy H
    refine ⟨fun h => (by rw [h] at hr; cases hr), fun j hj => ?_⟩
    by_cases hji : j = i
    · subst hji; exact hy.aop hi H
    · have := ready_mono hj hji
      rw [H.1] at this
      cases this
  | succ n ih =>
    intro listed S hfree hc hr hy H
    refine ⟨fun h => (by rw [h] at hr; cases hr), fun j hj => ?_⟩
    by_cases hji : j = i
    · subst hji; exact hy.aop hi H
    · have h1 := H.2 j (ready_mono hj hji)
      obtain ⟨hjun, oj, hoj, hall⟩ := mem_ready.1 hj
      have hiun := (mem_ready.1 hr).1
      have hnot : ∀ e ∈ oj.after, Region.binds md e = true → e.on ≠ i := fun e he hb heq => by
        have h1 := hall e he hb
        rw [heq] at h1
        rcases Nat.lt_or_ge i listed.size with h' | h'
        · simp [h'] at hiun h1; rw [hiun] at h1; cases h1
        · simp [Array.getElem?_eq_none h'] at h1
      have hjd : all = false → j ∉ ds := fun ha hm => Region.reach_not_ready (hc ha).1 ((hc ha).2 j hm hjun) hiun hj
      have h2 := AOp.put hoj (hfree j oj hoj hji hjun hnot) hjd hy h1
      have hfree' : ∀ k ok, ops[k]? = some ok → k ≠ i → (listed.setIfInBounds j true).getD k true = false →
          (∀ e ∈ ok.after, Region.binds md e = true → e.on ≠ i) → oi.apart ops ok = true := fun k ok hk hki hun hno => by
        refine hfree k ok hk hki ?_ hno
        by_cases hjk : j = k
        · subst hjk; exact hjun
        · rw [getD_set_ne true hjk] at hun; exact hun
      have hc' : all = false → ListedClosed md ops (listed.setIfInBounds j true) ∧ ∀ d ∈ ds, (listed.setIfInBounds j true).getD d true = false → Region.reachB md ops i m d = true := fun ha => by
        refine ⟨(hc ha).1.set hj, fun d hm hun => (hc ha).2 d hm ?_⟩
        by_cases hjk : j = d
        · subst hjk; exact hjun
        · rw [getD_set_ne true hjk] at hun; exact hun
      refine AOp.mono (fun S' h3 => ih (listed.setIfInBounds j true) S' hfree' hc' (ready_mono hr (Ne.symm hji)) h3.1 ?_) h2
      rw [Array.setIfInBounds_comm _ _ hji]
      exact h3.2

def takeP (ops : Array Oper) (l l' : Array Bool) (i : Nat) : Bool :=
  Region.free .any ops l i && (Region.ready .any ops l).contains i && (l.setIfInBounds i true == l')
def takeH (ops : Array Oper) (ds : List Nat) (l l' : Array Bool) (i : Nat) : Bool :=
  takeP ops l l' i && Region.closedB .any ops l && Region.lastB .any ops l ds i
def oneB (ops : Array Oper) (l l' : Array Bool) (i : Nat) : Bool := (Region.ready .any ops l == [i]) && (l.setIfInBounds i true == l')

/-- Number i, which turns nothing whatever the rows, is taken first. -/
theorem any_pure {i n : Nat} {o : Oper} {v : V} {S : St} {l : Array Bool} (l' : Array Bool) (hi : ops[i]? = some o) (hc : takeP ops l l' i = true) (hw : wantA ops S o = some true)
    (hs : ∀ H, Step P o S.ev H v H) (h : AAny P .any ops ds Q n l' (S.put o.dst v S.H)) : AAny P .any ops ds Q (n + 1) l S := by
  simp only [takeP, Bool.and_eq_true, beq_iff_eq] at hc
  obtain ⟨⟨h1, h2⟩, h3⟩ := hc
  subst h3
  exact AAny_first (all := true) hi 0 n l S (Region.free_spec hi h1) (fun ha => by cases ha) (by simpa using h2) (Or.inl ⟨hw, Or.inl ⟨rfl, hs⟩⟩) h

theorem any_skip {i n : Nat} {o : Oper} {S : St} {l : Array Bool} (l' : Array Bool) (hi : ops[i]? = some o) (hc : takeP ops l l' i = true) (hw : wantA ops S o = some false)
    (h : AAny P .any ops ds Q n l' (S.put o.dst (.k undef) S.H)) : AAny P .any ops ds Q (n + 1) l S := by
  simp only [takeP, Bool.and_eq_true, beq_iff_eq] at hc
  obtain ⟨⟨h1, h2⟩, h3⟩ := hc
  subst h3
  exact AAny_first (all := true) hi 0 n l S (Region.free_spec hi h1) (fun ha => by cases ha) (by simpa using h2) (Or.inr ⟨hw, rfl⟩) h

/-- Number i, which reads the rows: all that writes waits for it. -/
theorem any_read {i n : Nat} {o : Oper} {v : V} {S : St} {l : Array Bool} (l' : Array Bool) (hi : ops[i]? = some o) (hc : takeH ops ds l l' i = true) (hw : wantA ops S o = some true)
    (hs : Step P o S.ev S.H v S.H) (h : AAny P .any ops ds Q n l' (S.put o.dst v S.H)) : AAny P .any ops ds Q (n + 1) l S := by
  simp only [takeH, takeP, Bool.and_eq_true, beq_iff_eq] at hc
  obtain ⟨⟨⟨⟨h1, h2⟩, h3⟩, h4⟩, h5⟩ := hc
  subst h3
  exact AAny_first (all := false) hi ops.size n l S (Region.free_spec hi h1)
    (fun _ => ⟨Region.closedB_spec h4, fun d hm hun => by have := List.all_eq_true.1 h5 d hm; rw [hun] at this; simpa using this⟩) (by simpa using h2) (Or.inl ⟨hw, Or.inr ⟨rfl, hs⟩⟩) h

/-- Number i alone may come up. -/
theorem any_one {i n : Nat} {o : Oper} {v : V} {S : St} {H' : List Reg} {l : Array Bool} (l' : Array Bool) (hi : ops[i]? = some o) (hc : oneB ops l l' i = true) (hw : wantA ops S o = some true) (hd : i ∈ ds)
    (hs : Step P o S.ev S.H v H') (h : AAny P .any ops ds Q n l' (S.put o.dst v H')) : AAny P .any ops ds Q (n + 1) l S := by
  simp only [oneB, Bool.and_eq_true, beq_iff_eq] at hc
  obtain ⟨h1, h3⟩ := hc
  subst h3
  refine ⟨fun h0 => by (rw [h1] at h0; cases h0), fun j hj => ?_⟩
  rw [h1] at hj
  simp only [List.mem_singleton] at hj
  subst hj
  unfold AOp
  rw [hi]
  exact Or.inl ⟨hw, v, H', hs, fun hn => absurd hd hn, h⟩

theorem any_done {n : Nat} {S : St} {l : Array Bool} (hr : (Region.ready .any ops l == []) = true) (h : Q .normal S) : AAny P .any ops ds Q n l S := by
  have hr' : Region.ready .any ops l = [] := by simpa using hr
  cases n with
  | zero => exact ⟨hr', h⟩
  | succ n => exact ⟨fun _ => h, fun i hi => by rw [hr'] at hi; cases hi⟩

theorem any_split {n : Nat} {S : St} {l : Array Bool} (d : Nat) {b : Bool} (hd : S.tmps[d]? = some (.k (.bool b))) (h : ∀ b', b' = b → AAny P md ops ds Q n l ⟨S.tmps.set d (.k (.bool b')), S.H, S.m⟩) : AAny P md ops ds Q n l S := by
  have := h b rfl
  rwa [set_same hd] at this
end

end Go.Proofs.Ytkcicbigpbdjpaa.Ab
