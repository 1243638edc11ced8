/-
  WHAT IS HANDED BACK; LISTS OF STRUCTS; THE RULES AS THE WALKS USE THEM.
-/
import Derived.Test.YtkcicbigpbdjpaaAbI
namespace Go.Proofs.Ytkcicbigpbdjpaa.Ab
open Go.RowKit
set_option linter.unusedVariables false
set_option linter.unusedSimpArgs false

/-- No memory but rows of the walk's own. -/
def flatV : V → Bool
  | .k _ | .sl _ _ _ | .ptr _ _ | .any => true
  | .tup vs => vs.all fun v => match v with
    | .agg cs => cs.all fun c => match c with | .k _ | .sl _ _ _ | .any => true | _ => false
    | .k _ | .sl _ _ _ | .ptr _ _ | .any => true
    | _ => false
  | .agg cs => cs.all fun c => match c with | .k _ | .sl _ _ _ | .any => true | _ => false
  | _ => false
def FlatL (cs : List V) : Prop := ∀ c ∈ cs, ∃ v, c = .k v

section
variable {A A' : Nat → Prop} {w : World} {φ : List Hd}
theorem flat_one {c : V} {x : Value} (h : Rel A w φ c x) (hc : (match c with | .k _ | .sl _ _ _ | .ptr _ _ | .any => true | _ => false) = true) : Rel A' w φ c x := by
  cases c <;> simp at hc <;> simp only [Rel] at h ⊢ <;> exact h
theorem flat_rels {cs : List V} {g : Nat → Option Value} (hf : ∀ c ∈ cs, ∀ x, Rel A w φ c x → Rel A' w φ c x) (h : Rels A w φ cs g) : Rels A' w φ cs g := rels_iff.2 fun i c hc => by
  obtain ⟨y, h1, h2⟩ := rels_get h hc
  exact ⟨y, h1, hf c (List.mem_of_getElem? hc) y h2⟩
theorem flat_agg {cs : List V} {x : Value} (hf : (cs.all fun c => match c with | .k _ | .sl _ _ _ | .any => true | _ => false) = true) (h : Rel A w φ (.agg cs) x) : Rel A' w φ (.agg cs) x := by
  rw [Rel] at h ⊢
  obtain ⟨xs, e1, e2, h2⟩ := h
  refine ⟨xs, e1, e2, flat_rels (fun c hc x hx => flat_one hx ?_) h2⟩
  have := List.all_eq_true.1 hf c hc
  cases c <;> simp at this ⊢
theorem flat_rel {v : V} {x : Value} (hf : flatV v = true) (h : Rel A w φ v x) : Rel A' w φ v x := by
  cases v with
  | agg cs => exact flat_agg hf h
  | tup vs =>
    rw [Rel] at h ⊢
    obtain ⟨xs, e1, e2, h2⟩ := h
    refine ⟨xs, e1, e2, flat_rels (fun c hc x hx => ?_) h2⟩
    have := List.all_eq_true.1 hf c hc
    cases c with
    | agg cs => exact flat_agg this hx
    | _ => first | exact flat_one hx rfl | (simp at this)
  | k u => exact flat_one h rfl
  | sl a b c => exact flat_one h rfl
  | ptr a b => exact flat_one h rfl
  | any => exact flat_one h rfl
  | lst n cs => cases hf
  | pref cs => cases hf
  | fn f cs => cases hf
theorem flat_L {cs : List V} {g : Nat → Option Value} (hf : FlatL cs) (h : Rels A w φ cs g) : Rels A' w φ cs g := flat_rels (fun c hc x hx => by
  obtain ⟨v, rfl⟩ := hf c hc
  exact flat_one hx rfl) h
end

theorem out_of {al : Bool} {r v : V} {K : List Reg} {S : St} (ψ : List Nat) (hfix : ∀ i, i < S.m → ψ[i]? = some i) (hH : HLe ψ K S.H) (hr : Le ψ r v)
    (hal : al = true ∨ (flatV r = true ∧ ∀ q ∈ K, q.mode ≠ 1 ∧ (q.mode = 0 → FlatL q.cells))) : Out al r K v S := by
  intro C A φ w x hm hA hv
  obtain ⟨φ', h1, h2, h3, h4⟩ := hH.ok hA.ok
  have hown : ∀ h b, LiveAt φ' K h b → C.w0.heap.size ≤ b ∨ ∃ h0, LiveAt C.φ0 C.H0 h0 b := fun h b hl => by
    obtain ⟨h', hl'⟩ := h4 h b hl
    exact hA.own h' b hl'
  have hpre : ∀ (h : Nat) (hd : Hd), C.φ0[h]? = some hd → φ'[h]? = some hd := fun i hd hi =>
    h2 i i (hfix i (by rw [← hm]; exact (List.getElem?_eq_some_iff.1 hi).1)) hd (hA.pre i hd hi)
  rcases hal with hal | ⟨hf, hK⟩
  · exact ⟨φ', A, h3, Le.rel h2 hr hv, fun b hb => (hA.old b hb).imp (fun h => ⟨hal, h⟩) id, hown, hpre⟩
  · refine ⟨φ', fun _ => False, ⟨h3.len, fun h hd q q1 q2 q3 => ?_, h3.inj, fun _ _ _ h => h, fun h hd q b q1 q2 q3 q4 => absurd q3 (hK q (List.mem_of_getElem? q2)).1, fun _ h => h.elim⟩, flat_rel hf (Le.rel h2 hr hv), fun _ h => h.elim, hown, hpre⟩
    obtain ⟨e1, e2⟩ := h3.regs h hd q q1 q2 q3
    have hq := hK q (List.mem_of_getElem? q2)
    refine ⟨e1, ?_⟩
    cases hb : hd.blk with
    | none => rw [hb] at e2; exact e2
    | some b =>
      rw [hb] at e2
      obtain ⟨c, k1, k2, k3, k4⟩ := e2
      exact ⟨c, k1, k2, k3, flat_L (hq.2 (by have := hq.1; omega)) k4⟩

theorem hle_nil {H : List Reg} : HLe [] [] H := ⟨rfl, List.nodup_nil, fun i h hi => by simp at hi⟩
theorem hle_one {h : Nat} {r r' : Reg} {H : List Reg} (hh : H[h]? = some r') (hm : r'.mode = r.mode) (he : r'.esz = r.esz) (hee : r'.e = r.e) (hc : Les [h] r.cells r'.cells) : HLe [h] [r] H :=
  ⟨rfl, by simp, fun i h' hi => by
    cases i with
    | zero => simp at hi; subst hi; exact ⟨r, r', rfl, hh, fun _ => ⟨hm, he, hee, hc⟩⟩
    | succ i => simp at hi⟩
mutual
theorem le_more {ψ ψ' : List Nat} : ∀ {c d : V}, noH c = true → Le ψ c d → Le ψ' c d
  | .k _, d, hq, h => by simp only [Le] at h ⊢; exact h
  | .lst _ _, d, hq, h => by simp only [Le] at h ⊢; exact h
  | .pref _, d, hq, h => by simp only [Le] at h ⊢; exact h
  | .any, d, hq, h => by simp only [Le]
  | .agg cs, d, hq, h => by
    rw [Le] at h ⊢
    obtain ⟨ds, e, h1⟩ := h
    exact ⟨ds, e, les_more' (by simpa only [noH] using hq) h1⟩
  | .tup cs, d, hq, h => by
    rw [Le] at h ⊢
    obtain ⟨ds, e, h1⟩ := h
    exact ⟨ds, e, les_more' (by simpa only [noH] using hq) h1⟩
  | .fn f cs, d, hq, h => by
    rw [Le] at h ⊢
    obtain ⟨ds, e, h1⟩ := h
    exact ⟨ds, e, les_more' (by simpa only [noH] using hq) h1⟩
  | .sl _ _ _, d, hq, h => by simp [noH] at hq
  | .ptr _ _, d, hq, h => by simp [noH] at hq
theorem les_more' {ψ ψ' : List Nat} : ∀ {cs ds : List V}, noHs cs = true → Les ψ cs ds → Les ψ' cs ds
  | [], ds, _, h => by rw [Les] at h ⊢; exact h
  | c :: cs, ds, hq, h => by
    simp only [noHs, Bool.and_eq_true] at hq
    rw [Les] at h ⊢
    obtain ⟨d, ds', rfl, l1, l2⟩ := h
    exact ⟨d, ds', rfl, le_more hq.1 l1, les_more' hq.2 l2⟩
end
theorem les_more {ψ ψ' : List Nat} : ∀ {cs ds : List V}, NoH cs → Les ψ cs ds → Les ψ' cs ds
  | [], ds, _, h => by rw [Les] at h ⊢; exact h
  | c :: cs, ds, hq, h => by
    rw [Les] at h ⊢
    obtain ⟨d, ds', rfl, l1, l2⟩ := h
    exact ⟨d, ds', rfl, le_more (hq c (List.mem_cons_self ..)) l1, les_more (fun x hx => hq x (List.mem_cons_of_mem _ hx)) l2⟩
/-- One row more at the end. -/
theorem hle_cons {h : Nat} {r r' : Reg} {ψ : List Nat} {K H : List Reg} (hK : HLe ψ K H) (hn : h ∉ ψ) (hh : H[h]? = some r') (hd : r.mode ≤ 1 → r'.mode = r.mode ∧ r'.esz = r.esz ∧ r'.e = r.e ∧ Les (ψ ++ [h]) r.cells r'.cells)
    (hle : ∀ q ∈ K, NoH q.cells) : HLe (ψ ++ [h]) (K ++ [r]) H := by
  obtain ⟨h1, h2, h3⟩ := hK
  refine ⟨by simp [h1], by rw [List.nodup_append]; exact ⟨h2, by simp, fun a ha b hb => by simp at hb; subst hb; exact fun e => hn (e ▸ ha)⟩, fun i h' hi => ?_⟩
  rcases getElem?_app hi with hi | ⟨rfl, rfl⟩
  · obtain ⟨q, q', k1, k2, k3⟩ := h3 i h' hi
    refine ⟨q, q', app_left k1, k2, fun hm => ?_⟩
    obtain ⟨m1, m2, m3, m4⟩ := k3 hm
    have hq := hle q (List.mem_of_getElem? k1)
    refine ⟨m1, m2, m3, ?_⟩
    exact les_more hq m4
  · rw [h1]
    exact ⟨r, r', by simp, hh, hd⟩

/-! ### Lists -/
/-- A type's values as cells. -/
structure Ty (α : Type) where
  n : Nat
  enc : α → List V
  len : ∀ a, (enc a).length = n
  pos : 0 < n
  ok : ∀ a, ∀ c ∈ enc a, oneV c = true ∧ noH c = true

def Ty.flat {α : Type} (t : Ty α) (xs : List α) : List V := xs.flatMap t.enc

section
variable {α : Type} (t : Ty α)
theorem flat_nil : t.flat [] = [] := rfl
theorem flat_cons (x : α) (xs : List α) : t.flat (x :: xs) = t.enc x ++ t.flat xs := rfl
theorem flat_append (xs ys : List α) : t.flat (xs ++ ys) = t.flat xs ++ t.flat ys := by simp [Ty.flat]
theorem flat_single (x : α) : t.flat [x] = t.enc x := by simp [Ty.flat]
theorem flat_length (xs : List α) : (t.flat xs).length = xs.length * t.n := by
  induction xs with
  | nil => simp [Ty.flat]
  | cons x xs ih => rw [flat_cons, List.length_append, t.len, ih, List.length_cons, Nat.succ_mul, Nat.add_comm]
theorem flat_ok (xs : List α) : ∀ c ∈ t.flat xs, oneV c = true ∧ noH c = true := fun c hc => by
  obtain ⟨x, _, h⟩ := List.mem_flatMap.1 hc
  exact t.ok x c h
theorem flat_noH (xs : List α) : NoH (t.flat xs) := fun c hc => (flat_ok t xs c hc).2
theorem flat_oneV (xs : List α) : ∀ c ∈ t.flat xs, oneV c = true := fun c hc => (flat_ok t xs c hc).1
theorem flat_drop (xs : List α) (i : Nat) : (t.flat xs).drop (i * t.n) = t.flat (xs.drop i) := by
  induction xs generalizing i with
  | nil => simp [Ty.flat]
  | cons x xs ih =>
    cases i with
    | zero => simp
    | succ i =>
      rw [flat_cons, List.drop_succ_cons, ← ih i, Nat.succ_mul, Nat.add_comm, ← List.drop_drop]
      congr 1
      have := t.len x
      rw [List.drop_append, this]
      simp [List.drop_eq_nil_of_le (Nat.le_of_eq this)]
theorem flat_take (xs : List α) (i : Nat) : (t.flat xs).take (i * t.n) = t.flat (xs.take i) := by
  induction xs generalizing i with
  | nil => simp [Ty.flat]
  | cons x xs ih =>
    cases i with
    | zero => simp [Ty.flat]
    | succ i =>
      rw [flat_cons, List.take_succ_cons, flat_cons, ← ih i, Nat.succ_mul, Nat.add_comm]
      have := t.len x
      rw [List.take_append, this]
      congr 1
      · rw [List.take_of_length_le (by omega)]
      · congr 1; omega
theorem flat_at {xs : List α} {i : Nat} {x : α} (h : xs[i]? = some x) : (t.flat xs).drop (i * t.n) = t.enc x ++ t.flat (xs.drop (i + 1)) := by
  rw [flat_drop]
  obtain ⟨hlt, rfl⟩ := List.getElem?_eq_some_iff.1 h
  rw [List.drop_eq_getElem_cons hlt, flat_cons]
theorem flat_set {xs : List α} {i : Nat} {x : α} (h : i < xs.length) : setCells (t.flat xs) (i * t.n) (t.enc x) = t.flat (xs.set i x) := by
  unfold setCells
  rw [flat_take, t.len, show i * t.n + t.n = (i + 1) * t.n from (Nat.succ_mul _ _).symm, flat_drop, ← flat_single, ← flat_append, ← flat_append]
  congr 1
  rw [List.set_eq_take_append_cons_drop, if_pos h]
  simp
end

/-- A list, read. -/
abbrev lstOf {α : Type} (t : Ty α) (xs : List α) : V := .lst xs.length (t.flat xs)
abbrev regOf {α : Type} (t : Ty α) (e : TypeId) (xs : List α) : Reg := ⟨e, t.n, t.flat xs, 0⟩

/-! ### The rules as they are used -/
def evO (l : List V) : Operand → Option V
  | .tmp t => l[t]?
  | .const v => some (.k v)
  | .global g => some (.k (.pointer (some ⟨g, 0, none⟩)))
  | .func f => some (.k (.func (.func f) #[] #[]))

section
variable {P : Program} {ops : Array Oper} {Q : Exit → St → Prop} {rest : List Oper} {l : List V} {H H' K : List Reg} {m : Nat} {o : Oper}

theorem ev_of {x : Operand} {v : V} (h : evO l x = some v) : (⟨l, H, m⟩ : St).ev x = v := by
  cases x <;> simp_all [evO, St.ev]

theorem st_move {x : Operand} {v : V} (ho : o.op = .move x) (hv : evO l x = some v) : Step P o (St.ev ⟨l, H, m⟩) K v K := by
  rw [← ev_of (H := H) (m := m) hv]; exact step_move ho
theorem st_assign {x : Operand} {v : V} (ho : o.op = .assign x) (hv : evO l x = some v) : Step P o (St.ev ⟨l, H, m⟩) K v K := by
  rw [← ev_of (H := H) (m := m) hv]; exact step_assign ho
theorem st_pick_t {c x y : Operand} {v : V} (ho : o.op = .pick c x y) (hc : (⟨l, H, m⟩ : St).ev c = .k (.bool true)) (hv : evO l x = some v) : Step P o (St.ev ⟨l, H, m⟩) K v K := by
  rw [← ev_of (H := H) (m := m) hv]; exact step_pick_true ho hc
theorem st_pick_f {c x y : Operand} {v : V} (ho : o.op = .pick c x y) (hc : (⟨l, H, m⟩ : St).ev c = .k (.bool false)) (hv : evO l y = some v) : Step P o (St.ev ⟨l, H, m⟩) K v K := by
  rw [← ev_of (H := H) (m := m) hv]; exact step_pick_false ho hc

theorem do_ {d : Tmp} {op : Op} {ty : TypeId} {pos : String} {after : Array Edge} {v : V} (hs : Step P ⟨some d, op, ty, pos, after, none⟩ (St.ev ⟨l, H, m⟩) H v H') (h : AOps P ops rest Q ⟨l.set d v, H', m⟩) : AOps P ops (⟨some d, op, ty, pos, after, none⟩ :: rest) Q ⟨l, H, m⟩ :=
  aops_want rfl hs h
theorem do0 {op : Op} {ty : TypeId} {pos : String} {after : Array Edge} {v : V} (hs : Step P ⟨none, op, ty, pos, after, none⟩ (St.ev ⟨l, H, m⟩) H v H') (h : AOps P ops rest Q ⟨l, H', m⟩) : AOps P ops (⟨none, op, ty, pos, after, none⟩ :: rest) Q ⟨l, H, m⟩ :=
  aops_want rfl hs h
/-- A guarded operation that is carried out. -/
theorem do_g {d : Tmp} {op : Op} {ty : TypeId} {pos : String} {after : Array Edge} {g : Nat × Bool} {v : V} (hw : wantA ops ⟨l, H, m⟩ ⟨some d, op, ty, pos, after, some g⟩ = some true) (hs : Step P ⟨some d, op, ty, pos, after, some g⟩ (St.ev ⟨l, H, m⟩) H v H') (h : AOps P ops rest Q ⟨l.set d v, H', m⟩) : AOps P ops (⟨some d, op, ty, pos, after, some g⟩ :: rest) Q ⟨l, H, m⟩ :=
  aops_want hw hs h
theorem do_s {d : Tmp} {op : Op} {ty : TypeId} {pos : String} {after : Array Edge} {g : Nat × Bool} (hw : wantA ops ⟨l, H, m⟩ ⟨some d, op, ty, pos, after, some g⟩ = some false) (h : AOps P ops rest Q ⟨l.set d (.k undef), H, m⟩) : AOps P ops (⟨some d, op, ty, pos, after, some g⟩ :: rest) Q ⟨l, H, m⟩ :=
  aops_skip hw h

theorem then_n {R : St → Prop} {S : St} (h : R S) : AThen R Q .normal S := h
theorem then_x {R : St → Prop} {S : St} {i : Nat} (h : Q (.exit i) S) : AThen R Q (.exit i) S := h
theorem then_r {R : St → Prop} {S : St} (h : Q .ret S) : AThen R Q .ret S := h
theorem block_n {id : Nat} {S : St} (h : Q .normal S) : ABlock id Q .normal S := h
theorem block_r {id : Nat} {S : St} (h : Q .ret S) : ABlock id Q .ret S := h
theorem block_x {id : Nat} {S : St} (h : Q .normal S) : ABlock id Q (.exit id) S := by simpa [ABlock] using h
theorem block_y {id j : Nat} {S : St} (hne : (j == id) = false) (h : Q (.exit j) S) : ABlock id Q (.exit j) S := by
  have : j ≠ id := by simpa using hne
  simpa [ABlock, this] using h

/-- The element of a list that is read. -/
theorem ia_l {α : Type} {t : Ty α} {ty e n b : Nat} {x y : Operand} {k : IntKind} {j : Int} {ρ : Operand → V} {xs : List α} {z : α} [ht : Sl P ty e n b] (ho : o.op = .indexAddr ty x y) (hx : ρ x = lstOf t xs) (hn : t.n = n) (hy : ρ y = .k (.int k j)) (h0 : 0 ≤ j) (hz : xs[j.toNat]? = some z) :
    Step P o ρ K (.pref (t.enc z ++ t.flat (xs.drop (j.toNat + 1)))) K := by
  rw [← flat_at t hz, hn]
  exact step_ia_lst ho hx hy h0 (by have := (List.getElem?_eq_some_iff.1 hz).1; omega)
end

end Go.Proofs.Ytkcicbigpbdjpaa.Ab
