/-
  THE WALK's STATE, AND THE RULES OF THE WALK.
-/
import Derived.Test.YtkcicbigpbdjpaaAbA
namespace Go.Proofs.Ytkcicbigpbdjpaa.Ab
open Go.RowKit
set_option linter.unusedVariables false
set_option linter.unusedSimpArgs false

/-- A row of the walk's own: the size of an element, the cells that are known; mode 0: it may be written, nobody else reads it; 1: it is read by many and no longer written; more: nothing is known any longer. -/
structure Reg where
  e : TypeId
  esz : Nat
  cells : List V
  mode : Nat := 0

structure St where
  tmps : List V
  H : List Reg
  m : Nat := 0

def RegOk (A : Nat → Prop) (w : World) (φ : List Hd) (hd : Hd) (r : Reg) : Prop :=
  (hd.esz = r.esz ∧ hd.e = r.e ∧ hd.cap ≤ maxLen) ∧ match hd.blk with
    | none => r.cells = [] ∧ hd.cap = 0
    | some b => ∃ c, w.heap[b]? = some (.cells c hd.e (0, 0)) ∧ c.size = hd.cap * hd.esz ∧ r.cells.length ≤ c.size ∧ Rels A w φ r.cells (fun i => c[i]?)

/-- Row h is live, and lies in block b. -/
def LiveAt (φ : List Hd) (H : List Reg) (h b : Nat) : Prop := ∃ hd r, φ[h]? = some hd ∧ H[h]? = some r ∧ r.mode = 0 ∧ hd.blk = some b

structure HeapOk (A : Nat → Prop) (w : World) (φ : List Hd) (H : List Reg) : Prop where
  len : φ.length = H.length
  regs : ∀ (h : Nat) (hd : Hd) (r : Reg), φ[h]? = some hd → H[h]? = some r → r.mode ≤ 1 → RegOk A w φ hd r
  inj : ∀ h h' b, LiveAt φ H h b → LiveAt φ H h' b → h = h'
  apart : ∀ h b, LiveAt φ H h b → ¬ A b
  frz : ∀ (h : Nat) (hd : Hd) (r : Reg) b, φ[h]? = some hd → H[h]? = some r → r.mode = 1 → hd.blk = some b → A b
  low : ∀ b, A b → b < w.heap.size

/-- Where a call began: what it was allowed to read, the world, the rows that it was handed. -/
structure Cx where
  A0 : Nat → Prop
  w0 : World
  φ0 : List Hd
  H0 : List Reg

/-- Nothing of what was there has turned but the rows that were handed over. -/
structure Framed (C : Cx) (w : World) : Prop where
  os : w.os = C.w0.os
  tape : w.tape = C.w0.tape
  output : w.output = C.w0.output
  size : C.w0.heap.size ≤ w.heap.size
  block : ∀ b, b < C.w0.heap.size → (∀ h, ¬ LiveAt C.φ0 C.H0 h b) → w.heap[b]? = C.w0.heap[b]?

structure InvA (C : Cx) (A : Nat → Prop) (φ : List Hd) (H : List Reg) (w : World) : Prop where
  ok : HeapOk A w φ H
  old : ∀ b, A b → C.A0 b ∨ C.w0.heap.size ≤ b
  own : ∀ h b, LiveAt φ H h b → C.w0.heap.size ≤ b ∨ ∃ h0, LiveAt C.φ0 C.H0 h0 b
  frame : Framed C w
  pre : ∀ (h : Nat) (hd : Hd), C.φ0[h]? = some hd → φ[h]? = some hd

structure Inv (C : Cx) (φ : List Hd) (S : St) (a : Act) (w : World) : Prop where
  m : C.φ0.length = S.m
  ex : ∃ A, InvA C A φ S.H w ∧ Rels A w φ S.tmps (fun i => a.tmps[i]?)
  size : a.tmps.size = S.tmps.length
  defers : a.defers = []

def St.ev (S : St) : Operand → V
  | .tmp t => (S.tmps[t]?).getD .any
  | .const v => .k v
  | .global g => .k (.pointer (some ⟨g, 0, none⟩))
  | .func f => .k (.func (.func f) #[] #[])

def St.put (S : St) (dst : Option Tmp) (v : V) (H : List Reg) : St :=
  match dst with
  | some d => ⟨S.tmps.set d v, H, S.m⟩
  | none => ⟨S.tmps, H, S.m⟩

theorem ev_rel {A : Nat → Prop} {w : World} {φ : List Hd} {S : St} {a : Act} (h : Rels A w φ S.tmps (fun i => a.tmps[i]?)) (x : Operand) : Rel A w φ (S.ev x) (a.eval x) := by
  cases x with
  | tmp t =>
    show Rel A w φ ((S.tmps[t]?).getD .any) (a.tmps.getD t undef)
    cases ht : S.tmps[t]? with
    | none => simp [Rel]
    | some v =>
      obtain ⟨y, h1, h2⟩ := rels_get h ht
      simp only [Option.getD_some]
      have : a.tmps.getD t undef = y := by
        rw [Array.getD_eq_getD_getElem?]
        rw [show a.tmps[t]? = some y from h1]
        rfl
      rw [this]
      exact h2
  | const v => simp [St.ev, Act.eval, Rel]
  | global g => simp [St.ev, Act.eval, Rel]
  | func f => simp [St.ev, Act.eval, Rel]

theorem put_rel {A : Nat → Prop} {w : World} {φ : List Hd} {S : St} {a : Act} {H : List Reg} {v : V} {x : Value} (hs : a.tmps.size = S.tmps.length) (h : Rels A w φ S.tmps (fun i => a.tmps[i]?)) (hv : Rel A w φ v x) (dst : Option Tmp) :
    Rels A w φ (S.put dst v H).tmps (fun i => (a.put dst x).tmps[i]?) ∧ (a.put dst x).tmps.size = (S.put dst v H).tmps.length := by
  cases dst with
  | none => exact ⟨h, hs⟩
  | some d =>
    refine ⟨rels_iff.2 fun i c hc => ?_, by simp [Act.put, St.put, hs]⟩
    simp only [St.put, Act.put] at hc ⊢
    rw [List.getElem?_set] at hc
    by_cases hd : d = i
    · subst hd
      simp only [if_true] at hc
      split at hc
      · rename_i hlt
        simp only [Option.some.injEq] at hc
        subst hc
        exact ⟨x, by simp [hs, hlt], hv⟩
      · cases hc
    · rw [if_neg hd] at hc
      obtain ⟨y, h1, h2⟩ := rels_get h hc
      exact ⟨y, by rw [Array.getElem?_setIfInBounds_ne hd]; exact h1, h2⟩

/-- One operation: from every world that fits S it leads to one that fits what is said. -/
def StepTo (P : Program) (o : Oper) (S : St) (v : V) (H' : List Reg) : Prop :=
  ∀ C φ a w, Inv C φ S a w → ∀ (next : Act → World → Prop) (Q : Exit → Act → World → Prop),
    (∀ x w' φ', Inv C φ' (S.put o.dst v H') (a.put o.dst x) w' → next (a.put o.dst x) w') → o.wp P a w next Q

/-- The same, said of the operands' values alone. -/
def Step (P : Program) (o : Oper) (ρ : Operand → V) (H : List Reg) (v : V) (H' : List Reg) : Prop :=
  ∀ S : St, S.H = H → (∀ x ∈ o.op.operands, S.ev x = ρ x) → StepTo P o S v H'

/-- An operation that turns nothing: whatever the world, it yields a value that fits. -/
theorem step_pure {P : Program} {o : Oper} {ρ : Operand → V} {H : List Reg} {v : V}
    (h : ∀ (A : Nat → Prop) (φ : List Hd) (a : Act) (w : World), HeapOk A w φ H → (∀ x ∈ o.op.operands, Rel A w φ (ρ x) (a.eval x)) → ∃ x, (execOp a.eval o).run P w = .ok (.value x) w ∧ Rel A w φ v x) : Step P o ρ H v H := by
  intro S hS hρ C φ a w hI next Q hn
  obtain ⟨hm, ⟨A, hA, hr⟩, hs, hd⟩ := hI
  subst hS
  obtain ⟨x, h1, h2⟩ := h A φ a w hA.ok (fun y hy => by rw [← hρ y hy]; exact ev_rel hr y)
  unfold Oper.wp
  rw [h1]
  obtain ⟨h3, h4⟩ := put_rel (H := S.H) hs hr h2 o.dst
  refine hn x w φ ⟨by cases o.dst <;> exact hm, ⟨A, ?_, h3⟩, h4, by cases o.dst <;> exact hd⟩
  have : (S.put o.dst v S.H).H = S.H := by cases o.dst <;> rfl
  rw [this]
  exact hA

/-! ### Code -/

/-- What is asked of an end, in the walk's own words. -/
def Lift (C : Cx) (Q : Exit → St → Prop) : Exit → Act → World → Prop := fun e a w => ∃ S φ, Inv C φ S a w ∧ Q e S

structure AW (P : Program) (c : Code) (Q : Exit → St → Prop) (S : St) : Prop where
  out : ∀ C φ a w, Inv C φ S a w → c.wp P (Lift C Q) a w

structure AOps (P : Program) (ops : Array Oper) (l : List Oper) (Q : Exit → St → Prop) (S : St) : Prop where
  out : ∀ C φ a w, Inv C φ S a w → wpList P ops (Lift C Q) l a w

def AThen (K : St → Prop) (Q : Exit → St → Prop) : Exit → St → Prop
  | .normal, S => K S
  | e, S => Q e S

def ABlock (id : Nat) (Q : Exit → St → Prop) : Exit → St → Prop
  | .exit j, S => if j = id then Q .normal S else Q (.exit j) S
  | e, S => Q e S

section
variable {P : Program} {Q : Exit → St → Prop} {S : St}

theorem AW.mono {c : Code} {Q' : Exit → St → Prop} (hq : ∀ e S, Q e S → Q' e S) (h : AW P c Q S) : AW P c Q' S :=
  ⟨fun C φ a w hI => wp_mono (h.out C φ a w hI) fun e a w ⟨S, φ, h1, h2⟩ => ⟨S, φ, h1, hq e S h2⟩⟩

theorem aw_skip (h : Q .normal S) : AW P .skip Q S := ⟨fun C φ a w hI => wp_skip ⟨S, φ, hI, h⟩⟩
theorem aw_ret (h : Q .ret S) : AW P .ret Q S := ⟨fun C φ a w hI => wp_ret ⟨S, φ, hI, h⟩⟩
theorem aw_exit {id : Nat} (h : Q (.exit id) S) : AW P (.exit id) Q S := ⟨fun C φ a w hI => wp_exit ⟨S, φ, hI, h⟩⟩

theorem aw_seq {x y : Code} (h : AW P x (AThen (AW P y Q) Q) S) : AW P (.seq x y) Q S := ⟨fun C φ a w hI => by
  refine wp_seq (wp_mono (h.out C φ a w hI) ?_)
  rintro e a' w' ⟨S', φ', hI', hq⟩
  cases e with
  | normal => exact hq.out C φ' a' w' hI'
  | exit id => exact ⟨S', φ', hI', hq⟩
  | goto l => exact ⟨S', φ', hI', hq⟩
  | ret => exact ⟨S', φ', hI', hq⟩
  | panic c => exact ⟨S', φ', hI', hq⟩
  | outgrown => exact ⟨S', φ', hI', hq⟩⟩

theorem aw_cond {c : Operand} {x y : Code} {b : Bool} (hc : S.ev c = .k (.bool b)) (ht : b = true → AW P x Q S) (hf : b = false → AW P y Q S) : AW P (.cond c x y) Q S := ⟨fun C φ a w hI => by
  obtain ⟨A, hA, hr⟩ := hI.ex
  have h1 := ev_rel hr c
  rw [hc, Rel] at h1
  refine wp_cond h1 ?_
  cases b with
  | true => exact (ht rfl).out C φ a w hI
  | false => exact (hf rfl).out C φ a w hI⟩

theorem aw_block {id : Nat} {c : Code} (h : AW P c (ABlock id Q) S) : AW P (.block id c) Q S := ⟨fun C φ a w hI => by
  refine wp_block (wp_mono (h.out C φ a w hI) ?_)
  rintro e a' w' ⟨S', φ', hI', hq⟩
  cases e with
  | normal => exact ⟨S', φ', hI', hq⟩
  | exit j =>
    simp only [ABlock] at hq
    simp only [Exit.inBlock]
    by_cases hj : j = id
    · rw [if_pos hj] at hq ⊢; exact ⟨S', φ', hI', hq⟩
    · rw [if_neg hj] at hq ⊢; exact ⟨S', φ', hI', hq⟩
  | goto l => exact ⟨S', φ', hI', hq⟩
  | ret => exact ⟨S', φ', hI', hq⟩
  | panic c => exact ⟨S', φ', hI', hq⟩
  | outgrown => exact ⟨S', φ', hI', hq⟩⟩

/-- T says no more than S (other numbers for the rows, less known). -/
def Sub (T S : St) : Prop := ∀ C φ a w, Inv C φ S a w → ∃ φ', Inv C φ' T a w

theorem Sub.refl (S : St) : Sub S S := fun C φ a w h => ⟨φ, h⟩
theorem Sub.trans {R T S : St} (h : Sub R T) (k : Sub T S) : Sub R S := fun C φ a w hI => let ⟨φ', h'⟩ := k C φ a w hI; h C φ' a w h'
theorem aw_sub {T : St} {c : Code} (hs : Sub T S) (h : AW P c Q T) : AW P c Q S := ⟨fun C φ a w hI => let ⟨φ', h'⟩ := hs C φ a w hI; h.out C φ' a w h'⟩

/-- A loop: what its state is at each round's head, told by 'x'; what is left of it, 'd'. -/
theorem aw_loop {α : Type} {c : Code} (I : α → St) (μ : α → Nat) (x : α) (h0 : Sub (I x) S)
    (round : ∀ x, AW P c (AThen (fun S' => ∃ y, μ y < μ x ∧ Sub (I y) S') Q) (I x)) : AW P (.loop c) Q S := ⟨fun C φ a w hI => by
  obtain ⟨φ0, hI0⟩ := h0 C φ a w hI
  intro b k cs
  have key : ∀ n x, μ x = n → ∀ φ a w, Inv C φ (I x) a w →
      ∃ e a' w', Lift C Q e a' w' ∧ Arrives P (lone (b.at a (.code c :: .inLoop c :: k)) cs w) b k cs e a' w' := by
    intro n
    induction n using Nat.strongRecOn with
    | _ n ih =>
      intro x hn φ a w hI
      obtain ⟨e, a1, w1, ⟨S1, φ1, hI1, hq⟩, harr⟩ := (round x).out C φ a w hI b (.inLoop c :: k) cs
      cases e with
      | normal =>
        obtain ⟨y, hlt, hsub⟩ := hq
        obtain ⟨φ2, hI2⟩ := hsub C φ1 a1 w1 hI1
        obtain ⟨e2, a2, w2, hq2, harr2⟩ := ih (μ y) (hn ▸ hlt) y rfl φ2 a1 w1 hI2
        exact ⟨e2, a2, w2, hq2, .of_steps (Steps.trans harr (.one step_inLoop)) harr2⟩
      | exit id => exact ⟨_, a1, w1, ⟨S1, φ1, hI1, hq⟩, .pass (x := .inLoop c) rfl (fun _ _ => .inl (by simp)) harr⟩
      | goto l => exact ⟨_, a1, w1, ⟨S1, φ1, hI1, hq⟩, .pass (x := .inLoop c) rfl (fun _ _ => .inl (by simp)) harr⟩
      | ret => exact ⟨_, a1, w1, ⟨S1, φ1, hI1, hq⟩, .pass (x := .inLoop c) rfl (fun _ _ => .inl (by simp)) harr⟩
      | panic ch => exact ⟨_, a1, w1, ⟨S1, φ1, hI1, hq⟩, .pass (x := .inLoop c) rfl (fun _ _ => .inl (by simp)) harr⟩
      | outgrown => exact ⟨_, a1, w1, ⟨S1, φ1, hI1, hq⟩, .pass (x := .inLoop c) rfl (fun _ _ => .inl (by simp)) harr⟩
  obtain ⟨e, a', w', hq, harr⟩ := key _ x rfl φ0 a w hI0
  exact ⟨e, a', w', hq, .of_steps (.one step_loop) harr⟩⟩
end

end Go.Proofs.Ytkcicbigpbdjpaa.Ab
