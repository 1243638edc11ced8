/- What the row FnGroupAlgebra leans on, part 1: a walk over abstract values, and contracts proved with it. -/
import Derived.WalkKit
import Derived.Laws.Rows
import Derived.RowKit
import Derived.OrdersHeld
import Derived.Deep.RegionHeld3
import Derived.Deep.Draws
import Derived.BigCall
import Derived.KernelRfl
import Derived.Deep.Slices
import Derived.ChangeArms
import Derived.ChangeShapes
import Derived.WideShapes
import Derived.Laws.StructEq
import Derived.Lib.Overlaps
import Derived.Test.YtkcicbigpbdjpaaProg
import Derived.MapKept
import Derived.Carry
import Derived.Shelf.SlSortCmp.WholeK
import Derived.Laws.BytesString
set_option linter.unusedVariables false
set_option linter.unusedSimpArgs false
set_option maxRecDepth 20000
set_option maxHeartbeats 8000000
namespace Go.Proofs.Ytkcicbigpbdjpaa.Ab
open Go.RowKit
inductive V where
  | k (v : Value)
  | lst (n : Nat) (cs : List V)
  | sl (h off len : Nat)
  | ptr (h off : Nat)
  | pref (cs : List V)
  | agg (cs : List V)
  | tup (vs : List V)
  | fn (f : FuncId) (caps : List V)
  | any
instance : Inhabited V := ⟨.any⟩
structure Hd where
  blk : Option Nat
  cap : Nat
  esz : Nat
  e : TypeId
mutual
def Rel (A : Nat → Prop) (w : World) : List Hd → V → Value → Prop
  | _, .k v, x => x = v
  | _, .lst n cs, x => ∃ ad cap, x = .slice ad n cap ∧ n ≤ cap ∧ n ≤ cs.length ∧ (cs = [] ∨ ∃ b o, ad = some ⟨b, o, none⟩ ∧ A b ∧ zZ A w [] cs (fun i => w.cell? ⟨b, o + i, none⟩))
  | φ, .sl h off len, x => ∃ hd, φ[h]? = some hd ∧ ((x = .slice (hd.blk.map fun b => ⟨b, off * hd.esz, none⟩) len (hd.cap - off) ∧ off + len ≤ hd.cap) ∨ (0 < off ∧ len = 0 ∧ ∃ ad, x = .slice ad 0 0))
  | φ, .ptr h off, x => ∃ hd b, φ[h]? = some hd ∧ hd.blk = some b ∧ x = .pointer (some ⟨b, off, none⟩)
  | _, .pref cs, x => ∃ b o, x = .pointer (some ⟨b, o, none⟩) ∧ A b ∧ zZ A w [] cs (fun i => w.cell? ⟨b, o + i, none⟩)
  | φ, .agg cs, x => ∃ xs : Array Value, x = .agg xs ∧ xs.size = cs.length ∧ zZ A w φ cs (fun i => xs[i]?)
  | φ, .tup cs, x => ∃ xs : Array Value, x = .tuple xs ∧ xs.size = cs.length ∧ zZ A w φ cs (fun i => xs[i]?)
  | φ, .fn f cs, x => ∃ xs : Array Value, x = .func (.func f) #[] xs ∧ xs.size = cs.length ∧ zZ A w φ cs (fun i => xs[i]?)
  | _, .any, _ => True
def zZ (A : Nat → Prop) (w : World) : List Hd → List V → (Nat → Option Value) → Prop
  | _, [], _ => True
  | φ, c :: cs, g => (∃ y, g 0 = some y ∧ Rel A w φ c y) ∧ zZ A w φ cs (fun i => g (i + 1))
end
section
variable {A A' : Nat → Prop} {w w' : World} {φ φ' : List Hd}
theorem zv : ∀ {cs : List V} {g : Nat → Option Value}, zZ A w φ cs g ↔ ∀ (i : Nat) (c : V), cs[i]? = some c → ∃ y, g i = some y ∧ Rel A w φ c y
  | [], g => by simp [zZ]
  | c :: cs, g => by
    rw [zZ, zv (cs := cs)]
    constructor
    · rintro ⟨h0, h⟩ i c' hc
      cases i with
      | zero => simp only [List.getElem?_cons_zero, Option.some.injEq] at hc; subst hc; exact h0
      | succ i => exact h i c' (by simpa using hc)
    · intro h
      exact ⟨h 0 c rfl, fun i c' hc => h (i + 1) c' (by simpa using hc)⟩
theorem zz {cs : List V} {g : Nat → Option Value} (h : zZ A w φ cs g) {i : Nat} {c : V} (hc : cs[i]? = some c) : ∃ y, g i = some y ∧ Rel A w φ c y := zv.1 h i c hc
theorem z7 {cs : List V} {g g' : Nat → Option Value} (h : zZ A w φ cs g) (hg : ∀ i, i < cs.length → g' i = g i) : zZ A w φ cs g' :=
  zv.2 fun i c hc => by rw [hg i (List.getElem?_eq_some_iff.1 hc).1]; exact zv.1 h i c hc
theorem yS {cs : List V} {g : Nat → Option Value} (h : zZ A w φ cs g) (n : Nat) : zZ A w φ (cs.drop n) (fun i => g (n + i)) :=
  zv.2 fun i c hc => zv.1 h (n + i) c (by simpa using hc)
theorem ya {cs : List V} {g : Nat → Option Value} (h : zZ A w φ cs g) (n : Nat) : zZ A w φ (cs.take n) g :=
  zv.2 fun i c hc => zv.1 h i c (by
    rw [List.getElem?_take] at hc
    split at hc
    · exact hc
    · cases hc)
theorem yd {cs ds : List V} {g : Nat → Option Value} (h : zZ A w φ cs g) (h' : zZ A w φ ds (fun i => g (cs.length + i))) : zZ A w φ (cs ++ ds) g :=
  zv.2 fun i c hc => by
    rcases Nat.lt_or_ge i cs.length with hi | hi
    · rw [List.getElem?_append_left hi] at hc; exact zv.1 h i c hc
    · rw [List.getElem?_append_right hi] at hc
      have := zv.1 h' (i - cs.length) c hc
      simpa [Nat.add_sub_cancel' hi] using this
mutual
theorem Rel.mono (hb : ∀ b, A b → A' b ∧ w'.heap[b]? = w.heap[b]?) : ∀ {φ φ' : List Hd} {v : V} {x : Value}, (∀ (h : Nat) (hd : Hd), φ[h]? = some hd → φ'[h]? = some hd) → Rel A w φ v x → Rel A' w' φ' v x
  | φ, φ', .k v, x, hp, h => h
  | φ, φ', .lst n cs, x, hp, h => by
    rw [Rel] at h ⊢
    obtain ⟨ad, cap, e1, e2, e3, h⟩ := h
    refine ⟨ad, cap, e1, e2, e3, ?_⟩
    rcases h with h | ⟨b, o, ea, ha, hr⟩
    · exact Or.inl h
    · refine Or.inr ⟨b, o, ea, (hb b ha).1, ?_⟩
      have hg : (fun i => w'.cell? ⟨b, o + i, none⟩) = (fun i => w.cell? ⟨b, o + i, none⟩) := funext fun i => World.cell?_of_block (hb b ha).2
      rw [hg]
      exact zZ.mono hb (fun _ _ h => h) hr
  | φ, φ', .sl h off len, x, hp, hh => by
    rw [Rel] at hh ⊢
    obtain ⟨hd, h1, h2⟩ := hh
    exact ⟨hd, hp _ _ h1, h2⟩
  | φ, φ', .ptr h off, x, hp, hh => by
    rw [Rel] at hh ⊢
    obtain ⟨hd, b, h1, h2⟩ := hh
    exact ⟨hd, b, hp _ _ h1, h2⟩
  | φ, φ', .pref cs, x, hp, h => by
    rw [Rel] at h ⊢
    obtain ⟨b, o, ea, ha, hr⟩ := h
    refine ⟨b, o, ea, (hb b ha).1, ?_⟩
    have hg : (fun i => w'.cell? ⟨b, o + i, none⟩) = (fun i => w.cell? ⟨b, o + i, none⟩) := funext fun i => World.cell?_of_block (hb b ha).2
    rw [hg]
    exact zZ.mono hb (fun _ _ h => h) hr
  | φ, φ', .agg cs, x, hp, h => by
    rw [Rel] at h ⊢
    obtain ⟨xs, e1, e2, hr⟩ := h
    exact ⟨xs, e1, e2, zZ.mono hb hp hr⟩
  | φ, φ', .tup cs, x, hp, h => by
    rw [Rel] at h ⊢
    obtain ⟨xs, e1, e2, hr⟩ := h
    exact ⟨xs, e1, e2, zZ.mono hb hp hr⟩
  | φ, φ', .fn f cs, x, hp, h => by
    rw [Rel] at h ⊢
    obtain ⟨xs, e1, e2, hr⟩ := h
    exact ⟨xs, e1, e2, zZ.mono hb hp hr⟩
  | φ, φ', .any, x, hp, h => by rw [Rel]; trivial
theorem zZ.mono (hb : ∀ b, A b → A' b ∧ w'.heap[b]? = w.heap[b]?) : ∀ {φ φ' : List Hd} {cs : List V} {g : Nat → Option Value}, (∀ (h : Nat) (hd : Hd), φ[h]? = some hd → φ'[h]? = some hd) → zZ A w φ cs g → zZ A' w' φ' cs g
  | φ, φ', [], g, hp, h => by rw [zZ]; trivial
  | φ, φ', c :: cs, g, hp, h => by
    rw [zZ] at h ⊢
    obtain ⟨⟨y, h1, h2⟩, h3⟩ := h
    exact ⟨⟨y, h1, Rel.mono hb hp h2⟩, zZ.mono hb hp h3⟩
end
end
end Go.Proofs.Ytkcicbigpbdjpaa.Ab
namespace Go.Proofs.Ytkcicbigpbdjpaa.Ab
open Go.RowKit
structure Reg where
  e : TypeId
  esz : Nat
  cells : List V
  mode : Nat := 0
structure St where
  tmps : List V
  H : List Reg
  m : Nat := 0
def kZ (A : Nat → Prop) (w : World) (φ : List Hd) (hd : Hd) (r : Reg) : Prop :=
  (hd.esz = r.esz ∧ hd.e = r.e ∧ hd.cap ≤ maxLen) ∧ match hd.blk with
    | none => r.cells = [] ∧ hd.cap = 0
    | some b => ∃ c, w.heap[b]? = some (.cells c hd.e (0, 0)) ∧ c.size = hd.cap * hd.esz ∧ r.cells.length ≤ c.size ∧ zZ A w φ r.cells (fun i => c[i]?)
def za (φ : List Hd) (H : List Reg) (h b : Nat) : Prop := ∃ hd r, φ[h]? = some hd ∧ H[h]? = some r ∧ r.mode = 0 ∧ hd.blk = some b
structure HeapOk (A : Nat → Prop) (w : World) (φ : List Hd) (H : List Reg) : Prop where
  len : φ.length = H.length
  regs : ∀ (h : Nat) (hd : Hd) (r : Reg), φ[h]? = some hd → H[h]? = some r → r.mode ≤ 1 → kZ A w φ hd r
  inj : ∀ h h' b, za φ H h b → za φ H h' b → h = h'
  apart : ∀ h b, za φ H h b → ¬ A b
  frz : ∀ (h : Nat) (hd : Hd) (r : Reg) b, φ[h]? = some hd → H[h]? = some r → r.mode = 1 → hd.blk = some b → A b
  low : ∀ b, A b → b < w.heap.size
structure Cx where
  A0 : Nat → Prop
  w0 : World
  φ0 : List Hd
  H0 : List Reg
structure Framed (C : Cx) (w : World) : Prop where
  os : w.os = C.w0.os
  tape : w.tape = C.w0.tape
  output : w.output = C.w0.output
  size : C.w0.heap.size ≤ w.heap.size
  block : ∀ b, b < C.w0.heap.size → (∀ h, ¬ za C.φ0 C.H0 h b) → w.heap[b]? = C.w0.heap[b]?
structure InvA (C : Cx) (A : Nat → Prop) (φ : List Hd) (H : List Reg) (w : World) : Prop where
  ok : HeapOk A w φ H
  old : ∀ b, A b → C.A0 b ∨ C.w0.heap.size ≤ b
  own : ∀ h b, za φ H h b → C.w0.heap.size ≤ b ∨ ∃ h0, za C.φ0 C.H0 h0 b
  frame : Framed C w
  pre : ∀ (h : Nat) (hd : Hd), C.φ0[h]? = some hd → φ[h]? = some hd
structure Inv (C : Cx) (φ : List Hd) (S : St) (a : Act) (w : World) : Prop where
  m : C.φ0.length = S.m
  ex : ∃ A, InvA C A φ S.H w ∧ zZ A w φ S.tmps (fun i => a.tmps[i]?)
  size : a.tmps.size = S.tmps.length
  defers : a.defers = []
def St.ev (S : St) : Operand → V
  | .tmp t => (S.tmps[t]?).getD .any
  | .const v => .k v
  | .global g => .k (.pointer (some ⟨g, 0, none⟩))
  | .func f => .k (.func (.func f) #[] #[])
def St.put (S : St) (dst : Option Tmp) (v : V) (H : List Reg) : St :=
  match dst with
  | some d => ⟨S.tmps.set d v, H, S.m⟩
  | none => ⟨S.tmps, H, S.m⟩
theorem y9 {A : Nat → Prop} {w : World} {φ : List Hd} {S : St} {a : Act} (h : zZ A w φ S.tmps (fun i => a.tmps[i]?)) (x : Operand) : Rel A w φ (S.ev x) (a.eval x) := by
  cases x with
  | tmp t =>
    show Rel A w φ ((S.tmps[t]?).getD .any) (a.tmps.getD t undef)
    cases ht : S.tmps[t]? with
    | none => simp [Rel]
    | some v =>
      obtain ⟨y, h1, h2⟩ := zz h ht
      simp only [Option.getD_some]
      have : a.tmps.getD t undef = y := by
        rw [Array.getD_eq_getD_getElem?]
        rw [show a.tmps[t]? = some y from h1]
        rfl
      rw [this]
      exact h2
  | const v => simp [St.ev, Act.eval, Rel]
  | global g => simp [St.ev, Act.eval, Rel]
  | func f => simp [St.ev, Act.eval, Rel]
theorem xk {A : Nat → Prop} {w : World} {φ : List Hd} {S : St} {a : Act} {H : List Reg} {v : V} {x : Value} (hs : a.tmps.size = S.tmps.length) (h : zZ A w φ S.tmps (fun i => a.tmps[i]?)) (hv : Rel A w φ v x) (dst : Option Tmp) :
    zZ A w φ (S.put dst v H).tmps (fun i => (a.put dst x).tmps[i]?) ∧ (a.put dst x).tmps.size = (S.put dst v H).tmps.length := by
  cases dst with
  | none => exact ⟨h, hs⟩
  | some d =>
    refine ⟨zv.2 fun i c hc => ?_, by simp [Act.put, St.put, hs]⟩
    simp only [St.put, Act.put] at hc ⊢
    rw [List.getElem?_set] at hc
    by_cases hd : d = i
    · subst hd
      simp only [if_true] at hc
      split at hc
      · rename_i hlt
        simp only [Option.some.injEq] at hc
        subst hc
        exact ⟨x, by simp [hs, hlt], hv⟩
      · cases hc
    · rw [if_neg hd] at hc
      obtain ⟨y, h1, h2⟩ := zz h hc
      exact ⟨y, by rw [Array.getElem?_setIfInBounds_ne hd]; exact h1, h2⟩
def k8 (P : Program) (o : Oper) (S : St) (v : V) (H' : List Reg) : Prop :=
  ∀ C φ a w, Inv C φ S a w → ∀ (next : Act → World → Prop) (Q : Exit → Act → World → Prop),
    (∀ x w' φ', Inv C φ' (S.put o.dst v H') (a.put o.dst x) w' → next (a.put o.dst x) w') → o.wp P a w next Q
def zh (P : Program) (o : Oper) (ρ : Operand → V) (H : List Reg) (v : V) (H' : List Reg) : Prop :=
  ∀ S : St, S.H = H → (∀ x ∈ o.op.operands, S.ev x = ρ x) → k8 P o S v H'
theorem zl {P : Program} {o : Oper} {ρ : Operand → V} {H : List Reg} {v : V}
    (h : ∀ (A : Nat → Prop) (φ : List Hd) (a : Act) (w : World), HeapOk A w φ H → (∀ x ∈ o.op.operands, Rel A w φ (ρ x) (a.eval x)) → ∃ x, (execOp a.eval o).run P w = .ok (.value x) w ∧ Rel A w φ v x) : zh P o ρ H v H := by
  intro S hS hρ C φ a w hI next Q hn
  obtain ⟨hm, ⟨A, hA, hr⟩, hs, hd⟩ := hI
  subst hS
  obtain ⟨x, h1, h2⟩ := h A φ a w hA.ok (fun y hy => by rw [← hρ y hy]; exact y9 hr y)
  unfold Oper.wp
  rw [h1]
  obtain ⟨h3, h4⟩ := xk (H := S.H) hs hr h2 o.dst
  refine hn x w φ ⟨by cases o.dst <;> exact hm, ⟨A, ?_, h3⟩, h4, by cases o.dst <;> exact hd⟩
  have : (S.put o.dst v S.H).H = S.H := by cases o.dst <;> rfl
  rw [this]
  exact hA
def me (C : Cx) (Q : Exit → St → Prop) : Exit → Act → World → Prop := fun e a w => ∃ S φ, Inv C φ S a w ∧ Q e S
structure AW (P : Program) (c : Code) (Q : Exit → St → Prop) (S : St) : Prop where
  out : ∀ C φ a w, Inv C φ S a w → c.wp P (me C Q) a w
structure AOps (P : Program) (ops : Array Oper) (l : List Oper) (Q : Exit → St → Prop) (S : St) : Prop where
  out : ∀ C φ a w, Inv C φ S a w → wpList P ops (me C Q) l a w
def sA (K : St → Prop) (Q : Exit → St → Prop) : Exit → St → Prop
  | .normal, S => K S
  | e, S => Q e S
def vT (id : Nat) (Q : Exit → St → Prop) : Exit → St → Prop
  | .exit j, S => if j = id then Q .normal S else Q (.exit j) S
  | e, S => Q e S
section
variable {P : Program} {Q : Exit → St → Prop} {S : St}
theorem AW.mono {c : Code} {Q' : Exit → St → Prop} (hq : ∀ e S, Q e S → Q' e S) (h : AW P c Q S) : AW P c Q' S :=
  ⟨fun C φ a w hI => wp_mono (h.out C φ a w hI) fun e a w ⟨S, φ, h1, h2⟩ => ⟨S, φ, h1, hq e S h2⟩⟩
theorem zJ (h : Q .normal S) : AW P .skip Q S := ⟨fun C φ a w hI => wp_skip ⟨S, φ, hI, h⟩⟩
theorem zQ (h : Q .ret S) : AW P .ret Q S := ⟨fun C φ a w hI => wp_ret ⟨S, φ, hI, h⟩⟩
theorem zK {id : Nat} (h : Q (.exit id) S) : AW P (.exit id) Q S := ⟨fun C φ a w hI => wp_exit ⟨S, φ, hI, h⟩⟩
theorem zN {x y : Code} (h : AW P x (sA (AW P y Q) Q) S) : AW P (.seq x y) Q S := ⟨fun C φ a w hI => by
  refine wp_seq (wp_mono (h.out C φ a w hI) ?_)
  rintro e a' w' ⟨S', φ', hI', hq⟩
  cases e with
  | normal => exact hq.out C φ' a' w' hI'
  | exit id => exact ⟨S', φ', hI', hq⟩
  | goto l => exact ⟨S', φ', hI', hq⟩
  | ret => exact ⟨S', φ', hI', hq⟩
  | panic c => exact ⟨S', φ', hI', hq⟩
  | outgrown => exact ⟨S', φ', hI', hq⟩⟩
theorem zm {c : Operand} {x y : Code} {b : Bool} (hc : S.ev c = .k (.bool b)) (ht : b = true → AW P x Q S) (hf : b = false → AW P y Q S) : AW P (.cond c x y) Q S := ⟨fun C φ a w hI => by
  obtain ⟨A, hA, hr⟩ := hI.ex
  have h1 := y9 hr c
  rw [hc, Rel] at h1
  refine wp_cond h1 ?_
  cases b with
  | true => exact (ht rfl).out C φ a w hI
  | false => exact (hf rfl).out C φ a w hI⟩
theorem zE {id : Nat} {c : Code} (h : AW P c (vT id Q) S) : AW P (.block id c) Q S := ⟨fun C φ a w hI => by
  refine wp_block (wp_mono (h.out C φ a w hI) ?_)
  rintro e a' w' ⟨S', φ', hI', hq⟩
  cases e with
  | normal => exact ⟨S', φ', hI', hq⟩
  | exit j =>
    simp only [vT] at hq
    simp only [Exit.inBlock]
    by_cases hj : j = id
    · rw [if_pos hj] at hq ⊢; exact ⟨S', φ', hI', hq⟩
    · rw [if_neg hj] at hq ⊢; exact ⟨S', φ', hI', hq⟩
  | goto l => exact ⟨S', φ', hI', hq⟩
  | ret => exact ⟨S', φ', hI', hq⟩
  | panic c => exact ⟨S', φ', hI', hq⟩
  | outgrown => exact ⟨S', φ', hI', hq⟩⟩
def Sub (T S : St) : Prop := ∀ C φ a w, Inv C φ S a w → ∃ φ', Inv C φ' T a w
theorem Sub.refl (S : St) : Sub S S := fun C φ a w h => ⟨φ, h⟩
theorem Sub.trans {R T S : St} (h : Sub R T) (k : Sub T S) : Sub R S := fun C φ a w hI => let ⟨φ', h'⟩ := k C φ a w hI; h C φ' a w h'
theorem yV {α : Type} {c : Code} (I : α → St) (μ : α → Nat) (x : α) (h0 : Sub (I x) S)
    (round : ∀ x, AW P c (sA (fun S' => ∃ y, μ y < μ x ∧ Sub (I y) S') Q) (I x)) : AW P (.loop c) Q S := ⟨fun C φ a w hI => by
  obtain ⟨φ0, hI0⟩ := h0 C φ a w hI
  intro b k cs
  have key : ∀ n x, μ x = n → ∀ φ a w, Inv C φ (I x) a w →
      ∃ e a' w', me C Q e a' w' ∧ Arrives P (lone (b.at a (.code c :: .inLoop c :: k)) cs w) b k cs e a' w' := by
    intro n
    induction n using Nat.strongRecOn with
    | _ n ih =>
      intro x hn φ a w hI
      obtain ⟨e, a1, w1, ⟨S1, φ1, hI1, hq⟩, harr⟩ := (round x).out C φ a w hI b (.inLoop c :: k) cs
      cases e with
      | normal =>
        obtain ⟨y, hlt, hsub⟩ := hq
        obtain ⟨φ2, hI2⟩ := hsub C φ1 a1 w1 hI1
        obtain ⟨e2, a2, w2, hq2, harr2⟩ := ih (μ y) (hn ▸ hlt) y rfl φ2 a1 w1 hI2
        exact ⟨e2, a2, w2, hq2, .of_steps (Steps.trans harr (.one step_inLoop)) harr2⟩
      | exit id => exact ⟨_, a1, w1, ⟨S1, φ1, hI1, hq⟩, .pass (x := .inLoop c) rfl (fun _ _ => .inl (by simp)) harr⟩
      | goto l => exact ⟨_, a1, w1, ⟨S1, φ1, hI1, hq⟩, .pass (x := .inLoop c) rfl (fun _ _ => .inl (by simp)) harr⟩
      | ret => exact ⟨_, a1, w1, ⟨S1, φ1, hI1, hq⟩, .pass (x := .inLoop c) rfl (fun _ _ => .inl (by simp)) harr⟩
      | panic ch => exact ⟨_, a1, w1, ⟨S1, φ1, hI1, hq⟩, .pass (x := .inLoop c) rfl (fun _ _ => .inl (by simp)) harr⟩
      | outgrown => exact ⟨_, a1, w1, ⟨S1, φ1, hI1, hq⟩, .pass (x := .inLoop c) rfl (fun _ _ => .inl (by simp)) harr⟩
  obtain ⟨e, a', w', hq, harr⟩ := key _ x rfl φ0 a w hI0
  exact ⟨e, a', w', hq, .of_steps (.one step_loop) harr⟩⟩
end
end Go.Proofs.Ytkcicbigpbdjpaa.Ab
namespace Go.Proofs.Ytkcicbigpbdjpaa.Ab
open Go.RowKit
section
variable {ops : Array Oper} {md : Region.Mode}
def Region.reachB (md : Region.Mode) (ops : Array Oper) (i : Nat) : Nat → Nat → Bool
  | 0, _ => false
  | fuel + 1, d => match ops[d]? with
    | some o => o.after.any fun e => Region.binds md e && (e.on == i || Region.reachB md ops i fuel e.on)
    | none => false
def Region.closedB (md : Region.Mode) (ops : Array Oper) (listed : Array Bool) : Bool :=
  (List.range ops.size).all fun j => !listed.getD j false || match ops[j]? with
    | some o => o.after.all fun e => !Region.binds md e || listed.getD e.on false
    | none => true
def Region.lastB (md : Region.Mode) (ops : Array Oper) (listed : Array Bool) (ds : List Nat) (i : Nat) : Bool :=
  ds.all fun d => listed.getD d true || Region.reachB md ops i ops.size d
def yK (md : Region.Mode) (ops : Array Oper) (listed : Array Bool) : Prop :=
  ∀ j oj, ops[j]? = some oj → listed.getD j false = true → ∀ e ∈ oj.after, Region.binds md e = true → listed.getD e.on false = true
theorem Region.closedB_spec {listed : Array Bool} (h : Region.closedB md ops listed = true) : yK md ops listed := by
  intro j oj hj hl e he hb
  have hlt : j < ops.size := (Array.getElem?_eq_some_iff.1 hj).1
  have h1 := List.all_eq_true.1 h j (List.mem_range.2 hlt)
  simp only [hl, hj, Bool.not_true, Bool.false_or] at h1
  have h2 := Array.all_eq_true_iff_forall_mem.1 h1 e he
  simpa [hb] using h2
theorem yK.set {listed : Array Bool} {i : Nat} (h : yK md ops listed) (hi : i ∈ Region.ready md ops listed) : yK md ops (listed.setIfInBounds i true) := by
  obtain ⟨_, oi, hoi, hall⟩ := mem_ready.1 hi
  intro j oj hj hl e he hb
  by_cases hij : i = j
  · subst hij
    have : oj = oi := Option.some.inj (hj.symm.trans hoi)
    subst this
    exact getD_set_true (hall e he hb)
  · rw [getD_set_ne false hij] at hl
    exact getD_set_true (h j oj hj hl e he hb)
theorem Region.reach_listed {listed : Array Bool} {i : Nat} (hc : yK md ops listed) : ∀ (fuel d : Nat), Region.reachB md ops i fuel d = true → listed.getD d false = true → listed.getD i false = true
  | 0, _, h, _ => by simp [Region.reachB] at h
  | fuel + 1, d, h, hl => by
    unfold Region.reachB at h
    cases ho : ops[d]? with
    | none => rw [ho] at h; simp at h
    | some o =>
      rw [ho] at h
      obtain ⟨e, he, h1⟩ := Array.any_eq_true'.1 h
      simp only [Bool.and_eq_true, Bool.or_eq_true, beq_iff_eq] at h1
      have hle := hc d o ho hl e he h1.1
      rcases h1.2 with h2 | h2
      · rw [← h2]; exact hle
      · exact Region.reach_listed hc fuel e.on h2 hle
theorem Region.reach_not_ready {listed : Array Bool} {i d fuel : Nat} (hc : yK md ops listed) (hr : Region.reachB md ops i fuel d = true) (hun : listed.getD i true = false) : d ∉ Region.ready md ops listed := by
  intro hd
  obtain ⟨_, o, ho, hall⟩ := mem_ready.1 hd
  have hi : listed.getD i false = true := by
    cases fuel with
    | zero => simp [Region.reachB] at hr
    | succ n =>
      unfold Region.reachB at hr
      rw [ho] at hr
      obtain ⟨e, he, h1⟩ := Array.any_eq_true'.1 hr
      simp only [Bool.and_eq_true, Bool.or_eq_true, beq_iff_eq] at h1
      have hle := hall e he h1.1
      rcases h1.2 with h2 | h2
      · rw [← h2]; exact hle
      · exact Region.reach_listed hc n e.on h2 hle
  rcases Nat.lt_or_ge i listed.size with h' | h'
  · simp [h'] at hun hi
    rw [hun] at hi
    cases hi
  · simp [Array.getElem?_eq_none h'] at hun
end
def ka : Value → Option Bool
  | .bool b => some b
  | _ => none
def zw (ops : Array Oper) (S : St) (o : Oper) : Option Bool :=
  match o.guard with
  | none => some true
  | some (j, want) => match (ops[j]?).bind (·.dst) with
    | none => some false
    | some d => match S.tmps[d]? with
      | some (.k v) => some (ka v == some want)
      | _ => none
section
variable {P : Program} {ops : Array Oper} {Q : Exit → St → Prop} {S : St} {o : Oper} {rest : List Oper}
theorem yL {C : Cx} {φ : List Hd} {a : Act} {w : World} (hI : Inv C φ S a w) {b : Bool} (h : zw ops S o = some b) : Region.wanted o (yielded ops a.tmps) = b := by
  obtain ⟨A, hA, hr⟩ := hI.ex
  unfold zw at h
  unfold Region.wanted
  cases hg : o.guard with
  | none => rw [hg] at h; simpa using h
  | some gw =>
    obtain ⟨j, want⟩ := gw
    rw [hg] at h
    simp only at h ⊢
    unfold yielded
    cases hd : (ops[j]?).bind (·.dst) with
    | none => rw [hd] at h; simpa using h
    | some d =>
      rw [hd] at h
      simp only at h
      cases ht : S.tmps[d]? with
      | none => rw [ht] at h; simp at h
      | some v =>
        rw [ht] at h
        cases v with
        | k v =>
          obtain ⟨y, h1, h2⟩ := zz hr ht
          rw [Rel] at h2
          subst h2
          simp only [Option.some.injEq] at h
          subst h
          simp only [Option.bind_some]
          rw [show a.tmps[d]? = some y from h1]
          cases y <;> rfl
        | _ => simp at h
theorem zC (h : Q .normal S) : AOps P ops [] Q S := ⟨fun C φ a w hI => wpList_nil ⟨S, φ, hI, h⟩⟩
theorem uh {v : V} {H' : List Reg} (hw : zw ops S o = some true) (hs : zh P o S.ev S.H v H') (h : AOps P ops rest Q (S.put o.dst v H')) : AOps P ops (o :: rest) Q S := ⟨fun C φ a w hI => by
  refine wpList_step fun K hK => ?_
  rw [if_pos (yL hI hw)]
  exact hs S rfl (fun _ _ => rfl) C φ a w hI K _ fun x w' φ' hI' => hK _ _ (h.out C φ' _ _ hI')⟩
theorem w7 (C : Cx) (φ : List Hd) (a : Act) (w : World) (hI : Inv C φ S a w) (dst : Option Tmp) : Inv C φ (S.put dst (.k undef) S.H) (a.put dst undef) w := by
  obtain ⟨hm, ⟨A, hA, hr⟩, hs, hd⟩ := hI
  obtain ⟨h3, h4⟩ := xk (H := S.H) (v := .k undef) (x := undef) hs hr (by simp [Rel]) dst
  refine ⟨by cases dst <;> exact hm, ⟨A, ?_, h3⟩, h4, by cases dst <;> exact hd⟩
  have : (S.put dst (.k undef) S.H).H = S.H := by cases dst <;> rfl
  rw [this]
  exact hA
theorem pK (hw : zw ops S o = some false) (h : AOps P ops rest Q (S.put o.dst (.k undef) S.H)) : AOps P ops (o :: rest) Q S := ⟨fun C φ a w hI => by
  refine wpList_step fun K hK => ?_
  rw [if_neg (by rw [yL hI hw]; simp)]
  exact hK _ _ (h.out C φ _ _ (w7 C φ a w hI o.dst))⟩
theorem tU {d : Nat} {v : V} (hd : S.tmps[d]? = some v) : (⟨S.tmps.set d v, S.H, S.m⟩ : St) = S := by
  obtain ⟨l, H, m⟩ := S
  simp only at hd ⊢
  congr 1
  refine List.ext_getElem? fun i => ?_
  rw [List.getElem?_set]
  by_cases hi : d = i
  · subst hi
    obtain ⟨hlt, hv⟩ := List.getElem?_eq_some_iff.1 hd
    simp [hlt, hd, hv]
  · simp [hi]
theorem sZ {l : List Oper} (d : Nat) {b : Bool} (hd : S.tmps[d]? = some (.k (.bool b))) (h : ∀ b', b' = b → AOps P ops l Q ⟨S.tmps.set d (.k (.bool b')), S.H, S.m⟩) : AOps P ops l Q S := by
  have := h b rfl
  rwa [tU hd] at this
theorem zA {id : Nat} {l : List Oper} (h : AOps P l.toArray l Q S) : AW P (.region id l.toArray false) Q S := ⟨fun C φ a w hI => wp_region_lit (h.out C φ a w hI)⟩
end
section
variable {P : Program} {ops : Array Oper} {md : Region.Mode} {ds : List Nat} {Q : Exit → St → Prop}
def AOp (P : Program) (ops : Array Oper) (ds : List Nat) (i : Nat) (K : St → Prop) (S : St) : Prop :=
  match ops[i]? with
  | none => K S
  | some o => (zw ops S o = some true ∧ ∃ v H', zh P o S.ev S.H v H' ∧ (i ∉ ds → H' = S.H) ∧ K (S.put o.dst v H')) ∨ (zw ops S o = some false ∧ K (S.put o.dst (.k undef) S.H))
def wR (P : Program) (md : Region.Mode) (ops : Array Oper) (ds : List Nat) (Q : Exit → St → Prop) : Nat → Array Bool → St → Prop
  | 0, listed, S => Region.ready md ops listed = [] ∧ Q .normal S
  | n + 1, listed, S => (Region.ready md ops listed = [] → Q .normal S) ∧ ∀ i ∈ Region.ready md ops listed, AOp P ops ds i (wR P md ops ds Q n (listed.setIfInBounds i true)) S
theorem AOp.mono {i : Nat} {K K' : St → Prop} {S : St} (hk : ∀ S, K S → K' S) (h : AOp P ops ds i K S) : AOp P ops ds i K' S := by
  unfold AOp at *
  split at h
  · exact hk _ h
  · rcases h with ⟨h1, v, H', h2, h3, h4⟩ | ⟨h1, h2⟩
    · exact Or.inl ⟨h1, v, H', h2, h3, hk _ h4⟩
    · exact Or.inr ⟨h1, hk _ h2⟩
theorem xA : ∀ (n : Nat) (listed : Array Bool) (S : St), wR P md ops ds Q n listed S → ∀ (C : Cx) (φ : List Hd) (a : Act) (w : World), Inv C φ S a w → wpAny P md ops (me C Q) n listed a w
  | 0, listed, S, h, C, φ, a, w, hI => ⟨h.1, S, φ, hI, h.2⟩
  | n + 1, listed, S, h, C, φ, a, w, hI => by
    refine ⟨fun h0 => ⟨S, φ, hI, h.1 h0⟩, fun i hi => ?_⟩
    have h1 := h.2 i hi
    unfold AOp at h1
    unfold wpOp
    cases ho : ops[i]? with
    | none => rw [ho] at h1; exact xA n _ S h1 C φ a w hI
    | some o =>
      rw [ho] at h1
      simp only at h1 ⊢
      rcases h1 with ⟨hw, v, H', hs, _, hk⟩ | ⟨hw, hk⟩
      · rw [if_pos (yL hI hw)]
        exact Or.inl (hs S rfl (fun _ _ => rfl) C φ a w hI _ _ fun x w' φ' hI' => xA n _ _ hk C φ' _ _ hI')
      · rw [if_neg (by rw [yL hI hw]; simp)]
        exact xA n _ _ hk C φ _ _ (w7 C φ a w hI o.dst)
theorem tv {C : Cx} {φ : List Hd} {S : St} {a : Act} {w : World} (hI : Inv C φ S a w) : Inv C φ S a { w with drawn := w.drawn + 1 } := by
  obtain ⟨hm, ⟨A, hA, hr⟩, hs, hd⟩ := hI
  refine ⟨hm, ⟨A, ⟨⟨hA.ok.len, fun h hd r h1 h2 h3 => ?_, hA.ok.inj, hA.ok.apart, hA.ok.frz, hA.ok.low⟩, hA.old, hA.own, ⟨hA.frame.os, hA.frame.tape, hA.frame.output, hA.frame.size, hA.frame.block⟩, hA.pre⟩, zZ.mono (w := w) (w' := { w with drawn := w.drawn + 1 }) (fun b hb => ⟨hb, rfl⟩) (fun _ _ h => h) hr⟩, hs, hd⟩
  obtain ⟨e1, e2⟩ := hA.ok.regs h hd r h1 h2 h3
  refine ⟨e1, ?_⟩
  cases hb : hd.blk with
  | none => rw [hb] at e2; exact e2
  | some b =>
    rw [hb] at e2
    obtain ⟨c, k1, k2, k3, k4⟩ := e2
    exact ⟨c, k1, k2, k3, zZ.mono (w := w) (w' := { w with drawn := w.drawn + 1 }) (fun b hb => ⟨hb, rfl⟩) (fun _ _ h => h) k4⟩
theorem wi {id : Nat} {S : St} (ds : List Nat) (hm : P.follows .mixedOrders = true) (h : wR P .any ops ds Q ops.size (Array.replicate ops.size false) S) : AW P (.region id ops true) Q S :=
  ⟨fun C φ a w hI => wp_region_any hm (xA _ _ _ h C φ a _ (tv hI))⟩
theorem km {S : St} {dst : Option Tmp} {v : V} {H : List Reg} {x : Operand} (h : ∀ d, dst = some d → x ≠ .tmp d) : (S.put dst v H).ev x = S.ev x := by
  cases dst with
  | none => cases x <;> rfl
  | some d =>
    cases x with
    | tmp t =>
      have hne : d ≠ t := fun e => h d rfl (e ▸ rfl)
      simp [St.ev, St.put, List.getElem?_set, hne]
    | _ => rfl
theorem xE {S : St} {x y : Option Tmp} (v u : V) (H H' : List Reg) (h : ∀ d, x = some d → y ≠ some d) : (S.put x v H).put y u H' = (S.put y u H').put x v H' := by
  cases x with
  | none => cases y <;> rfl
  | some d =>
    cases y with
    | none => rfl
    | some e =>
      have hne : d ≠ e := fun he => h d rfl (he ▸ rfl)
      simp [St.put, List.set_comm _ _ hne]
theorem y4 {S : St} {x : Option Tmp} {v : V} {H : List Reg} : (S.put x v H).H = H := by cases x <;> rfl
theorem xT {S : St} {o : Oper} {dst : Option Tmp} {v : V} {H : List Reg} (h : ∀ d, dst = some d → d ∉ o.looksAt ops) : zw ops (S.put dst v H) o = zw ops S o := by
  cases dst with
  | none => rfl
  | some d =>
    unfold zw
    cases hg : o.guard with
    | none => rfl
    | some gw =>
      obtain ⟨j, want⟩ := gw
      simp only
      cases ht : (ops[j]?).bind (·.dst) with
      | none => rfl
      | some t =>
        have hne : d ≠ t := fun e => h d rfl (by subst e; simp [Oper.looksAt, hg, ht])
        simp [St.put, List.getElem?_set, hne]
theorem yk {S : St} {o : Oper} {dst : Option Tmp} {v : V} {H : List Reg} (h : ∀ d, dst = some d → d ∉ o.looksAt ops) : ∀ x ∈ o.op.operands, (S.put dst v H).ev x = S.ev x :=
  fun x hx => km fun d hd hxd => h d hd (by
    subst hxd
    exact List.mem_append_left _ (List.mem_filterMap.2 ⟨.tmp d, by simpa using hx, rfl⟩))
theorem zh.congr {o : Oper} {ρ ρ' : Operand → V} {H H' : List Reg} {v : V} (h : zh P o ρ H v H') (hρ : ∀ x ∈ o.op.operands, ρ' x = ρ x) : zh P o ρ' H v H' :=
  fun S hS hx => h S hS fun x hm => (hx x hm).trans (hρ x hm)
def w6 (P : Program) (ops : Array Oper) (all : Bool) (o : Oper) (v : V) (S : St) : Prop :=
  (zw ops S o = some true ∧ ((all = true ∧ ∀ H, zh P o S.ev H v H) ∨ (all = false ∧ zh P o S.ev S.H v S.H))) ∨ (zw ops S o = some false ∧ v = .k undef)
theorem w6.aop {all : Bool} {i : Nat} {o : Oper} {v : V} {S : St} {K : St → Prop} (hi : ops[i]? = some o) (h : w6 P ops all o v S) (hk : K (S.put o.dst v S.H)) : AOp P ops ds i K S := by
  unfold AOp
  rw [hi]
  rcases h with ⟨h1, h2 | h2⟩ | ⟨h1, rfl⟩
  · exact Or.inl ⟨h1, v, S.H, h2.2 _, fun _ => rfl, hk⟩
  · exact Or.inl ⟨h1, v, S.H, h2.2, fun _ => rfl, hk⟩
  · exact Or.inr ⟨h1, hk⟩
theorem w6.keep {all : Bool} {oi oj : Oper} {v u : V} {S : St} {H' : List Reg} (hap : ∀ d, oj.dst = some d → d ∉ oi.looksAt ops) (hH : all = false → H' = S.H) (h : w6 P ops all oi v S) : w6 P ops all oi v (S.put oj.dst u H') := by
  unfold w6 at *
  rw [xT hap, y4]
  rcases h with ⟨h1, h2 | h2⟩ | h1
  · exact Or.inl ⟨h1, Or.inl ⟨h2.1, fun H => (h2.2 H).congr (yk hap)⟩⟩
  · refine Or.inl ⟨h1, Or.inr ⟨h2.1, ?_⟩⟩
    rw [hH h2.1]
    exact h2.2.congr (yk hap)
  · exact Or.inr h1
theorem AOp.put {all : Bool} {j : Nat} {oi oj : Oper} {v : V} {S : St} {K : St → Prop} (hj : ops[j]? = some oj) (hap : oi.apart ops oj = true) (hd : all = false → j ∉ ds)
    (hy : w6 P ops all oi v S) (h : AOp P ops ds j K (S.put oi.dst v S.H)) : AOp P ops ds j (fun S' => w6 P ops all oi v S' ∧ K (S'.put oi.dst v S'.H)) S := by
  obtain ⟨h1, h2, h3⟩ := Oper.apart_spec hap
  unfold AOp at *
  rw [hj] at *
  simp only at h ⊢
  rw [xT h1, y4] at h
  rcases h with ⟨hw, u, H', hs, hH, hk⟩ | ⟨hw, hk⟩
  · refine Or.inl ⟨hw, u, H', hs.congr (fun x hx => (yk h1 x hx).symm), hH, hy.keep h3 (fun ha => hH (hd ha)), ?_⟩
    rw [y4, ← xE v u S.H H' h2]
    exact hk
  · refine Or.inr ⟨hw, hy.keep h3 (fun _ => rfl), ?_⟩
    rw [y4, ← xE v (.k undef) S.H S.H h2]
    exact hk
theorem uR {all : Bool} {i : Nat} {oi : Oper} {v : V} (hi : ops[i]? = some oi) (m : Nat) :
    ∀ (n : Nat) (listed : Array Bool) (S : St),
      (∀ j oj, ops[j]? = some oj → j ≠ i → listed.getD j true = false → (∀ e ∈ oj.after, Region.binds md e = true → e.on ≠ i) → oi.apart ops oj = true) →
      (all = false → yK md ops listed ∧ ∀ d ∈ ds, listed.getD d true = false → Region.reachB md ops i m d = true) →
      i ∈ Region.ready md ops listed → w6 P ops all oi v S →
      wR P md ops ds Q n (listed.setIfInBounds i true) (S.put oi.dst v S.H) → wR P md ops ds Q (n + 1) listed S := by
  intro n
  induction n with
  | zero =>
    intro listed S _ _ hr hy H
    refine ⟨fun h => (by rw [h] at hr; cases hr), fun j hj => ?_⟩
    by_cases hji : j = i
    · subst hji; exact hy.aop hi H
    · have := ready_mono hj hji
      rw [H.1] at this
      cases this
  | succ n ih =>
    intro listed S hfree hc hr hy H
    refine ⟨fun h => (by rw [h] at hr; cases hr), fun j hj => ?_⟩
    by_cases hji : j = i
    · subst hji; exact hy.aop hi H
    · have h1 := H.2 j (ready_mono hj hji)
      obtain ⟨hjun, oj, hoj, hall⟩ := mem_ready.1 hj
      have hiun := (mem_ready.1 hr).1
      have hnot : ∀ e ∈ oj.after, Region.binds md e = true → e.on ≠ i := fun e he hb heq => by
        have h1 := hall e he hb
        rw [heq] at h1
        rcases Nat.lt_or_ge i listed.size with h' | h'
        · simp [h'] at hiun h1; rw [hiun] at h1; cases h1
        · simp [Array.getElem?_eq_none h'] at h1
      have hjd : all = false → j ∉ ds := fun ha hm => Region.reach_not_ready (hc ha).1 ((hc ha).2 j hm hjun) hiun hj
      have h2 := AOp.put hoj (hfree j oj hoj hji hjun hnot) hjd hy h1
      have hfree' : ∀ k ok, ops[k]? = some ok → k ≠ i → (listed.setIfInBounds j true).getD k true = false →
          (∀ e ∈ ok.after, Region.binds md e = true → e.on ≠ i) → oi.apart ops ok = true := fun k ok hk hki hun hno => by
        refine hfree k ok hk hki ?_ hno
        by_cases hjk : j = k
        · subst hjk; exact hjun
        · rw [getD_set_ne true hjk] at hun; exact hun
      have hc' : all = false → yK md ops (listed.setIfInBounds j true) ∧ ∀ d ∈ ds, (listed.setIfInBounds j true).getD d true = false → Region.reachB md ops i m d = true := fun ha => by
        refine ⟨(hc ha).1.set hj, fun d hm hun => (hc ha).2 d hm ?_⟩
        by_cases hjk : j = d
        · subst hjk; exact hjun
        · rw [getD_set_ne true hjk] at hun; exact hun
      refine AOp.mono (fun S' h3 => ih (listed.setIfInBounds j true) S' hfree' hc' (ready_mono hr (Ne.symm hji)) h3.1 ?_) h2
      rw [Array.setIfInBounds_comm _ _ hji]
      exact h3.2
def uX (ops : Array Oper) (l l' : Array Bool) (i : Nat) : Bool :=
  Region.free .any ops l i && (Region.ready .any ops l).contains i && (l.setIfInBounds i true == l')
def pP (ops : Array Oper) (ds : List Nat) (l l' : Array Bool) (i : Nat) : Bool :=
  uX ops l l' i && Region.closedB .any ops l && Region.lastB .any ops l ds i
def ke (ops : Array Oper) (l l' : Array Bool) (i : Nat) : Bool := (Region.ready .any ops l == [i]) && (l.setIfInBounds i true == l')
theorem mY {i n : Nat} {o : Oper} {S : St} {l : Array Bool} (l' : Array Bool) (hi : ops[i]? = some o) (hc : uX ops l l' i = true) (hw : zw ops S o = some false)
    (h : wR P .any ops ds Q n l' (S.put o.dst (.k undef) S.H)) : wR P .any ops ds Q (n + 1) l S := by
  simp only [uX, Bool.and_eq_true, beq_iff_eq] at hc
  obtain ⟨⟨h1, h2⟩, h3⟩ := hc
  subst h3
  exact uR (all := true) hi 0 n l S (Region.free_spec hi h1) (fun ha => by cases ha) (by simpa using h2) (Or.inr ⟨hw, rfl⟩) h
theorem mZ {i n : Nat} {o : Oper} {v : V} {S : St} {l : Array Bool} (l' : Array Bool) (hi : ops[i]? = some o) (hc : pP ops ds l l' i = true) (hw : zw ops S o = some true)
    (hs : zh P o S.ev S.H v S.H) (h : wR P .any ops ds Q n l' (S.put o.dst v S.H)) : wR P .any ops ds Q (n + 1) l S := by
  simp only [pP, uX, Bool.and_eq_true, beq_iff_eq] at hc
  obtain ⟨⟨⟨⟨h1, h2⟩, h3⟩, h4⟩, h5⟩ := hc
  subst h3
  exact uR (all := false) hi ops.size n l S (Region.free_spec hi h1)
    (fun _ => ⟨Region.closedB_spec h4, fun d hm hun => by have := List.all_eq_true.1 h5 d hm; rw [hun] at this; simpa using this⟩) (by simpa using h2) (Or.inl ⟨hw, Or.inr ⟨rfl, hs⟩⟩) h
theorem lK {i n : Nat} {o : Oper} {v : V} {S : St} {H' : List Reg} {l : Array Bool} (l' : Array Bool) (hi : ops[i]? = some o) (hc : ke ops l l' i = true) (hw : zw ops S o = some true) (hd : i ∈ ds)
    (hs : zh P o S.ev S.H v H') (h : wR P .any ops ds Q n l' (S.put o.dst v H')) : wR P .any ops ds Q (n + 1) l S := by
  simp only [ke, Bool.and_eq_true, beq_iff_eq] at hc
  obtain ⟨h1, h3⟩ := hc
  subst h3
  refine ⟨fun h0 => by (rw [h1] at h0; cases h0), fun j hj => ?_⟩
  rw [h1] at hj
  simp only [List.mem_singleton] at hj
  subst hj
  unfold AOp
  rw [hi]
  exact Or.inl ⟨hw, v, H', hs, fun hn => absurd hd hn, h⟩
theorem ma {n : Nat} {S : St} {l : Array Bool} (hr : (Region.ready .any ops l == []) = true) (h : Q .normal S) : wR P .any ops ds Q n l S := by
  have hr' : Region.ready .any ops l = [] := by simpa using hr
  cases n with
  | zero => exact ⟨hr', h⟩
  | succ n => exact ⟨fun _ => h, fun i hi => by rw [hr'] at hi; cases hi⟩
theorem pL {n : Nat} {S : St} {l : Array Bool} (d : Nat) {b : Bool} (hd : S.tmps[d]? = some (.k (.bool b))) (h : ∀ b', b' = b → wR P md ops ds Q n l ⟨S.tmps.set d (.k (.bool b')), S.H, S.m⟩) : wR P md ops ds Q n l S := by
  have := h b rfl
  rwa [tU hd] at this
end
end Go.Proofs.Ytkcicbigpbdjpaa.Ab
namespace Go.Proofs.Ytkcicbigpbdjpaa.Ab
open Go.RowKit
mutual
def Le (ψ : List Nat) : V → V → Prop
  | .any, _ => True
  | .sl h off len, v => ∃ h', ψ[h]? = some h' ∧ v = .sl h' off len
  | .ptr h off, v => ∃ h', ψ[h]? = some h' ∧ v = .ptr h' off
  | .agg cs, v => ∃ ds, v = .agg ds ∧ Les ψ cs ds
  | .tup cs, v => ∃ ds, v = .tup ds ∧ Les ψ cs ds
  | .fn f cs, v => ∃ ds, v = .fn f ds ∧ Les ψ cs ds
  | .k x, v => v = .k x
  | .lst n cs, v => v = .lst n cs ∨ (n = 0 ∧ cs = [] ∧ v = .k (.slice none 0 0))
  | .pref cs, v => v = .pref cs
def Les (ψ : List Nat) : List V → List V → Prop
  | [], ds => ds = []
  | c :: cs, ds => ∃ d ds', ds = d :: ds' ∧ Le ψ c d ∧ Les ψ cs ds'
end
mutual
def noH : V → Bool
  | .k _ | .lst _ _ | .pref _ | .any => true
  | .agg cs => noHs cs
  | .tup cs => noHs cs
  | .fn _ cs => noHs cs
  | .sl _ _ _ | .ptr _ _ => false
def noHs : List V → Bool
  | [] => true
  | c :: cs => noH c && noHs cs
end
def NoH (cs : List V) : Prop := ∀ c ∈ cs, noH c = true
theorem wx : ∀ {cs : List V}, noHs cs = true → NoH cs
  | [], _ => fun c hc => by cases hc
  | d :: cs, h => fun c hc => by
    simp only [noHs, Bool.and_eq_true] at h
    rcases List.mem_cons.1 hc with rfl | hc
    · exact h.1
    · exact wx h.2 c hc
mutual
theorem le_refl {ψ : List Nat} : ∀ {c : V}, noH c = true → Le ψ c c
  | .k _, _ => by simp [Le]
  | .lst _ _, _ => by simp [Le]
  | .pref _, _ => by simp [Le]
  | .any, _ => by simp [Le]
  | .agg cs, h => by rw [Le]; exact ⟨cs, rfl, yC (by simpa only [noH] using h)⟩
  | .tup cs, h => by rw [Le]; exact ⟨cs, rfl, yC (by simpa only [noH] using h)⟩
  | .fn f cs, h => by rw [Le]; exact ⟨cs, rfl, yC (by simpa only [noH] using h)⟩
  | .sl _ _ _, h => by simp [noH] at h
  | .ptr _ _, h => by simp [noH] at h
theorem yC {ψ : List Nat} : ∀ {cs : List V}, noHs cs = true → Les ψ cs cs
  | [], _ => by simp [Les]
  | c :: cs, h => by
    simp only [noHs, Bool.and_eq_true] at h
    rw [Les]
    exact ⟨c, cs, rfl, le_refl h.1, yC h.2⟩
end
theorem zf {ψ : List Nat} : ∀ {cs : List V}, NoH cs → Les ψ cs cs
  | [], _ => by simp [Les]
  | c :: cs, h => by
    rw [Les]
    exact ⟨c, cs, rfl, le_refl (h c (List.mem_cons_self ..)), zf fun d hd => h d (List.mem_cons_of_mem _ hd)⟩
theorem zn {ψ : List Nat} : Les ψ [] [] := by simp [Les]
theorem zk {ψ : List Nat} {c d : V} {cs ds : List V} (h : Le ψ c d) (t : Les ψ cs ds) : Les ψ (c :: cs) (d :: ds) := by rw [Les]; exact ⟨d, ds, rfl, h, t⟩
theorem zy {ψ : List Nat} {d : V} : Le ψ .any d := by simp [Le]
theorem z8 {ψ : List Nat} {h h' off len len' : Nat} (hp : ψ[h]? = some h') (hl : len' = len) : Le ψ (.sl h off len) (.sl h' off len') := by rw [Le]; exact ⟨h', hp, by rw [hl]⟩
theorem yB {ψ : List Nat} {h h' off : Nat} (hp : ψ[h]? = some h') : Le ψ (.ptr h off) (.ptr h' off) := by rw [Le]; exact ⟨h', hp, rfl⟩
theorem vc {ψ : List Nat} {u v : Value} (h : u = v) : Le ψ (.k u) (.k v) := by subst h; exact le_refl rfl
theorem nL {ψ : List Nat} {cs ds : List V} (h : Les ψ cs ds) : Le ψ (.tup cs) (.tup ds) := by rw [Le]; exact ⟨ds, rfl, h⟩
theorem yl {ψ : List Nat} : ∀ {cs ds : List V}, Les ψ cs ds → ds.length = cs.length
  | [], ds, h => by rw [Les] at h; subst h; rfl
  | c :: cs, ds, h => by
    rw [Les] at h
    obtain ⟨d, ds', rfl, _, h2⟩ := h
    simp [yl h2]
section
variable {A : Nat → Prop} {w : World} {φ φ' : List Hd} {ψ : List Nat}
mutual
theorem Le.rel (hp : ∀ (i h : Nat), ψ[i]? = some h → ∀ hd, φ[h]? = some hd → φ'[i]? = some hd) : ∀ {c d : V} {x : Value}, Le ψ c d → Rel A w φ d x → Rel A w φ' c x
  | .any, d, x, h, hr => by rw [Rel]; trivial
  | .sl h off len, d, x, hl, hr => by
    rw [Le] at hl
    obtain ⟨h', h1, rfl⟩ := hl
    rw [Rel] at hr ⊢
    obtain ⟨hd, h2, h3⟩ := hr
    exact ⟨hd, hp _ _ h1 _ h2, h3⟩
  | .ptr h off, d, x, hl, hr => by
    rw [Le] at hl
    obtain ⟨h', h1, rfl⟩ := hl
    rw [Rel] at hr ⊢
    obtain ⟨hd, b, h2, h3⟩ := hr
    exact ⟨hd, b, hp _ _ h1 _ h2, h3⟩
  | .agg cs, d, x, hl, hr => by
    rw [Le] at hl
    obtain ⟨ds, rfl, h1⟩ := hl
    rw [Rel] at hr ⊢
    obtain ⟨xs, e1, e2, h2⟩ := hr
    exact ⟨xs, e1, e2.trans (yl h1), Les.rels hp h1 h2⟩
  | .tup cs, d, x, hl, hr => by
    rw [Le] at hl
    obtain ⟨ds, rfl, h1⟩ := hl
    rw [Rel] at hr ⊢
    obtain ⟨xs, e1, e2, h2⟩ := hr
    exact ⟨xs, e1, e2.trans (yl h1), Les.rels hp h1 h2⟩
  | .fn f cs, d, x, hl, hr => by
    rw [Le] at hl
    obtain ⟨ds, rfl, h1⟩ := hl
    rw [Rel] at hr ⊢
    obtain ⟨xs, e1, e2, h2⟩ := hr
    exact ⟨xs, e1, e2.trans (yl h1), Les.rels hp h1 h2⟩
  | .k y, d, x, hl, hr => by
    rw [Le] at hl
    subst hl
    simp only [Rel] at hr ⊢
    exact hr
  | .lst n cs, d, x, hl, hr => by
    rw [Le] at hl
    rcases hl with rfl | ⟨rfl, rfl, rfl⟩
    · simp only [Rel] at hr ⊢
      exact hr
    · simp only [Rel] at hr ⊢
      exact ⟨none, 0, hr, Nat.le_refl _, Nat.le_refl _, Or.inl trivial⟩
  | .pref cs, d, x, hl, hr => by
    rw [Le] at hl
    subst hl
    simp only [Rel] at hr ⊢
    exact hr
theorem Les.rels (hp : ∀ (i h : Nat), ψ[i]? = some h → ∀ hd, φ[h]? = some hd → φ'[i]? = some hd) : ∀ {cs ds : List V} {g : Nat → Option Value}, Les ψ cs ds → zZ A w φ ds g → zZ A w φ' cs g
  | [], ds, g, hl, hr => by rw [zZ]; trivial
  | c :: cs, ds, g, hl, hr => by
    rw [Les] at hl
    obtain ⟨d, ds', rfl, h1, h2⟩ := hl
    rw [zZ] at hr ⊢
    obtain ⟨⟨y, h3, h4⟩, h5⟩ := hr
    exact ⟨⟨y, h3, Le.rel hp h1 h4⟩, Les.rels hp h2 h5⟩
end
end
def HLe (ψ : List Nat) (K H : List Reg) : Prop :=
  ψ.length = K.length ∧ ψ.Nodup ∧ ∀ (i : Nat) (h : Nat), ψ[i]? = some h → ∃ r r', K[i]? = some r ∧ H[h]? = some r' ∧ (r.mode ≤ 1 → r'.mode = r.mode ∧ r'.esz = r.esz ∧ r'.e = r.e ∧ Les ψ r.cells r'.cells)
theorem HLe.ok {A : Nat → Prop} {w : World} {φ : List Hd} {ψ : List Nat} {K H : List Reg} (hl : HLe ψ K H) (hok : HeapOk A w φ H) :
    ∃ φ', φ'.length = K.length ∧ (∀ (i h : Nat), ψ[i]? = some h → ∀ hd, φ[h]? = some hd → φ'[i]? = some hd) ∧ HeapOk A w φ' K ∧ (∀ i b, za φ' K i b → ∃ h, za φ H h b) := by
  obtain ⟨hlen, hnd, hreg⟩ := hl
  let φ' : List Hd := ψ.map fun h => φ.getD h ⟨none, 0, 0, 0⟩
  have hget : ∀ (i h : Nat), ψ[i]? = some h → ∀ hd, φ[h]? = some hd → φ'[i]? = some hd := fun i h h1 hd h2 => by
    simp only [φ', List.getElem?_map, h1, Option.map_some, List.getD, h2, Option.getD_some]
  have hback : ∀ (i : Nat) (hd : Hd), φ'[i]? = some hd → ∃ h, ψ[i]? = some h ∧ φ[h]? = some hd := fun i hd h1 => by
    simp only [φ', List.getElem?_map] at h1
    cases hi : ψ[i]? with
    | none => rw [hi] at h1; simp at h1
    | some h =>
      rw [hi] at h1
      obtain ⟨r, r', _, k2, _⟩ := hreg i h hi
      have hlt : h < φ.length := by rw [hok.len]; exact (List.getElem?_eq_some_iff.1 k2).1
      refine ⟨h, rfl, ?_⟩
      simp only [Option.map_some, List.getD, List.getElem?_eq_getElem hlt, Option.getD_some, Option.some.injEq] at h1
      rw [List.getElem?_eq_getElem hlt, h1]
  have hlive : ∀ i b, za φ' K i b → ∃ h', ψ[i]? = some h' ∧ za φ H h' b := fun i b ⟨hd, r, h1, h2, h3, h4⟩ => by
    obtain ⟨h', k1, k2⟩ := hback i hd h1
    obtain ⟨r1, r', m1, m2, m3⟩ := hreg i h' k1
    rw [h2] at m1
    cases m1
    exact ⟨h', k1, hd, r', k2, m2, (m3 (by omega)).1.trans h3, h4⟩
  refine ⟨φ', by simp [φ', hlen], hget, ⟨by simp [φ', hlen], fun i hd r h1 h2 h3 => ?_, fun i j b h1 h2 => ?_, fun i b h1 => ?_, fun i hd r b h1 h2 h3 h4 => ?_, hok.low⟩, fun i b h1 => ?_⟩
  · obtain ⟨h', k1, k2⟩ := hback i hd h1
    obtain ⟨r1, r', m1, m2, m3⟩ := hreg i h' k1
    rw [h2] at m1
    cases m1
    obtain ⟨m4, m5, m5', m6⟩ := m3 h3
    obtain ⟨e1, e2⟩ := hok.regs h' hd r' k2 m2 (by omega)
    refine ⟨⟨e1.1.trans m5, e1.2.1.trans m5', e1.2.2⟩, ?_⟩
    cases hb : hd.blk with
    | none =>
      rw [hb] at e2
      have := yl m6
      rw [e2.1] at this
      exact ⟨List.length_eq_zero_iff.1 this.symm, e2.2⟩
    | some b =>
      rw [hb] at e2
      obtain ⟨c, k3, k4, k5, k6⟩ := e2
      exact ⟨c, k3, k4, by rw [← yl m6]; exact k5, Les.rels hget m6 k6⟩
  · obtain ⟨a1, a2, a3⟩ := hlive i b h1
    obtain ⟨b1, b2, b3⟩ := hlive j b h2
    have := hok.inj _ _ _ a3 b3
    subst this
    exact (List.getElem?_inj (by rw [hlen]; exact (by obtain ⟨hd, r, q1, q2, _⟩ := h1; exact (List.getElem?_eq_some_iff.1 q2).1)) hnd).1 (a2.trans b2.symm)
  · obtain ⟨a1, a2, a3⟩ := hlive i b h1
    exact hok.apart _ _ a3
  · obtain ⟨h', k1, k2⟩ := hback i hd h1
    obtain ⟨r1, r', m1, m2, m3⟩ := hreg i h' k1
    rw [h2] at m1
    cases m1
    exact hok.frz h' hd r' b k2 m2 ((m3 (by omega)).1.trans h3) h4
  · obtain ⟨a1, a2, a3⟩ := hlive i b h1
    exact ⟨a1, a3⟩
theorem pT {T S : St} (ψ : List Nat) (hm : T.m = S.m) (hfix : ∀ i, i < S.m → ψ[i]? = some i) (hH : HLe ψ T.H S.H) (ht : Les ψ T.tmps S.tmps) : Sub T S := fun C φ a w hI => by
  obtain ⟨hm0, ⟨A, hA, hr⟩, hs, hd⟩ := hI
  obtain ⟨φ', h1, h2, h3, h4⟩ := hH.ok hA.ok
  refine ⟨φ', hm0.trans hm.symm, ⟨A, ⟨h3, hA.old, fun i b hb => ?_, hA.frame, fun i hd' hi => ?_⟩, Les.rels h2 ht hr⟩, hs.trans (yl ht), hd⟩
  · obtain ⟨h, hb'⟩ := h4 i b hb
    exact hA.own h b hb'
  · exact h2 i i (hfix i (by rw [← hm0]; exact (List.getElem?_eq_some_iff.1 hi).1)) hd' (hA.pre i hd' hi)
def zi (P : Program) (f : FuncId) (cargs : List V) (hs : List Reg) (r : V) (hs' : List Reg) (al : Bool) : Prop :=
  ∀ (A : Nat → Prop) (φ : List Hd) (w : World) (xs : Array Value), HeapOk A w φ hs → zZ A w φ cargs (fun i => xs[i]?) → xs.size = cargs.length →
    Calls P f xs w fun e w' => ∃ x φ' A', e = .returned x ∧ HeapOk A' w' φ' hs' ∧ Rel A' w' φ' r x ∧ (∀ b, A' b → (al = true ∧ A b) ∨ w.heap.size ≤ b) ∧
      (∀ h b, za φ' hs' h b → w.heap.size ≤ b ∨ ∃ h0, za φ hs h0 b) ∧ Framed ⟨A, w, φ, hs⟩ w' ∧ (∀ (h : Nat) (hd : Hd), φ[h]? = some hd → φ'[h]? = some hd)
def Out (al : Bool) (r : V) (hs' : List Reg) (v : V) (S : St) : Prop :=
  ∀ C A φ w x, C.φ0.length = S.m → InvA C A φ S.H w → Rel A w φ v x → ∃ φ' A', HeapOk A' w φ' hs' ∧ Rel A' w φ' r x ∧ (∀ b, A' b → (al = true ∧ C.A0 b) ∨ C.w0.heap.size ≤ b) ∧
    (∀ h b, za φ' hs' h b → C.w0.heap.size ≤ b ∨ ∃ h0, za C.φ0 C.H0 h0 b) ∧ (∀ (h : Nat) (hd : Hd), C.φ0[h]? = some hd → φ'[h]? = some hd)
def vb (S : St) : List Tmp → V
  | [t] => (S.tmps[t]?).getD .any
  | ts => .tup (ts.map fun t => (S.tmps[t]?).getD .any)
def resTmps (fn : Func) : Option (List Tmp) := fn.results.toList.mapM fun | .tmp t => some t | _ => none
theorem tX {P : Program} (tmps : Array Value) (w : World) (g : ResultVar → Sem Value) (hg : ∀ t, g (.tmp t) = pure (tmps.getD t undef)) : ∀ l : List Tmp, (List.mapM g (l.map ResultVar.tmp)).run P w = .ok (l.map fun t => tmps.getD t undef) w
  | [] => by simp
  | t :: l => by
    rw [List.map_cons, List.mapM_cons, hg]
    simp only [Sem.run_bind, Sem.run_pure, Result.andThen_ok]
    rw [tX tmps w g hg l]
    rfl
def mj (tmps : Array Value) : List Tmp → Value
  | [t] => tmps.getD t undef
  | ts => .tuple (ts.map fun t => tmps.getD t undef).toArray
theorem tW {P : Program} {fn : Func} {ts : List Tmp} (h : fn.results = (ts.map ResultVar.tmp).toArray) (tmps : Array Value) (w : World) :
    (results fn tmps).run P w = .ok (mj tmps ts) w := by
  unfold results
  simp only [h, List.mapM_toArray, Sem.run_bind, Sem.run_map]
  rw [tX tmps w _ (fun t => rfl)]
  simp only [Result.andThen_ok, Sem.run_pure]
  match ts with
  | [] => rfl
  | [t] => rfl
  | t :: u :: l => simp [mj]
theorem px {A : Nat → Prop} {w : World} {φ : List Hd} {S : St} {a : Act} (h : zZ A w φ S.tmps (fun i => a.tmps[i]?)) (ts : List Tmp) : Rel A w φ (vb S ts) (mj a.tmps ts) := by
  have h1 : ∀ t, Rel A w φ ((S.tmps[t]?).getD .any) (a.tmps.getD t undef) := fun t => y9 h (.tmp t)
  have h2 : ∀ l : List Tmp, Rel A w φ (.tup (l.map fun t => (S.tmps[t]?).getD .any)) (.tuple (l.map fun t => a.tmps.getD t undef).toArray) := fun l => by
    rw [Rel]
    refine ⟨_, rfl, by simp, zv.2 fun i c hc => ?_⟩
    rw [List.getElem?_map] at hc
    cases hi : l[i]? with
    | none => rw [hi] at hc; simp at hc
    | some t =>
      rw [hi] at hc
      simp only [Option.map_some, Option.some.injEq] at hc
      subst hc
      exact ⟨a.tmps.getD t undef, by simp [hi], h1 t⟩
  match ts with
  | [] => exact h2 []
  | [t] => exact h1 t
  | t :: u :: l => exact h2 (t :: u :: l)
theorem zj {P : Program} {f : FuncId} {fn : Func} {c : Code} {cargs : List V} {hs : List Reg} {r : V} {hs' : List Reg} {al : Bool} (ts : List Tmp)
    (hf : P.funcs[f]? = some fn) (hb : fn.body = some c) (hr : fn.results = (ts.map ResultVar.tmp).toArray)
    (h : AW P c (fun e S => (e = .ret ∨ e = .normal) ∧ Out al r hs' (vb S ts) S) ⟨cargs ++ List.replicate (fn.ntmps - cargs.length) (.k undef), hs, hs.length⟩) : zi P f cargs hs r hs' al := by
  intro A φ w xs hok hrel hsz
  refine calls_of_wp hf hb ?_
  have hI : Inv ⟨A, w, φ, hs⟩ φ ⟨cargs ++ List.replicate (fn.ntmps - cargs.length) (.k undef), hs, hs.length⟩ { tmps := xs ++ Array.replicate (fn.ntmps - xs.size) undef, defers := [] } w := by
    refine ⟨hok.len, ⟨A, ⟨hok, fun b hb => Or.inl hb, fun h b hl => Or.inr ⟨h, hl⟩, ⟨rfl, rfl, rfl, Nat.le_refl _, fun _ _ _ => rfl⟩, fun _ _ h => h⟩, ?_⟩, by simp [hsz], rfl⟩
    refine yd (z7 hrel fun i hi => ?_) (zv.2 fun i c hc => ⟨undef, ?_, ?_⟩)
    · simp [Array.getElem?_append, hsz, hi]
    · have hlt := (List.getElem?_eq_some_iff.1 hc).1
      simp only [List.length_replicate] at hlt
      simp only [Array.getElem?_append, hsz, Nat.not_lt.2 (Nat.le_add_right _ _), if_false, Nat.add_sub_cancel_left]
      simp [hlt]
    · have := List.mem_of_getElem? hc
      obtain rfl := List.eq_of_mem_replicate this
      simp [Rel]
  refine wp_mono (h.out ⟨A, w, φ, hs⟩ φ _ w hI) ?_
  rintro e a' w' ⟨S', φ1, hI', he, ho⟩
  obtain ⟨hm, ⟨A1, hA1, hr1⟩, hs1, hd1⟩ := hI'
  obtain ⟨φ', A', k1, k2, k3, k4, k5⟩ := ho ⟨A, w, φ, hs⟩ A1 φ1 w' (mj a'.tmps ts) hm hA1 (px hr1 ts)
  have key : a'.defers = [] ∧ ∃ v, (results fn a'.tmps).run P w' = .ok v w' ∧ ∃ x φ' A', (Ending.returned v) = .returned x ∧ HeapOk A' w' φ' hs' ∧ Rel A' w' φ' r x ∧ (∀ b, A' b → (al = true ∧ A b) ∨ w.heap.size ≤ b) ∧
      (∀ h b, za φ' hs' h b → w.heap.size ≤ b ∨ ∃ h0, za φ hs h0 b) ∧ Framed ⟨A, w, φ, hs⟩ w' ∧ (∀ (h : Nat) (hd : Hd), φ[h]? = some hd → φ'[h]? = some hd) :=
    ⟨hd1, _, tW hr _ _, _, φ', A', rfl, k1, k2, k3, k4, hA1.frame, k5⟩
  rcases he with rfl | rfl
  · exact key
  · exact key
end Go.Proofs.Ytkcicbigpbdjpaa.Ab
namespace Go.Proofs.Ytkcicbigpbdjpaa.Ab
open Go.RowKit
section
variable {C : Cx} {A : Nat → Prop} {φ : List Hd} {H : List Reg} {w w' : World}
theorem getElem?_app {α : Type} {l : List α} {x y : α} {i : Nat} (h : (l ++ [x])[i]? = some y) : l[i]? = some y ∨ (i = l.length ∧ y = x) := by
  rcases Nat.lt_or_ge i l.length with hi | hi
  · rw [List.getElem?_append_left hi] at h; exact Or.inl h
  · rw [List.getElem?_append_right hi] at h
    cases hk : i - l.length with
    | zero => rw [hk] at h; simp at h; exact Or.inr ⟨by omega, h.symm⟩
    | succ n => rw [hk] at h; simp at h
theorem z1 {α : Type} {l l' : List α} {i : Nat} {y : α} (h : l[i]? = some y) : (l ++ l')[i]? = some y := by
  rw [List.getElem?_append_left (List.getElem?_eq_some_iff.1 h).1]; exact h
theorem InvA.add (hA : InvA C A φ H w) {b cap esz : Nat} {e : TypeId} {c : Array Value} {cells : List V} (hfree : ∀ h, ¬ za φ H h b) (hb : ¬ A b)
    (hoth : ∀ i, i < w.heap.size → i ≠ b → w'.heap[i]? = w.heap[i]?) (hsz : w.heap.size ≤ w'.heap.size)
    (hown : C.w0.heap.size ≤ b ∨ ∃ h0, za C.φ0 C.H0 h0 b) (hos : w'.os = w.os) (htape : w'.tape = w.tape) (hout : w'.output = w.output)
    (hnew : w'.heap[b]? = some (.cells c e (0, 0))) (hc : c.size = cap * esz) (hcap : cap ≤ maxLen) (hl : cells.length ≤ c.size) (hr : zZ A w φ cells (fun i => c[i]?)) :
    InvA C A (φ ++ [⟨some b, cap, esz, e⟩]) (H ++ [⟨e, esz, cells, 0⟩]) w' := by
  have hlen := hA.ok.len
  have hAb : ∀ i, A i → A i ∧ w'.heap[i]? = w.heap[i]? := fun i hi => ⟨hi, hoth i (hA.ok.low i hi) (fun e => hb (e ▸ hi))⟩
  have hφ : ∀ (h : Nat) (hd : Hd), φ[h]? = some hd → (φ ++ [(⟨some b, cap, esz, e⟩ : Hd)])[h]? = some hd := fun h hd hh => z1 hh
  have hlive : ∀ h b', za (φ ++ [⟨some b, cap, esz, e⟩]) (H ++ [⟨e, esz, cells, 0⟩]) h b' → za φ H h b' ∨ (h = φ.length ∧ b' = b) := by
    rintro h b' ⟨hd, r, h1, h2, h3, h4⟩
    rcases getElem?_app h1 with p1 | ⟨p1, rfl⟩
    · rcases getElem?_app h2 with p2 | ⟨p2, rfl⟩
      · exact Or.inl ⟨hd, r, p1, p2, h3, h4⟩
      · have := (List.getElem?_eq_some_iff.1 p1).1
        omega
    · simp only [Option.some.injEq] at h4
      exact Or.inr ⟨p1, h4.symm⟩
  refine ⟨⟨by simp [hlen], fun h hd r h1 h2 h3 => ?_, fun h h' b' h1 h2 => ?_, fun h b' h1 => ?_, fun h hd r b' h1 h2 h3 h4 => ?_, fun b' hb' => Nat.lt_of_lt_of_le (hA.ok.low b' hb') hsz⟩, hA.old, fun h b' h1 => ?_, ?_, fun h hd hh => hφ h hd (hA.pre h hd hh)⟩
  · rcases getElem?_app h1 with p1 | ⟨p1, rfl⟩
    · rcases getElem?_app h2 with p2 | ⟨p2, rfl⟩
      · obtain ⟨e1, e2⟩ := hA.ok.regs h hd r p1 p2 h3
        refine ⟨e1, ?_⟩
        cases hk : hd.blk with
        | none => rw [hk] at e2; exact e2
        | some b' =>
          rw [hk] at e2
          obtain ⟨c', k1, k2, k3, k4⟩ := e2
          have hne : b' ≠ b := by
            rintro rfl
            rcases Nat.lt_or_ge r.mode 1 with hm | hm
            · exact hfree h ⟨hd, r, p1, p2, by omega, hk⟩
            · exact hb (hA.ok.frz h hd r b' p1 p2 (by omega) hk)
          have hlt : b' < w.heap.size := by
            rcases Nat.lt_or_ge b' w.heap.size with hh | hh
            · exact hh
            · rw [Array.getElem?_eq_none hh] at k1; cases k1
          exact ⟨c', (hoth b' hlt hne).trans k1, k2, k3, zZ.mono hAb hφ k4⟩
      · have := (List.getElem?_eq_some_iff.1 p1).1
        omega
    · rcases getElem?_app h2 with p2 | ⟨p2, rfl⟩
      · have := (List.getElem?_eq_some_iff.1 p2).1
        omega
      · exact ⟨⟨rfl, rfl, hcap⟩, c, hnew, hc, hl, zZ.mono hAb hφ hr⟩
  · rcases hlive h b' h1 with p1 | ⟨q1, q2⟩
    · rcases hlive h' b' h2 with p2 | ⟨q3, q4⟩
      · exact hA.ok.inj _ _ _ p1 p2
      · exact absurd (q4 ▸ p1) (hfree h)
    · rcases hlive h' b' h2 with p2 | ⟨q3, q4⟩
      · exact absurd (q2 ▸ p2) (hfree h')
      · exact q1.trans q3.symm
  · rcases hlive h b' h1 with p1 | ⟨q1, q2⟩
    · exact hA.ok.apart _ _ p1
    · exact q2 ▸ hb
  · rcases getElem?_app h1 with p1 | ⟨p1, rfl⟩
    · rcases getElem?_app h2 with p2 | ⟨p2, rfl⟩
      · exact hA.ok.frz h hd r b' p1 p2 h3 h4
      · cases h3
    · rcases getElem?_app h2 with p2 | ⟨p2, rfl⟩
      · have := (List.getElem?_eq_some_iff.1 p2).1
        omega
      · cases h3
  · rcases hlive h b' h1 with p1 | ⟨q1, q2⟩
    · exact hA.own _ _ p1
    · exact q2 ▸ hown
  · obtain ⟨f1, f2, f3, f4, f5⟩ := hA.frame
    refine ⟨hos.trans f1, htape.trans f2, hout.trans f3, Nat.le_trans f4 hsz, fun i hi hno => ?_⟩
    rw [← f5 i hi hno]
    refine hoth i (Nat.lt_of_lt_of_le hi f4) ?_
    rintro rfl
    rcases hown with hown | ⟨h0, hown⟩
    · omega
    · exact hno h0 hown
theorem getElem?_set' {α : Type} {l : List α} {h i : Nat} {x y : α} (hi : (l.set h x)[i]? = some y) : (i = h ∧ y = x) ∨ (i ≠ h ∧ l[i]? = some y) := by
  rw [List.getElem?_set] at hi
  by_cases e : h = i
  · subst e
    simp only [if_true] at hi
    split at hi
    · simp at hi; exact Or.inl ⟨rfl, hi.symm⟩
    · cases hi
  · rw [if_neg e] at hi
    exact Or.inr ⟨fun h => e h.symm, hi⟩
theorem InvA.kill (hA : InvA C A φ H w) {h : Nat} {r : Reg} (hH : H[h]? = some r) : InvA C A φ (H.set h { r with mode := 2 }) w := by
  have hlive : ∀ h' b, za φ (H.set h { r with mode := 2 }) h' b → za φ H h' b := by
    rintro h' b ⟨hd, r', h1, h2, h3, h4⟩
    rcases getElem?_set' h2 with ⟨_, rfl⟩ | ⟨_, h2⟩
    · cases h3
    · exact ⟨hd, r', h1, h2, h3, h4⟩
  refine ⟨⟨by simp [hA.ok.len], fun h' hd r' h1 h2 h3 => ?_, fun _ _ _ h1 h2 => hA.ok.inj _ _ _ (hlive _ _ h1) (hlive _ _ h2), fun _ _ h1 => hA.ok.apart _ _ (hlive _ _ h1), fun h' hd r' b h1 h2 h3 h4 => ?_, hA.ok.low⟩, hA.old, fun _ _ h1 => hA.own _ _ (hlive _ _ h1), hA.frame, hA.pre⟩
  · rcases getElem?_set' h2 with ⟨_, rfl⟩ | ⟨_, h2⟩
    · simp at h3
    · exact hA.ok.regs h' hd r' h1 h2 h3
  · rcases getElem?_set' h2 with ⟨_, rfl⟩ | ⟨_, h2⟩
    · cases h3
    · exact hA.ok.frz h' hd r' b h1 h2 h3 h4
theorem InvA.upd (hA : InvA C A φ H w) {h b : Nat} {hd : Hd} {r : Reg} {c : Array Value} {cells : List V} (hφ : φ[h]? = some hd) (hH : H[h]? = some r) (hm : r.mode = 0) (hb : hd.blk = some b)
    (hoth : ∀ i, i ≠ b → w'.heap[i]? = w.heap[i]?) (hsz : w'.heap.size = w.heap.size) (hos : w'.os = w.os) (htape : w'.tape = w.tape) (hout : w'.output = w.output)
    (hnew : w'.heap[b]? = some (.cells c hd.e (0, 0))) (hc : c.size = hd.cap * hd.esz) (hl : cells.length ≤ c.size) (hr : zZ A w φ cells (fun i => c[i]?)) :
    InvA C A φ (H.set h { r with cells := cells }) w' := by
  have hlb : za φ H h b := ⟨hd, r, hφ, hH, hm, hb⟩
  have hAb : ∀ i, A i → A i ∧ w'.heap[i]? = w.heap[i]? := fun i hi => ⟨hi, hoth i (fun e => hA.ok.apart h b hlb (e ▸ hi))⟩
  have hlive : ∀ h' b', za φ (H.set h { r with cells := cells }) h' b' → za φ H h' b' := by
    rintro h' b' ⟨hd', r', h1, h2, h3, h4⟩
    rcases getElem?_set' h2 with ⟨rfl, rfl⟩ | ⟨_, h2⟩
    · exact ⟨hd', r, h1, hH, hm, h4⟩
    · exact ⟨hd', r', h1, h2, h3, h4⟩
  refine ⟨⟨by simp [hA.ok.len], fun h' hd' r' h1 h2 h3 => ?_, fun _ _ _ h1 h2 => hA.ok.inj _ _ _ (hlive _ _ h1) (hlive _ _ h2), fun _ _ h1 => hA.ok.apart _ _ (hlive _ _ h1), fun h' hd' r' b' h1 h2 h3 h4 => ?_, fun b' hb' => by rw [hsz]; exact hA.ok.low b' hb'⟩, hA.old, fun _ _ h1 => hA.own _ _ (hlive _ _ h1), ?_, hA.pre⟩
  · rcases getElem?_set' h2 with ⟨rfl, rfl⟩ | ⟨hne, h2⟩
    · rw [hφ] at h1
      cases h1
      obtain ⟨e1, _⟩ := hA.ok.regs h' hd r hφ hH (by omega)
      refine ⟨e1, ?_⟩
      rw [hb]
      exact ⟨c, hnew, hc, hl, zZ.mono hAb (fun _ _ h => h) hr⟩
    · obtain ⟨e1, e2⟩ := hA.ok.regs h' hd' r' h1 h2 h3
      refine ⟨e1, ?_⟩
      cases hk : hd'.blk with
      | none => rw [hk] at e2; exact e2
      | some b' =>
        rw [hk] at e2
        obtain ⟨c', k1, k2, k3, k4⟩ := e2
        have hne' : b' ≠ b := by
          rintro rfl
          rcases Nat.lt_or_ge r'.mode 1 with hm' | hm'
          · exact hne (hA.ok.inj _ _ _ ⟨hd', r', h1, h2, by omega, hk⟩ hlb)
          · exact hA.ok.apart h b' hlb (hA.ok.frz h' hd' r' b' h1 h2 (by omega) hk)
        exact ⟨c', (hoth b' hne').trans k1, k2, k3, zZ.mono hAb (fun _ _ h => h) k4⟩
  · rcases getElem?_set' h2 with ⟨rfl, rfl⟩ | ⟨_, h2⟩
    · exact hA.ok.frz h' hd' r b' h1 hH h3 h4
    · exact hA.ok.frz h' hd' r' b' h1 h2 h3 h4
  · obtain ⟨f1, f2, f3, f4, f5⟩ := hA.frame
    refine ⟨hos.trans f1, htape.trans f2, hout.trans f3, by rw [hsz]; exact f4, fun i hi hno => ?_⟩
    rw [← f5 i hi hno]
    refine hoth i ?_
    rintro rfl
    rcases hA.own h i hlb with hown | ⟨h0, hown⟩
    · omega
    · exact hno h0 hown
theorem InvA.rels (hA : InvA C A φ H w) {φ' : List Hd} {cs : List V} {g : Nat → Option Value} (hoth : ∀ i, A i → w'.heap[i]? = w.heap[i]?) (hφ : ∀ (h : Nat) (hd : Hd), φ[h]? = some hd → φ'[h]? = some hd) (h : zZ A w φ cs g) : zZ A w' φ' cs g :=
  zZ.mono (fun b hb => ⟨hb, hoth b hb⟩) hφ h
theorem y7 {P : Program} {o : Oper} {ρ : Operand → V} {v : V} {H' : List Reg}
    (h : ∀ (C : Cx) (A : Nat → Prop) (φ : List Hd) (a : Act) (w : World), InvA C A φ H w → (∀ x ∈ o.op.operands, Rel A w φ (ρ x) (a.eval x)) →
      ∃ x w' A' φ', ((execOp a.eval o).run P w = .ok (.value x) w' ∨ ((execOp a.eval o).run P w = .ok .skip w' ∧ x = undef)) ∧ InvA C A' φ' H' w' ∧ (∀ b, A b → A' b ∧ w'.heap[b]? = w.heap[b]?) ∧ (∀ (h : Nat) (hd : Hd), φ[h]? = some hd → φ'[h]? = some hd) ∧ Rel A' w' φ' v x) : zh P o ρ H v H' := by
  intro S hS hρ C φ a w hI next Q hn
  obtain ⟨hm, ⟨A, hA, hr⟩, hs, hd⟩ := hI
  subst hS
  obtain ⟨x, w', A', φ', h1, h2, h3, h4, h5⟩ := h C A φ a w hA (fun y hy => by rw [← hρ y hy]; exact y9 hr y)
  have h6 : zZ A' w' φ' S.tmps (fun i => a.tmps[i]?) := zZ.mono h3 h4 hr
  have key : Inv C φ' (S.put o.dst v H') (a.put o.dst x) w' := by
    obtain ⟨h7, h8⟩ := xk (H := H') hs h6 h5 o.dst
    refine ⟨by cases o.dst <;> exact hm, ⟨A', ?_, h7⟩, h8, by cases o.dst <;> exact hd⟩
    have : (S.put o.dst v H').H = H' := by cases o.dst <;> rfl
    rw [this]
    exact h2
  unfold Oper.wp
  rcases h1 with h1 | ⟨h1, rfl⟩
  · rw [h1]
    exact hn x w' φ' key
  · rw [h1]
    exact hn undef w' φ' key
end
end Go.Proofs.Ytkcicbigpbdjpaa.Ab
namespace Go.Proofs.Ytkcicbigpbdjpaa.Ab
open Go.RowKit
class Sl (P : Program) (t : TypeId) (e n b : outParam Nat) : Prop where
  u : P.underlying t = some (.slice e)
  i : ∃ i z, P.info? e = some i ∧ i.size = n ∧ i.bytes = b ∧ i.zero = some z ∧ z.cells.size = n
  pos : 0 < n
class Ag (P : Program) (t : TypeId) (n : outParam Nat) : Prop where
  a : ∀ w, (isAgg t).run P w = .ok true w
  s : ∀ w, (sizeOf t).run P w = .ok n w
class Sc (P : Program) (t : TypeId) : Prop where
  a : ∀ w, (isAgg t).run P w = .ok false w
  s : ∀ w, (sizeOf t).run P w = .ok 1 w
class Fd (P : Program) (t f : Nat) (off n : outParam Nat) (ag : outParam Bool) : Prop where
  u : ∃ fs, P.underlying t = some (.struct fs) ∧ ∃ fd, fs[f]? = some fd ∧ fd.offset = off ∧ (∀ w, (sizeOf fd.type).run P w = .ok n w) ∧ (∀ w, (isAgg fd.type).run P w = .ok ag w)
  pos : 0 < n
class Ze (P : Program) (t : TypeId) (zs : outParam (List Value)) : Prop where
  z : ∃ i z, P.info? t = some i ∧ i.zero = some z ∧ z.cells.toList = zs
class Ik (P : Program) (t : TypeId) (k : outParam IntKind) : Prop where
  u : P.underlying t = some (.int k)
class Str (P : Program) (t : TypeId) : Prop where
  u : P.underlying t = some .string
section
variable {P : Program} {o : Oper} {ρ : Operand → V} {H : List Reg}
theorem qk {x : Operand} (ho : o.op = .move x) : zh P o ρ H (ρ x) H := zl fun A φ a w _ h => ⟨a.eval x, by simp [execOp, ho], h x (by simp [ho, Op.operands])⟩
theorem tQ {x : Operand} (ho : o.op = .assign x) : zh P o ρ H (ρ x) H := zl fun A φ a w _ h => ⟨a.eval x, by simp [execOp, ho], h x (by simp [ho, Op.operands])⟩
theorem wa {A : Nat → Prop} {w : World} {φ : List Hd} {v : V} {u x : Value} (e : v = .k u) (h : Rel A w φ v x) : x = u := by
  subst e
  simpa only [Rel] using h
theorem vm {c x y : Operand} (ho : o.op = .pick c x y) (hc : ρ c = .k (.bool true)) : zh P o ρ H (ρ x) H := zl fun A φ a w _ h => by
  have h1 := wa hc (h c (by simp [ho, Op.operands]))
  exact ⟨a.eval x, by simp [execOp, ho, h1, asBool], h x (by simp [ho, Op.operands])⟩
theorem vX {c x y : Operand} (ho : o.op = .pick c x y) (hc : ρ c = .k (.bool false)) : zh P o ρ H (ρ y) H := zl fun A φ a w _ h => by
  have h1 := wa hc (h c (by simp [ho, Op.operands]))
  exact ⟨a.eval y, by simp [execOp, ho, h1, asBool], h y (by simp [ho, Op.operands])⟩
theorem yA {op : BinOp} {t t' : TypeId} {x y : Operand} {u v r : Value} (ho : o.op = .binOp op t x y t') (hx : ρ x = .k u) (hy : ρ y = .k v)
    (hr : ∀ w, ((do eqGuard op t x y u v; binOp op t u v : Sem Value)).run P w = .ok r w) : zh P o ρ H (.k r) H := zl fun A φ a w _ h => by
  have h1 := wa hx (h x (by simp [ho, Op.operands]))
  have h2 := wa hy (h y (by simp [ho, Op.operands]))
  refine ⟨r, ?_, by simp [Rel]⟩
  have := hr w
  simp only [execOp, ho, h1, h2]
  rw [Sem.run_bind, this]
  rfl
theorem yF {P : Program} {w : World} {op : BinOp} {t : TypeId} {x y : Operand} {k k' : IntKind} {a b : Int} : (eqGuard op t x y (.int k a) (.int k' b)).run P w = .ok () w := by
  unfold eqGuard
  cases op <;> rfl
theorem pn {t t' : TypeId} {x y : Operand} {k : IntKind} {a b : Int} (ho : o.op = .binOp .add t x y t') (hx : ρ x = .k (.int k a)) (hy : ρ y = .k (.int k b)) : zh P o ρ H (.k (.int k (k.wrap (a + b)))) H :=
  yA ho hx hy fun w => by rw [Sem.run_bind, yF]; simp [binOp, Op.intArith]
theorem pX {t t' : TypeId} {x y : Operand} {k : IntKind} {a b : Int} (ho : o.op = .binOp .sub t x y t') (hx : ρ x = .k (.int k a)) (hy : ρ y = .k (.int k b)) : zh P o ρ H (.k (.int k (k.wrap (a - b)))) H :=
  yA ho hx hy fun w => by rw [Sem.run_bind, yF]; simp [binOp, Op.intArith]
theorem pc {t t' : TypeId} {x y : Operand} {k : IntKind} {a b : Int} (ho : o.op = .binOp .mul t x y t') (hx : ρ x = .k (.int k a)) (hy : ρ y = .k (.int k b)) : zh P o ρ H (.k (.int k (k.wrap (a * b)))) H :=
  yA ho hx hy fun w => by rw [Sem.run_bind, yF]; simp [binOp, Op.intArith]
theorem pY {t t' : TypeId} {x y : Operand} {k : IntKind} {a b : Int} (ho : o.op = .binOp .quo t x y t') (hx : ρ x = .k (.int k a)) (hy : ρ y = .k (.int k b)) (h0 : b ≠ 0) : zh P o ρ H (.k (.int k (k.wrap (a.tdiv b)))) H :=
  yA ho hx hy fun w => by rw [Sem.run_bind, yF]; simp [binOp, Op.intDiv, h0]
theorem vl {t t' : TypeId} {x y : Operand} {k : IntKind} {a b : Int} (ho : o.op = .binOp .rem t x y t') (hx : ρ x = .k (.int k a)) (hy : ρ y = .k (.int k b)) (h0 : b ≠ 0) : zh P o ρ H (.k (.int k (a.tmod b))) H :=
  yA ho hx hy fun w => by rw [Sem.run_bind, yF]; simp [binOp, Op.intDiv, h0]
theorem pf {t t' : TypeId} {x y : Operand} {k : IntKind} {a b : Int} (ho : o.op = .binOp .lss t x y t') (hx : ρ x = .k (.int k a)) (hy : ρ y = .k (.int k b)) : zh P o ρ H (.k (.bool (decide (a < b)))) H :=
  yA ho hx hy fun w => by rw [Sem.run_bind, yF]; simp [binOp, Op.intCmp]
theorem ph {t t' : TypeId} {x y : Operand} {k : IntKind} {a b : Int} (ho : o.op = .binOp .leq t x y t') (hx : ρ x = .k (.int k a)) (hy : ρ y = .k (.int k b)) : zh P o ρ H (.k (.bool (decide (a ≤ b)))) H :=
  yA ho hx hy fun w => by rw [Sem.run_bind, yF]; simp [binOp, Op.intCmp]
theorem pi {t t' : TypeId} {x y : Operand} {k : IntKind} {a b : Int} (ho : o.op = .binOp .gtr t x y t') (hx : ρ x = .k (.int k a)) (hy : ρ y = .k (.int k b)) : zh P o ρ H (.k (.bool (decide (b < a)))) H :=
  yA ho hx hy fun w => by rw [Sem.run_bind, yF]; simp [binOp, Op.intCmp]
theorem pj {t t' : TypeId} {x y : Operand} {k : IntKind} {a b : Int} (ho : o.op = .binOp .geq t x y t') (hx : ρ x = .k (.int k a)) (hy : ρ y = .k (.int k b)) : zh P o ρ H (.k (.bool (decide (b ≤ a)))) H :=
  yA ho hx hy fun w => by rw [Sem.run_bind, yF]; simp [binOp, Op.intCmp]
theorem pk {t t' : TypeId} {x y : Operand} {k : IntKind} {a b : Int} (ho : o.op = .binOp .eql t x y t') (hx : ρ x = .k (.int k a)) (hy : ρ y = .k (.int k b)) : zh P o ρ H (.k (.bool (decide (a = b)))) H :=
  yA ho hx hy fun w => by rw [Sem.run_bind, yF]; simp [binOp, Op.intCmp]; rfl
theorem pa {t t' : TypeId} {x y : Operand} {k : IntKind} {a b : Int} (ho : o.op = .binOp .neq t x y t') (hx : ρ x = .k (.int k a)) (hy : ρ y = .k (.int k b)) : zh P o ρ H (.k (.bool (!decide (a = b)))) H :=
  yA ho hx hy fun w => by rw [Sem.run_bind, yF]; simp [binOp, Op.intCmp]; rfl
theorem v8 {P : Program} {w : World} {op : BinOp} {t : TypeId} {x y : Operand} {a b : Bool} : (eqGuard op t x y (.bool a) (.bool b)).run P w = .ok () w := by
  unfold eqGuard
  cases op <;> rfl
theorem uZ {t t' : TypeId} {x y : Operand} {a b : Bool} (ho : o.op = .binOp .eql t x y t') (hx : ρ x = .k (.bool a)) (hy : ρ y = .k (.bool b)) (ht : P.underlying t = some .bool) : zh P o ρ H (.k (.bool (a == b))) H :=
  yA ho hx hy fun w => by rw [Sem.run_bind, v8, Result.andThen_ok, run_eql_bool _ _ _ _ ht]
theorem qi {t t' : TypeId} {x y : Operand} {a b : Bool} (ho : o.op = .binOp .neq t x y t') (hx : ρ x = .k (.bool a)) (hy : ρ y = .k (.bool b)) (ht : P.underlying t = some .bool) : zh P o ρ H (.k (.bool (!(a == b)))) H :=
  yA ho hx hy fun w => by rw [Sem.run_bind, v8, Result.andThen_ok, run_neq_bool _ _ _ _ ht]
theorem vJ {P : Program} {w : World} {op : BinOp} {t : TypeId} {x y : Operand} {a b : ByteArray} : (eqGuard op t x y (.string a) (.string b)).run P w = .ok () w := by
  unfold eqGuard
  cases op <;> rfl
theorem zt {t t' : TypeId} {x y : Operand} {a b : ByteArray} (ho : o.op = .binOp .add t x y t') (hx : ρ x = .k (.string a)) (hy : ρ y = .k (.string b)) (hl : a.size + b.size ≤ 9223372036854775807) : zh P o ρ H (.k (.string (a ++ b))) H :=
  yA ho hx hy fun w => by
    rw [Sem.run_bind, vJ, Result.andThen_ok]
    have : ¬ (((a.size + b.size : Nat) : Int) > IntKind.i64.max) := by simp [IntKind.max, IntKind.signed, IntKind.bits]; omega
    simp only [binOp, Op.stringOp, this, if_false, Sem.run_pure]
theorem ql {t t' : TypeId} {x y : Operand} {a b : ByteArray} (ho : o.op = .binOp .eql t x y t') (hx : ρ x = .k (.string a)) (hy : ρ y = .k (.string b)) : zh P o ρ H (.k (.bool (a.toList == b.toList))) H :=
  yA ho hx hy fun w => by rw [Sem.run_bind, vJ]; simp [binOp, Op.stringOp]
theorem qh {t t' : TypeId} {x y : Operand} {a b : ByteArray} (ho : o.op = .binOp .neq t x y t') (hx : ρ x = .k (.string a)) (hy : ρ y = .k (.string b)) : zh P o ρ H (.k (.bool (!(a.toList == b.toList)))) H :=
  yA ho hx hy fun w => by rw [Sem.run_bind, vJ]; simp [binOp, Op.stringOp]
theorem pZ {t : TypeId} {x : Operand} {b : Bool} (ho : o.op = .unOp .not t x) (hx : ρ x = .k (.bool b)) : zh P o ρ H (.k (.bool (!b))) H := zl fun A φ a w _ h => by
  have h1 := wa hx (h x (by simp [ho, Op.operands]))
  exact ⟨.bool (!b), by simp [execOp, ho, h1, Op.unary], by simp [Rel]⟩
theorem pb {t : TypeId} {x : Operand} {k : IntKind} {n : Int} (ho : o.op = .unOp .neg t x) (hx : ρ x = .k (.int k n)) : zh P o ρ H (.k (.int k (k.wrap (0 - n)))) H := zl fun A φ a w _ h => by
  have h1 := wa hx (h x (by simp [ho, Op.operands]))
  exact ⟨.int k (k.wrap (0 - n)), by simp [execOp, ho, h1, Op.unary, Op.intArith], by simp [Rel]⟩
theorem qn {s d : TypeId} {x : Operand} {k k' ks : IntKind} {n : Int} [hs : Ik P s ks] [hd : Ik P d k] (ho : o.op = .convert s d x) (hx : ρ x = .k (.int k' n)) : zh P o ρ H (.k (.int k (k.wrap n))) H := zl fun A φ a w _ h => by
  have h1 := wa hx (h x (by simp [ho, Op.operands]))
  exact ⟨.int k (k.wrap n), by simp [execOp, ho, h1, convert, run_underlying hs.u, run_underlying hd.u, Conv.intToInt], by simp [Rel]⟩
theorem uo {x : Operand} {i : Nat} {vs : List V} {v : V} (ho : o.op = .extract x i) (hx : ρ x = .tup vs) (hv : vs[i]? = some v) : zh P o ρ H v H := zl fun A φ a w _ h => by
  have h1 := h x (by simp [ho, Op.operands])
  rw [hx, Rel] at h1
  obtain ⟨xs, e1, e2, h2⟩ := h1
  obtain ⟨y, h3, h4⟩ := zz h2 hv
  refine ⟨y, ?_, h4⟩
  simp only [execOp, ho, e1, Instr.extract]
  rw [show xs[i]? = some y from h3]
  rfl
theorem yM {A : Nat → Prop} {w : World} {φ : List Hd} {b off : Nat} : ∀ {cs : List V}, zZ A w φ cs (fun i => w.cell? ⟨b, off + i, none⟩) →
    ∃ xs : Array Value, (loadCells ⟨b, off, none⟩ cs.length).run P w = .ok xs w ∧ xs.size = cs.length ∧ zZ A w φ cs (fun i => xs[i]?) := fun {cs} h => by
  have hex : ∀ j, j < cs.length → ∃ y, w.cell? ⟨b, off + j, none⟩ = some y ∧ Rel A w φ cs[j]! y := fun j hj => by
    have hc : cs[j]? = some cs[j]! := by rw [List.getElem?_eq_getElem hj]; simp [hj]
    exact zz h hc
  refine ⟨(Array.range cs.length).map fun j => (w.cell? ⟨b, off + j, none⟩).getD undef, ?_, by simp, zv.2 fun i c hc => ?_⟩
  · have key := run_loadCells_list (P := P) w ⟨b, off, none⟩ ((List.range cs.length).map fun j => (w.cell? ⟨b, off + j, none⟩).getD undef) (fun j v hv => by
      rw [List.getElem?_map] at hv
      have hj : j < cs.length := by
        rcases Nat.lt_or_ge j cs.length with h' | h'
        · exact h'
        · rw [List.getElem?_eq_none (by simpa using h')] at hv; cases hv
      rw [List.getElem?_range hj] at hv
      simp only [Option.map_some, Option.some.injEq] at hv
      obtain ⟨y, h1, _⟩ := hex j hj
      rw [h1] at hv
      subst hv
      have : (⟨b, off, none⟩ : Addr).add j = ⟨b, off + j, none⟩ := by unfold Addr.add; split <;> simp_all
      rw [this, h1]
      rfl)
    simp only [List.length_map, List.length_range] at key
    rw [key]
    congr 1
    apply Array.ext'
    simp only [Array.toList_map, Array.toList_range]
  · obtain ⟨hi, _⟩ := List.getElem?_eq_some_iff.1 hc
    obtain ⟨y, h1, h2⟩ := zz h hc
    exact ⟨y, by simp [hi, show w.cell? ⟨b, off + i, none⟩ = some y from h1], h2⟩
theorem Addr.plus (b off j : Nat) : (⟨b, off, none⟩ : Addr).add j = ⟨b, off + j, none⟩ := by unfold Addr.add; split <;> simp_all
theorem wD {t : TypeId} {x : Operand} {c : V} {cs : List V} [ht : Sc P t] (ho : o.op = .load t x) (hx : ρ x = .pref (c :: cs)) : zh P o ρ H c H := zl fun A φ a w _ h => by
  have h1 := h x (by simp [ho, Op.operands])
  rw [hx, Rel] at h1
  obtain ⟨b, off, e, hA, hr⟩ := h1
  obtain ⟨y, h2, h3⟩ := zz hr (i := 0) rfl
  refine ⟨y, ?_, Rel.mono (fun b hb => ⟨hb, rfl⟩) (fun h hd hh => by simp at hh) h3⟩
  have h2' : w.cell? ⟨b, off, none⟩ = some y := h2
  simp [execOp, ho, e, Instr.loadAt, Instr.sureAddr, loadVar, ht.a, h2']
theorem vY {t : TypeId} {x : Operand} {n : Nat} {cs : List V} [ht : Ag P t n] (ho : o.op = .load t x) (hx : ρ x = .pref cs) (hn : n ≤ cs.length) : zh P o ρ H (.agg (cs.take n)) H := zl fun A φ a w _ h => by
  have h1 := h x (by simp [ho, Op.operands])
  rw [hx, Rel] at h1
  obtain ⟨b, off, e, hA, hr⟩ := h1
  obtain ⟨xs, h2, h3, h4⟩ := yM (P := P) (ya hr n)
  have hl : (cs.take n).length = n := by simp [hn]
  rw [hl] at h2
  refine ⟨.agg xs, ?_, ?_⟩
  · simp [execOp, ho, e, Instr.loadAt, Instr.sureAddr, loadVar, ht.a, ht.s, h2]
  · rw [Rel]
    exact ⟨xs, rfl, h3, zZ.mono (fun b hb => ⟨hb, rfl⟩) (fun h hd hh => by simp at hh) h4⟩
theorem yu {A : Nat → Prop} {w : World} {φ : List Hd} (hok : HeapOk A w φ H) {h : Nat} {hd : Hd} {r : Reg} {b : Nat} (hφ : φ[h]? = some hd) (hH : H[h]? = some r) (hm : r.mode ≤ 1) (hb : hd.blk = some b) :
    zZ A w φ r.cells (fun i => w.cell? ⟨b, i, none⟩) := by
  obtain ⟨e1, e2⟩ := hok.regs h hd r hφ hH hm
  rw [hb] at e2
  obtain ⟨c, k1, k2, k3, k4⟩ := e2
  refine z7 k4 fun i _ => ?_
  exact cell_of_row w b i c hd.e (0, 0) k1
theorem xl {t : TypeId} {x : Operand} {h off : Nat} {r : Reg} {c : V} [ht : Sc P t] (ho : o.op = .load t x) (hx : ρ x = .ptr h off) (hr : H[h]? = some r) (hm : r.mode ≤ 1) (hc : r.cells[off]? = some c) : zh P o ρ H c H := zl fun A φ a w hok hh => by
  have h1 := hh x (by simp [ho, Op.operands])
  rw [hx, Rel] at h1
  obtain ⟨hd, b, e1, e2, e3⟩ := h1
  obtain ⟨y, h2, h3⟩ := zz (yu hok e1 hr hm e2) hc
  refine ⟨y, ?_, h3⟩
  have h2' : w.cell? ⟨b, off, none⟩ = some y := h2
  simp [execOp, ho, e3, Instr.loadAt, Instr.sureAddr, loadVar, ht.a, h2']
theorem xZ {t : TypeId} {x : Operand} {h off n : Nat} {r : Reg} [ht : Ag P t n] (ho : o.op = .load t x) (hx : ρ x = .ptr h off) (hr : H[h]? = some r) (hm : r.mode ≤ 1) (hn : off + n ≤ r.cells.length) : zh P o ρ H (.agg ((r.cells.drop off).take n)) H := zl fun A φ a w hok hh => by
  have h1 := hh x (by simp [ho, Op.operands])
  rw [hx, Rel] at h1
  obtain ⟨hd, b, e1, e2, e3⟩ := h1
  obtain ⟨xs, h2, h3, h4⟩ := yM (P := P) (ya (yS (yu hok e1 hr hm e2) off) n)
  have hl : ((r.cells.drop off).take n).length = n := by simp; omega
  rw [hl] at h2
  refine ⟨.agg xs, ?_, by rw [Rel]; exact ⟨xs, rfl, h3, h4⟩⟩
  simp [execOp, ho, e3, Instr.loadAt, Instr.sureAddr, loadVar, ht.a, ht.s, h2]
theorem wI {t f off n : Nat} {ag : Bool} [ht : Fd P t f off n ag] (w : World) (b q : Nat) : (Instr.fieldAt t (.pointer (some ⟨b, q, none⟩)) f).run P w = .ok (.pointer (some ⟨b, q + off, none⟩)) w := by
  obtain ⟨fs, h1, fd, h2, h3, h4, h5⟩ := ht.u
  have := ht.pos
  simp only [Instr.fieldAt, Sem.run_bind, run_underlying h1, Result.andThen_ok, h2, Instr.sureAddr, Sem.run_pure, fieldPlace, h4]
  rw [if_neg (by omega)]
  simp [Addr.plus, h3]
theorem un {t f off n : Nat} {ag : Bool} {x : Operand} {cs : List V} [ht : Fd P t f off n ag] (ho : o.op = .fieldAddr t x f) (hx : ρ x = .pref cs) : zh P o ρ H (.pref (cs.drop off)) H := zl fun A φ a w hok hh => by
  have h1 := hh x (by simp [ho, Op.operands])
  rw [hx, Rel] at h1
  obtain ⟨b, q, e, hA, hr⟩ := h1
  refine ⟨.pointer (some ⟨b, q + off, none⟩), ?_, ?_⟩
  · simp only [execOp, ho, e]
    rw [Sem.run_bind, wI (off := off) (n := n) (ag := ag)]
    rfl
  · rw [Rel]
    refine ⟨b, q + off, rfl, hA, ?_⟩
    have := yS hr off
    simpa [Nat.add_assoc] using this
theorem tP {t f off n q h : Nat} {ag : Bool} {x : Operand} [ht : Fd P t f off n ag] (ho : o.op = .fieldAddr t x f) (hx : ρ x = .ptr h q) : zh P o ρ H (.ptr h (q + off)) H := zl fun A φ a w hok hh => by
  have h1 := hh x (by simp [ho, Op.operands])
  rw [hx, Rel] at h1
  obtain ⟨hd, b, e1, e2, e3⟩ := h1
  refine ⟨.pointer (some ⟨b, q + off, none⟩), ?_, by rw [Rel]; exact ⟨hd, b, e1, e2, rfl⟩⟩
  simp only [execOp, ho, e3]
  rw [Sem.run_bind, wI (off := off) (n := n) (ag := ag)]
  rfl
theorem uS {x : Operand} {h q : Nat} (ho : o.op = .nilCheck x) (hx : ρ x = .ptr h q) : zh P o ρ H (.ptr h q) H := zl fun A φ a w hok hh => by
  have h1 := hh x (by simp [ho, Op.operands])
  rw [hx] at h1
  have h2 := h1
  rw [Rel] at h1
  obtain ⟨hd, b, e1, e2, e3⟩ := h1
  exact ⟨a.eval x, by simp [execOp, ho, e3], h2⟩
theorem wE {t e n b : Nat} {x y : Operand} {k : IntKind} {j : Int} {m : Nat} {cs : List V} [ht : Sl P t e n b] (ho : o.op = .indexAddr t x y) (hx : ρ x = .lst m cs) (hy : ρ y = .k (.int k j)) (h0 : 0 ≤ j) (h1 : j < m) : zh P o ρ H (.pref (cs.drop (j.toNat * n))) H := zl fun A φ a w hok hh => by
  have hx1 := hh x (by simp [ho, Op.operands])
  have hy1 := wa hy (hh y (by simp [ho, Op.operands]))
  rw [hx, Rel] at hx1
  obtain ⟨ad, cap, e1, e2, e3, e4⟩ := hx1
  rcases e4 with e4 | ⟨bb, q, rfl, hA, hr⟩
  · subst e4; simp at e3; omega
  · obtain ⟨i, z, i1, i2, i3, _⟩ := ht.i
    refine ⟨.pointer (some ⟨bb, q + j.toNat * n, none⟩), ?_, ?_⟩
    · simp [execOp, ho, e1, hy1, Instr.indexAt, asIntOf, run_underlying ht.u, h0, h1, sizeOf, typeInfo, i1, i2, Addr.plus]
    · rw [Rel]
      refine ⟨bb, _, rfl, hA, ?_⟩
      have := yS hr (j.toNat * n)
      simpa [Nat.add_assoc] using this
theorem sE {t e n b : Nat} {x y : Operand} {k : IntKind} {j : Int} {h off m : Nat} {r : Reg} [ht : Sl P t e n b] (ho : o.op = .indexAddr t x y) (hx : ρ x = .sl h off m) (hr : H[h]? = some r) (hm : r.mode ≤ 1) (he : r.esz = n) (hy : ρ y = .k (.int k j)) (h0 : 0 ≤ j) (h1 : j < m) : zh P o ρ H (.ptr h ((off + j.toNat) * n)) H := zl fun A φ a w hok hh => by
  have hx1 := hh x (by simp [ho, Op.operands])
  have hy1 := wa hy (hh y (by simp [ho, Op.operands]))
  rw [hx, Rel] at hx1
  obtain ⟨hd, e1, ⟨e2, e3⟩ | ⟨_, e3, _⟩⟩ := hx1
  rotate_left
  · omega
  obtain ⟨r1, r2⟩ := hok.regs h hd r e1 hr hm
  obtain ⟨i, z, i1, i2, i3, _⟩ := ht.i
  cases hb : hd.blk with
  | none => rw [hb] at r2; omega
  | some bb =>
    rw [hb] at e2
    have hes : hd.esz = n := r1.1.trans he
    refine ⟨.pointer (some ⟨bb, (off + j.toNat) * n, none⟩), ?_, by rw [Rel]; exact ⟨hd, bb, e1, hb, rfl⟩⟩
    simp [execOp, ho, e2, hy1, Instr.indexAt, asIntOf, run_underlying ht.u, h0, h1, sizeOf, typeInfo, i1, i2, Addr.plus, hes, Nat.add_mul]
theorem um {ty t e n b m : Nat} {x : Operand} {cs : List V} [ht : Sl P t e n b] (ho : o.op = .call { callee := .builtin .len, args := #[x], argTypes := #[t] }) (hx : ρ x = .lst m cs) : zh P o ρ H (.k (.int .i64 m)) H := zl fun A φ a w hok hh => by
  have hx1 := hh x (by simp [ho, Op.operands, Call.operands])
  rw [hx, Rel] at hx1
  obtain ⟨ad, cap, e1, e2, e3, e4⟩ := hx1
  refine ⟨.int .i64 m, ?_, by simp [Rel]⟩
  simp [execOp, ho, resolve, invoke, builtin, e1, Builtin.len_, run_underlying ht.u, goInt]
theorem tN {t e n b m h off : Nat} {x : Operand} [ht : Sl P t e n b] (ho : o.op = .call { callee := .builtin .len, args := #[x], argTypes := #[t] }) (hx : ρ x = .sl h off m) : zh P o ρ H (.k (.int .i64 m)) H := zl fun A φ a w hok hh => by
  have hx1 := hh x (by simp [ho, Op.operands, Call.operands])
  rw [hx, Rel] at hx1
  refine ⟨.int .i64 m, ?_, by simp [Rel]⟩
  obtain ⟨hd, e1, ⟨e2, e3⟩ | ⟨_, rfl, _, e2⟩⟩ := hx1
  · simp [execOp, ho, resolve, invoke, builtin, e2, Builtin.len_, run_underlying ht.u, goInt]
  · simp [execOp, ho, resolve, invoke, builtin, e2, Builtin.len_, run_underlying ht.u, goInt]
theorem sD {t e n b m cap : Nat} {ad : Option Addr} {x : Operand} [ht : Sl P t e n b] (ho : o.op = .call { callee := .builtin .len, args := #[x], argTypes := #[t] }) (hx : ρ x = .k (.slice ad m cap)) : zh P o ρ H (.k (.int .i64 m)) H := zl fun A φ a w hok hh => by
  have hx1 := wa hx (hh x (by simp [ho, Op.operands, Call.operands]))
  refine ⟨.int .i64 m, ?_, by simp [Rel]⟩
  simp [execOp, ho, resolve, invoke, builtin, hx1, Builtin.len_, run_underlying ht.u, goInt]
theorem ul {t : Nat} {x : Operand} {s : ByteArray} [ht : Str P t] (ho : o.op = .call { callee := .builtin .len, args := #[x], argTypes := #[t] }) (hx : ρ x = .k (.string s)) : zh P o ρ H (.k (.int .i64 s.size)) H := zl fun A φ a w hok hh => by
  have hx1 := wa hx (hh x (by simp [ho, Op.operands, Call.operands]))
  refine ⟨.int .i64 s.size, ?_, by simp [Rel]⟩
  simp [execOp, ho, resolve, invoke, builtin, hx1, Builtin.len_, run_underlying ht.u, goInt]
theorem pe {x y : Operand} {ts : Array TypeId} {k k' : IntKind} {m n : Int} (ho : o.op = .call { callee := .builtin .max, args := #[x, y], argTypes := ts }) (hx : ρ x = .k (.int k m)) (hy : ρ y = .k (.int k' n)) : zh P o ρ H (.k (.int k (if n > m then n else m))) H := zl fun A φ a w hok hh => by
  have hx1 := wa hx (hh x (by simp [ho, Op.operands, Call.operands]))
  have hy1 := wa hy (hh y (by simp [ho, Op.operands, Call.operands]))
  exact ⟨.int k (if n > m then n else m), by simp [execOp, ho, resolve, invoke, builtin, hx1, hy1, run_max_int2], by simp [Rel]⟩
theorem pd {x y : Operand} {ts : Array TypeId} {k k' : IntKind} {m n : Int} (ho : o.op = .call { callee := .builtin .min, args := #[x, y], argTypes := ts }) (hx : ρ x = .k (.int k m)) (hy : ρ y = .k (.int k' n)) : zh P o ρ H (.k (.int k (if n < m then n else m))) H := zl fun A φ a w hok hh => by
  have hx1 := wa hx (hh x (by simp [ho, Op.operands, Call.operands]))
  have hy1 := wa hy (hh y (by simp [ho, Op.operands, Call.operands]))
  exact ⟨.int k (if n < m then n else m), by simp [execOp, ho, resolve, invoke, builtin, hx1, hy1, run_min_int2], by simp [Rel]⟩
theorem sF {t f off n : Nat} {x : Operand} {cs : List V} {c : V} [ht : Fd P t f off n false] (ho : o.op = .field t x f) (hx : ρ x = .agg cs) (hc : cs[off]? = some c) : zh P o ρ H c H := zl fun A φ a w hok hh => by
  have hx1 := hh x (by simp [ho, Op.operands])
  rw [hx, Rel] at hx1
  obtain ⟨xs, e1, e2, hr⟩ := hx1
  obtain ⟨fs, h1, fd, h2, h3, h4, h5⟩ := ht.u
  obtain ⟨y, k1, k2⟩ := zz hr hc
  refine ⟨y, ?_, k2⟩
  have k1' : xs[fd.offset]? = some y := by rw [h3]; exact k1
  simp [execOp, ho, e1, Instr.field, run_underlying h1, h2, asAgg, part, h5, k1']
theorem tO {t f off n : Nat} {x : Operand} {cs : List V} [ht : Fd P t f off n true] (ho : o.op = .field t x f) (hx : ρ x = .agg cs) (hn : off + n ≤ cs.length) : zh P o ρ H (.agg ((cs.drop off).take n)) H := zl fun A φ a w hok hh => by
  have hx1 := hh x (by simp [ho, Op.operands])
  rw [hx, Rel] at hx1
  obtain ⟨xs, e1, e2, hr⟩ := hx1
  obtain ⟨fs, h1, fd, h2, h3, h4, h5⟩ := ht.u
  refine ⟨.agg (xs.extract off (off + n)), ?_, ?_⟩
  · simp [execOp, ho, e1, Instr.field, run_underlying h1, h2, asAgg, part, h5, h4, h3]
  · rw [Rel]
    refine ⟨_, rfl, by simp; omega, z7 (ya (yS hr off) n) fun i hi => ?_⟩
    simp only [List.length_take, List.length_drop] at hi
    rw [Array.getElem?_extract]
    rw [if_pos (by omega)]
end
end Go.Proofs.Ytkcicbigpbdjpaa.Ab
namespace Go.Proofs.Ytkcicbigpbdjpaa.Ab
open Go.RowKit
def uU : V → Bool
  | .k v => v.oneCell'
  | .agg _ | .tup _ | .any => false
  | _ => true
def yi : V → Option (List V)
  | .k v => some (v.cells.toList.map .k)
  | .agg cs => some cs
  | .any => none
  | v => some [v]
section
variable {C : Cx} {A : Nat → Prop} {φ : List Hd} {H : List Reg} {w w' : World} {P : Program} {o : Oper} {ρ : Operand → V}
theorem vQ {v : V} {x : Value} {cs : List V} (h : Rel A w φ v x) (hc : yi v = some cs) : x.cells.size = cs.length ∧ zZ A w φ cs (fun i => x.cells[i]?) := by
  cases v with
  | k u =>
    simp only [Rel] at h
    subst h
    simp only [yi, Option.some.injEq] at hc
    subst hc
    refine ⟨by simp, zv.2 fun i c hi => ?_⟩
    rw [List.getElem?_map, Array.getElem?_toList] at hi
    cases hu : x.cells[i]? with
    | none => rw [hu] at hi; simp at hi
    | some y => rw [hu] at hi; simp at hi; subst hi; exact ⟨y, rfl, by simp [Rel]⟩
  | agg cs' =>
    simp only [yi, Option.some.injEq] at hc
    subst hc
    rw [Rel] at h
    obtain ⟨xs, rfl, h1, h2⟩ := h
    exact ⟨h1, h2⟩
  | any => simp [yi] at hc
  | lst n cs' =>
    simp only [yi, Option.some.injEq] at hc
    subst hc
    have h' := h
    rw [Rel] at h'
    obtain ⟨ad, cap, rfl, _⟩ := h'
    exact ⟨rfl, by rw [zZ, zZ]; exact ⟨⟨_, rfl, h⟩, trivial⟩⟩
  | sl h0 off len =>
    simp only [yi, Option.some.injEq] at hc
    subst hc
    have h' := h
    rw [Rel] at h'
    obtain ⟨hd, _, ⟨rfl, _⟩ | ⟨_, _, _, _, rfl⟩⟩ := h'
    · exact ⟨rfl, by rw [zZ, zZ]; exact ⟨⟨_, rfl, h⟩, trivial⟩⟩
    · exact ⟨rfl, by rw [zZ, zZ]; exact ⟨⟨_, rfl, h⟩, trivial⟩⟩
  | ptr h0 off =>
    simp only [yi, Option.some.injEq] at hc
    subst hc
    have h' := h
    rw [Rel] at h'
    obtain ⟨hd, b, _, _, rfl⟩ := h'
    exact ⟨rfl, by rw [zZ, zZ]; exact ⟨⟨_, rfl, h⟩, trivial⟩⟩
  | pref cs' =>
    simp only [yi, Option.some.injEq] at hc
    subst hc
    have h' := h
    rw [Rel] at h'
    obtain ⟨b, off, rfl, _⟩ := h'
    exact ⟨rfl, by rw [zZ, zZ]; exact ⟨⟨_, rfl, h⟩, trivial⟩⟩
  | tup cs' =>
    simp only [yi, Option.some.injEq] at hc
    subst hc
    have h' := h
    rw [Rel] at h'
    obtain ⟨xs, rfl, _⟩ := h'
    exact ⟨rfl, by rw [zZ, zZ]; exact ⟨⟨_, rfl, h⟩, trivial⟩⟩
  | fn f cs' =>
    simp only [yi, Option.some.injEq] at hc
    subst hc
    have h' := h
    rw [Rel] at h'
    obtain ⟨xs, rfl, _⟩ := h'
    exact ⟨rfl, by rw [zZ, zZ]; exact ⟨⟨_, rfl, h⟩, trivial⟩⟩
theorem so {v : V} {x : Value} (h : Rel A w φ v x) (ho : uU v = true) : x.oneCell' = true := by
  cases v with
  | k u => simp only [Rel] at h; subst h; exact ho
  | lst n cs' => rw [Rel] at h; obtain ⟨ad, cap, rfl, _⟩ := h; rfl
  | sl h0 off len => rw [Rel] at h; obtain ⟨hd, _, ⟨rfl, _⟩ | ⟨_, _, _, _, rfl⟩⟩ := h <;> rfl
  | ptr h0 off => rw [Rel] at h; obtain ⟨hd, b, _, _, rfl⟩ := h; rfl
  | pref cs' => rw [Rel] at h; obtain ⟨b, off, rfl, _⟩ := h; rfl
  | fn f cs' => rw [Rel] at h; obtain ⟨xs, rfl, _⟩ := h; rfl
  | agg cs' => cases ho
  | tup cs' => cases ho
  | any => cases ho
def yT (cells : List V) (off : Nat) (vs : List V) : List V := cells.take off ++ vs ++ cells.drop (off + vs.length)
theorem x7 {cells vs : List V} {off : Nat} (h : off + vs.length ≤ cells.length) : (yT cells off vs).length = cells.length := by
  simp [yT]; omega
theorem wc {cells vs : List V} {off : Nat} {g g' u : Nat → Option Value} (h : off + vs.length ≤ cells.length) (hc : zZ A w φ cells g) (hv : zZ A w φ vs u)
    (h1 : ∀ i, i < cells.length → (i < off ∨ off + vs.length ≤ i) → g' i = g i) (h2 : ∀ j, j < vs.length → g' (off + j) = u j) : zZ A w φ (yT cells off vs) g' := by
  have hl : (cells.take off).length = off := by simp; omega
  unfold yT
  rw [List.append_assoc]
  refine yd (z7 (ya hc off) fun i hi => h1 i (by omega) (Or.inl (by omega))) (yd (z7 hv fun i hi => by rw [hl]; exact h2 i hi) (z7 (yS hc _) fun i hi => ?_))
  simp only [List.length_drop] at hi
  rw [hl]
  have := h1 (off + vs.length + i) (by omega) (Or.inr (by omega))
  rw [← Nat.add_assoc]
  exact this
theorem tm (off : Nat) : ∀ (vs : List Value) (k : Nat) (c : Array Value), ((vs.zipIdx k).foldl (fun cs (x : Value × Nat) => cs.setIfInBounds (off + x.2) x.1) c).size = c.size ∧
    ∀ i, ((vs.zipIdx k).foldl (fun cs (x : Value × Nat) => cs.setIfInBounds (off + x.2) x.1) c)[i]? = if off + k ≤ i ∧ i < off + k + vs.length ∧ i < c.size then vs[i - (off + k)]? else c[i]?
  | [], k, c => by
    refine ⟨rfl, fun i => ?_⟩
    rw [if_neg (by simp; omega)]
    rfl
  | v :: vs, k, c => by
    obtain ⟨h1, h2⟩ := tm off vs (k + 1) (c.setIfInBounds (off + k) v)
    simp only [List.zipIdx_cons, List.foldl_cons]
    refine ⟨by rw [h1]; simp, fun i => ?_⟩
    rw [h2 i]
    simp only [Array.size_setIfInBounds, List.length_cons]
    by_cases hi : off + (k + 1) ≤ i ∧ i < off + (k + 1) + vs.length ∧ i < c.size
    · rw [if_pos hi, if_pos (by omega)]
      have : i - (off + k) = (i - (off + (k + 1))) + 1 := by omega
      rw [this, List.getElem?_cons_succ]
    · rw [if_neg hi]
      by_cases he : i = off + k ∧ i < c.size
      · obtain ⟨rfl, hlt⟩ := he
        rw [if_pos (by omega)]
        simp [hlt]
      · by_cases he' : i = off + k
        · subst he'
          rw [if_neg (by omega)]
          have hge : c.size ≤ off + k := by omega
          rw [Array.getElem?_eq_none (by simpa using hge), Array.getElem?_eq_none hge]
        · rw [if_neg (by omega), Array.getElem?_setIfInBounds_ne (by omega)]
def we (place : Nat → Option (Nat × Nat)) (cells : List V) : List (Nat × V) → Option (List V)
  | [] => some cells
  | (i, v) :: rest => match place i, yi v with
    | some (off, size), some vs => if vs.length = size ∧ off + vs.length ≤ cells.length then we place (yT cells off vs) rest else none
    | _, _ => none
theorem w3 {place : Nat → Option (Nat × Nat)} {a : Act} : ∀ {ps : List (Nat × Operand)} {cells cs' : List V} {c : Array Value}, (∀ p ∈ ps, Rel A w φ (ρ p.2) (a.eval p.2)) →
    we place cells (ps.map fun p => (p.1, ρ p.2)) = some cs' → c.size = cells.length → zZ A w φ cells (fun i => c[i]?) →
    ∃ c', Instr.fill place c (ps.map fun p => (p.1, a.eval p.2)) = some c' ∧ c'.size = cs'.length ∧ zZ A w φ cs' (fun i => c'[i]?)
  | [], cells, cs', c, _, h, hs, hr => by
    simp only [List.map_nil, we, Option.some.injEq] at h
    subst h
    exact ⟨c, rfl, hs, hr⟩
  | (i, x) :: ps, cells, cs', c, hp, h, hs, hr => by
    simp only [List.map_cons, we] at h
    simp only [List.map_cons, Instr.fill]
    cases hpl : place i with
    | none => rw [hpl] at h; simp at h
    | some q =>
      obtain ⟨off, size⟩ := q
      rw [hpl] at h
      cases hcv : yi (ρ x) with
      | none => rw [hcv] at h; simp at h
      | some vs =>
        rw [hcv] at h
        simp only at h
        split at h
        · rename_i hc
          obtain ⟨k1, k2⟩ := vQ (hp (i, x) (by simp)) hcv
          simp only
          rw [if_neg (by simp [k1, hc.1]; omega)]
          obtain ⟨f1, f2⟩ := tm off (a.eval x).cells.toList 0 c
          have hfold : Array.foldl (fun cs (x : Value × Nat) => cs.setIfInBounds (off + x.2) x.1) c (a.eval x).cells.zipIdx = ((a.eval x).cells.toList.zipIdx 0).foldl (fun cs (x : Value × Nat) => cs.setIfInBounds (off + x.2) x.1) c := by
            rw [← Array.foldl_toList, Array.toList_zipIdx]
          refine w3 (fun p hm => hp p (by simp [hm])) h ?_ ?_
          · rw [x7 hc.2, ← hs]
            exact (congrArg Array.size hfold).trans f1
          · refine wc hc.2 hr k2 (fun j hj hjo => ?_) (fun j hj => ?_)
            · refine (congrArg (fun z : Array Value => z[j]?) hfold).trans ?_
              have k1' : (a.eval x).cells.size = vs.length := k1
              rw [f2 j, if_neg (by simp only [Array.length_toList]; omega)]
            · have k1' : (a.eval x).cells.size = vs.length := k1
              refine (congrArg (fun z : Array Value => z[off + j]?) hfold).trans ?_
              rw [f2 (off + j), if_pos (by simp only [Array.length_toList]; omega)]
              simp
        · cases h
class Pl (P : Program) (t : TypeId) (ps : outParam (List (Nat × Nat))) : Prop where
  u : ∃ fs, P.underlying t = some (.struct fs) ∧ ∀ w, (fs.mapM fun f => (do pure (f.offset, ← sizeOf f.type) : Sem (Nat × Nat))).run P w = .ok ps.toArray w
theorem wd {t : TypeId} {zs : List Value} [hz : Ze P t zs] (w : World) : ∃ z, (zeroValue t).run P w = .ok z w ∧ z.cells.toList = zs := by
  obtain ⟨i, z, h1, h2, h3⟩ := hz.z
  exact ⟨z, by simp [zeroValue, typeInfo, h1, h2], h3⟩
theorem vk {z : Value} {zs : List Value} (h : z.cells.toList = zs) : zZ A w φ (zs.map V.k) (fun i => z.cells[i]?) ∧ z.cells.size = (zs.map V.k).length := by
  subst h
  refine ⟨zv.2 fun i c hi => ?_, by simp⟩
  rw [List.getElem?_map, Array.getElem?_toList] at hi
  cases hu : z.cells[i]? with
  | none => rw [hu] at hi; simp at hi
  | some y => rw [hu] at hi; simp at hi; subst hi; exact ⟨y, rfl, by simp [Rel]⟩
theorem sJ {t : TypeId} {zs : List Value} {pl : List (Nat × Nat)} {ps : List (Nat × Operand)} {cs : List V} [hz : Ze P t zs] [hp : Pl P t pl] (ho : o.op = .build t ps.toArray)
    (hf : we (pl[·]?) (zs.map V.k) (ps.map fun p => (p.1, ρ p.2)) = some cs) : zh P o ρ H (.agg cs) H := zl fun A φ a w hok hh => by
  have hx : ∀ p ∈ ps, Rel A w φ (ρ p.2) (a.eval p.2) := fun p hm => hh p.2 (by simp only [ho, Op.operands]; simpa using ⟨p.1, hm⟩)
  obtain ⟨fs, h1, h2⟩ := hp.u
  obtain ⟨z, h3, h4⟩ := wd (P := P) (t := t) w
  obtain ⟨h5, h6⟩ := vk (A := A) (w := w) (φ := φ) h4
  obtain ⟨c', k1, k2, k3⟩ := w3 hx hf h6 h5
  refine ⟨.agg c', ?_, by rw [Rel]; exact ⟨c', rfl, k2, k3⟩⟩
  have e1 : (List.map (fun p : Nat × Operand => (p.1, a.eval p.2)) ps) = (ps.toArray.map fun (i, x) => (i, a.eval x)).toList := by simp
  simp only [execOp, ho, Instr.build, Sem.run_bind, h3, Result.andThen_ok, run_underlying h1, h2 w]
  rw [e1] at k1
  have k1' : Instr.fill (fun x => pl.toArray[x]?) z.cells (ps.toArray.map fun (i, x) => (i, a.eval x)).toList = some c' := by
    rw [← k1]
    congr 1
    funext i
    simp
  rw [k1']
  rfl
theorem wZ (hA : InvA C A φ H w) {c : Array Value} {e cap esz : Nat} {cells : List V} (hc : c.size = cap * esz) (hcap : cap ≤ maxLen) (hl : cells.length ≤ c.size) (hr : zZ A w φ cells (fun i => c[i]?)) (n : Nat) :
    InvA C A (φ ++ [⟨some w.heap.size, cap, esz, e⟩]) (H ++ [⟨e, esz, cells, 0⟩]) ((w.drewN n).alloc (.cells c e)) :=
  hA.add (fun h ⟨hd, r, h1, h2, h3, h4⟩ => by
      obtain ⟨_, e2⟩ := hA.ok.regs h hd r h1 h2 (by omega)
      rw [h4] at e2
      obtain ⟨c', k1, _⟩ := e2
      rw [Array.getElem?_eq_none (Nat.le_refl _)] at k1
      cases k1)
    (fun hb => absurd (hA.ok.low _ hb) (Nat.lt_irrefl _)) (fun i hi _ => Below.heap_alloc (w.drewN n) _ i hi) (by simp [World.alloc]) (Or.inl hA.frame.size) rfl rfl rfl (Go.heap_alloc_new (w.drewN n) _) hc hcap hl hr
theorem xV (hA : InvA C A φ H w) (o : Obj) (n : Nat) : ∀ b, A b → A b ∧ ((w.drewN n).alloc o).heap[b]? = w.heap[b]? := fun b hb => ⟨hb, Below.heap_alloc (w.drewN n) _ b (hA.ok.low b hb)⟩
theorem uw {hd : Hd} (hA : InvA C A φ H w) {len : Nat} {b : Nat} (hb : hd.blk = some b) (hl : len ≤ hd.cap) (w' : World) : Rel A w' (φ ++ [hd]) (.sl H.length 0 len) (.slice (some ⟨b, 0, none⟩) len hd.cap) := by
  rw [Rel]
  refine ⟨hd, ?_, Or.inl ⟨?_, by omega⟩⟩
  · rw [← hA.ok.len]; simp
  · simp [hb]
theorem tc {hd : Hd} (hA : InvA C A φ H w) {b : Nat} (hb : hd.blk = some b) (w' : World) : Rel A w' (φ ++ [hd]) (.ptr H.length 0) (.pointer (some ⟨b, 0, none⟩)) := by
  rw [Rel]
  exact ⟨hd, b, by rw [← hA.ok.len]; simp, hb, rfl⟩
theorem sK {t : TypeId} {zs : List Value} [hz : Ze P t zs] (ho : o.op = .alloc t) : zh P o ρ H (.ptr H.length 0) (H ++ [⟨t, zs.length, zs.map V.k, 0⟩]) := y7 fun C A φ a w hA hh => by
  obtain ⟨z, h3, h4⟩ := wd (P := P) (t := t) w
  obtain ⟨h5, h6⟩ := vk (A := A) (w := w) (φ := φ) h4
  refine ⟨.pointer (some ⟨w.heap.size, 0, none⟩), (w.drewN 0).alloc (.cells z.cells t), A, _, Or.inl ?_, wZ hA (cap := 1) (by rw [h6]; simp) (by simp [maxLen]) (by rw [h6]; exact Nat.le_refl _) h5 0, xV hA _ 0, fun h hd hh => z1 hh, tc hA rfl _⟩
  simp [execOp, ho, Instr.alloc, h3, newVar, newRow, World.drewN_zero]
theorem pm {t n : TypeId} {x : Operand} {cs : List V} (ho : o.op = .box t x) (hx : yi (ρ x) = some cs) (hn : cs.length = n) : zh P o ρ H (.ptr H.length 0) (H ++ [⟨t, n, cs, 0⟩]) := y7 fun C A φ a w hA hh => by
  obtain ⟨k1, k2⟩ := vQ (hh x (by simp [ho, Op.operands])) hx
  refine ⟨.pointer (some ⟨w.heap.size, 0, none⟩), (w.drewN 0).alloc (.cells (a.eval x).cells t), A, _, Or.inl ?_, wZ hA (cap := 1) (by rw [k1, hn]; simp) (by simp [maxLen]) (by rw [k1]; exact Nat.le_refl _) k2 0, xV hA _ 0, fun h hd hh => z1 hh, tc hA rfl _⟩
  simp [execOp, ho, Instr.box, newVar, newRow, World.drewN_zero]
theorem ui (n : Nat) (c : Array Value) (hc : c.size = n) : zZ A w φ (List.replicate n V.any) (fun i => c[i]?) := zv.2 fun i v hi => by
  have hlt := (List.getElem?_eq_some_iff.1 hi).1
  simp only [List.length_replicate] at hlt
  have := List.mem_of_getElem? hi
  obtain rfl := List.eq_of_mem_replicate this
  exact ⟨c[i], by simp [show i < c.size by omega], by simp [Rel]⟩
theorem vZ {t e n b len : Nat} {ps : List (Nat × Operand)} {cs : List V} [ht : Sl P t e n b] (ho : o.op = .buildSlice t len ps.toArray) (hlen : len * n ≤ 16777216)
    (hf : we (fun i => some (i * n, n)) (List.replicate (len * n) V.any) (ps.map fun p => (p.1, ρ p.2)) = some cs) (hcs : cs.length = len * n) : zh P o ρ H (.sl H.length 0 len) (H ++ [⟨e, n, cs, 0⟩]) := y7 fun C A φ a w hA hh => by
  have hx : ∀ p ∈ ps, Rel A w φ (ρ p.2) (a.eval p.2) := fun p hm => hh p.2 (by simp only [ho, Op.operands]; simpa using ⟨p.1, hm⟩)
  obtain ⟨i, z, i1, i2, i3, i4, i5⟩ := ht.i
  have hpos := ht.pos
  have e1 : (List.map (fun p : Nat × Operand => (p.1, a.eval p.2)) ps) = (ps.toArray.map fun (i, x) => (i, a.eval x)).toList := by simp
  have key : ∀ c0 : Array Value, c0.size = len * n → ∃ c', Instr.fill (fun i => some (i * n, n)) c0 (ps.toArray.map fun (i, x) => (i, a.eval x)).toList = some c' ∧ c'.size = cs.length ∧ zZ A w φ cs (fun i => c'[i]?) := fun c0 h0 => by
    rw [← e1]
    exact w3 hx hf (by simp [h0]) (ui _ c0 h0)
  have hle : ¬ (len * n > 2 ^ 24) := by omega
  have fin : ∀ c', c'.size = cs.length → zZ A w φ cs (fun i => c'[i]?) → ((execOp a.eval o).run P w = .ok (.value (.slice (some ⟨w.heap.size, 0, none⟩) len len)) (w.alloc (.cells c' e))) → _ := fun c' k2 k3 hrun =>
    (⟨.slice (some ⟨w.heap.size, 0, none⟩) len len, (w.drewN 0).alloc (.cells c' e), A, _, Or.inl hrun, wZ hA (cap := len) (by rw [k2, hcs]) (by simp [maxLen]; have := Nat.le_mul_of_pos_right len hpos; omega) (by rw [k2]; exact Nat.le_refl _) k3 0, xV hA _ 0, fun h hd hh => z1 hh, uw hA rfl (Nat.le_refl _) _⟩ : ∃ x w' A' φ', ((execOp a.eval o).run P w = .ok (.value x) w' ∨ ((execOp a.eval o).run P w = .ok .skip w' ∧ x = undef)) ∧ InvA C A' φ' (H ++ [⟨e, n, cs, 0⟩]) w' ∧ (∀ b, A b → A' b ∧ w'.heap[b]? = w.heap[b]?) ∧ (∀ (h : Nat) (hd : Hd), φ[h]? = some hd → φ'[h]? = some hd) ∧ Rel A' w' φ' (.sl H.length 0 len) x)
  by_cases h0 : len * n = 0
  · obtain ⟨c', k1, k2, k3⟩ := key ((Array.range (len * n)).map (fun i => (#[] : Array Value)[i % (#[] : Array Value).size]!)) (by simp)
    refine fin c' k2 k3 ?_
    simp only [execOp, ho, Instr.buildSlice, Sem.run_bind, run_underlying ht.u, Result.andThen_ok, sizeOf, typeInfo, run_program, i1, Sem.run_pure, i2, if_neg hle]
    rw [if_pos h0]
    rw [Sem.run_bind, Sem.run_pure, Result.andThen_ok, k1]
    simp [newRow]
  · obtain ⟨c', k1, k2, k3⟩ := key ((Array.range (len * n)).map (fun i => z.cells[i % z.cells.size]!)) (by simp)
    refine fin c' k2 k3 ?_
    simp only [execOp, ho, Instr.buildSlice, Sem.run_bind, run_underlying ht.u, Result.andThen_ok, sizeOf, typeInfo, run_program, i1, Sem.run_pure, i2, if_neg hle]
    rw [if_neg h0]
    simp only [zeroValue, Sem.run_bind, typeInfo, run_program, i1, i4, Sem.run_pure, Result.andThen_ok, k1]
    simp [newRow]
end
end Go.Proofs.Ytkcicbigpbdjpaa.Ab
namespace Go.Proofs.Ytkcicbigpbdjpaa.Ab
open Go.RowKit
section
variable {C : Cx} {A : Nat → Prop} {φ : List Hd} {H : List Reg} {w w' : World} {P : Program} {o : Oper} {ρ : Operand → V}
theorem xY {t n : TypeId} {x y : Operand} {h off : Nat} {r : Reg} {vs : List V} (hs : ∀ w, (sizeOf t).run P w = .ok n w) (ho : o.op = .store t x y) (hx : ρ x = .ptr h off) (hy : yi (ρ y) = some vs) (hn : vs.length = n)
    (h1 : ∀ c ∈ vs, uU c = true) (hr : H[h]? = some r) (hm : r.mode = 0) (hc : off + n ≤ r.cells.length) : zh P o ρ H (.k undef) (H.set h { r with cells := yT r.cells off vs }) := y7 fun C A φ a w hA hh => by
  have hx1 := hh x (by simp [ho, Op.operands])
  obtain ⟨k1, k2⟩ := vQ (hh y (by simp [ho, Op.operands])) hy
  rw [hx, Rel] at hx1
  obtain ⟨hd, b, e1, e2, e3⟩ := hx1
  obtain ⟨f1, f2⟩ := hA.ok.regs h hd r e1 hr (by omega)
  rw [e2] at f2
  obtain ⟨c, g1, g2, g3, g4⟩ := f2
  have hlen : (a.eval y).cells.toList.length = n := by rw [Array.length_toList, k1, hn]
  have hone : ∀ v ∈ (a.eval y).cells.toList, v.oneCell' = true := fun v hv => by
    obtain ⟨i, hi⟩ := List.getElem?_of_mem hv
    rw [Array.getElem?_toList] at hi
    have hlt : i < vs.length := by rw [← k1]; exact (Array.getElem?_eq_some_iff.1 hi).1
    obtain ⟨y', q1, q2⟩ := zz k2 (List.getElem?_eq_getElem hlt)
    have q1' : (a.eval y).cells[i]? = some y' := q1
    rw [hi] at q1'
    cases q1'
    exact so q2 (h1 _ (List.getElem_mem hlt))
  have hrun := run_storeCells_at P b off hd.e (a.eval y).cells.toList 0 c w g1 (by rw [hlen]; omega) hone
  simp only [Nat.add_zero, hlen] at hrun
  refine ⟨undef, w.setRow b (c.toList.take off ++ (a.eval y).cells.toList ++ c.toList.drop (off + n)).toArray, A, φ, Or.inr ⟨?_, rfl⟩,
    hA.upd e1 hr hm e2 (fun i hi => setRow_other w b i _ hi) (by simp) rfl rfl rfl (setRow_heap w b c _ hd.e (0, 0) g1) ?_ ?_ ?_, fun b' hb' => ⟨hb', setRow_other w b b' _ fun e => hA.ok.apart h b ⟨hd, r, e1, hr, hm, e2⟩ (e ▸ hb')⟩, fun _ _ h => h, by simp [Rel]⟩
  · simp only [execOp, ho, e3, Instr.storeAt, Instr.sureAddr, Sem.run_bind, Sem.run_pure, Result.andThen_ok, storeVar, hs]
    rw [if_neg (by rw [k1, hn]; simp)]
    rw [hrun]
    rfl
  · rw [← g2]
    simp only [List.size_toArray, List.length_append, List.length_take, List.length_drop, hlen, Array.length_toList]
    omega
  · rw [x7 (by omega)]
    simp only [List.size_toArray, List.length_append, List.length_take, List.length_drop, hlen, Array.length_toList]
    omega
  · refine wc (g := fun i => c[i]?) (u := fun i => (a.eval y).cells[i]?) (by omega) g4 k2 (fun i hi hio => ?_) (fun j hj => ?_)
    · simp only [List.getElem?_toArray]
      rcases hio with hio | hio
      · rw [List.append_assoc, List.getElem?_append_left (by simp; omega), List.getElem?_take, if_pos hio, Array.getElem?_toList]
      · rw [List.getElem?_append_right (by simp; omega), List.getElem?_drop, Array.getElem?_toList]
        congr 1
        simp only [List.length_append, List.length_take, Array.length_toList, k1, hn]
        omega
    · simp only [List.getElem?_toArray]
      rw [List.append_assoc, List.getElem?_append_right (by simp; omega), List.getElem?_append_left (by simp; omega), Array.getElem?_toList]
      congr 1
      simp
      omega
theorem tL {t n : TypeId} {x y : Operand} {h off : Nat} {r : Reg} {vs : List V} [ht : Ag P t n] (ho : o.op = .store t x y) (hx : ρ x = .ptr h off) (hy : ρ y = .agg vs) (hn : vs.length = n) (h1 : ∀ c ∈ vs, uU c = true) (hr : H[h]? = some r) (hm : r.mode = 0) (hc : off + n ≤ r.cells.length) : zh P o ρ H (.k undef) (H.set h { r with cells := yT r.cells off vs }) :=
  xY ht.s ho hx (by rw [hy]; rfl) hn h1 hr hm hc
inductive Bd (ρ : Operand → V) : Option Operand → Int → Int → Prop where
  | no (d : Int) : Bd ρ none d d
  | yes {y : Operand} {k : IntKind} {j : Int} (d : Int) (h : ρ y = .k (.int k j)) : Bd ρ (some y) d j
theorem vi {a : Act} {lo : Option Operand} {d j : Int} (hb : Bd ρ lo d j) (hh : ∀ y, lo = some y → Rel A w φ (ρ y) (a.eval y)) : (lo = none ∧ j = d) ∨ ∃ k, lo.map a.eval = some (.int k j) := by
  cases hb with
  | no => exact Or.inl ⟨rfl, rfl⟩
  | yes d h => exact Or.inr ⟨_, by rw [Option.map_some, wa h (hh _ rfl)]⟩
theorem sM {P : Program} {w : World} {a : Act} {lo hi : Option Operand} {l h : Int} {len cap : Nat} (isSl : Bool) (hlo : (lo = none ∧ l = 0) ∨ ∃ k, lo.map a.eval = some (.int k l)) (hhi : (hi = none ∧ h = len) ∨ ∃ k, hi.map a.eval = some (.int k h))
    (h0 : 0 ≤ l) (h1 : l ≤ h) (h2 : h ≤ cap) : (Instr.sliceBounds isSl len cap (lo.map a.eval) (hi.map a.eval) none).run P w = .ok (l.toNat, h.toNat, cap) w := by
  have eh : (h.toNat : Int) = h := Int.toNat_of_nonneg (by omega)
  rcases hlo with ⟨rfl, rfl⟩ | ⟨k, hlo⟩
  · rcases hhi with ⟨rfl, rfl⟩ | ⟨k', hhi⟩
    · simp [Instr.sliceBounds]
    · simp [Instr.sliceBounds, hhi, run_sliceBound, (by omega : 0 ≤ h), h2]
  · rcases hhi with ⟨rfl, rfl⟩ | ⟨k', hhi⟩
    · simp [Instr.sliceBounds, hlo, run_sliceBound, h0, h1]
    · simp [Instr.sliceBounds, hlo, hhi, run_sliceBound, (by omega : 0 ≤ h), h2, eh, h0, h1]
theorem vo {P : Program} {w : World} {a : Act} {lo hi : Option Operand} {l h : Int} {t e n b len cap : Nat} {ad : Option Addr} [ht : Sl P t e n b] (hlo : (lo = none ∧ l = 0) ∨ ∃ k, lo.map a.eval = some (.int k l)) (hhi : (hi = none ∧ h = len) ∨ ∃ k, hi.map a.eval = some (.int k h))
    (h0 : 0 ≤ l) (h1 : l ≤ h) (h2 : h ≤ cap) : (Instr.sliceAt t (.slice ad len cap) (lo.map a.eval) (hi.map a.eval) none).run P w = .ok (.slice (if cap = l.toNat then ad else ad.map (·.add (l.toNat * n))) (h.toNat - l.toNat) (cap - l.toNat)) w := by
  obtain ⟨i, z, i1, i2, _⟩ := ht.i
  have := sM (P := P) (w := w) true hlo hhi h0 h1 h2
  simp [Instr.sliceAt, run_underlying ht.u, Instr.slice, this, sizeOf, typeInfo, i1, i2]
theorem wC {t e n b m : Nat} {x : Operand} {lo hi : Option Operand} {l h : Int} {cs : List V} [ht : Sl P t e n b] (ho : o.op = .slice t x lo hi none) (hx : ρ x = .lst m cs) (hlo : Bd ρ lo 0 l) (hhi : Bd ρ hi m h) (hl : cs.length = m * n)
    (h0 : 0 ≤ l) (h1 : l ≤ h) (h2 : h ≤ m) : zh P o ρ H (.lst (h.toNat - l.toNat) ((cs.drop (l.toNat * n)).take ((h.toNat - l.toNat) * n))) H := zl fun A φ a w hok hh => by
  have hx1 := hh x (by simp [ho, Op.operands])
  have b1 := vi hlo (fun y hy => hh y (by simp [ho, Op.operands, hy]))
  have b2 := vi hhi (fun y hy => hh y (by simp [ho, Op.operands, hy]))
  rw [hx, Rel] at hx1
  obtain ⟨ad, cap, e1, e2, e3, e4⟩ := hx1
  have hpos := ht.pos
  have hr := vo (P := P) (w := w) (ad := ad) (cap := cap) (t := t) b1 b2 h0 h1 (by omega)
  have hl2 : ((cs.drop (l.toNat * n)).take ((h.toNat - l.toNat) * n)).length = (h.toNat - l.toNat) * n := by
    have hle : h.toNat * n ≤ m * n := Nat.mul_le_mul_right _ (by omega)
    simp only [List.length_take, List.length_drop, hl, Nat.sub_mul]
    omega
  refine ⟨.slice (if cap = l.toNat then ad else ad.map (·.add (l.toNat * n))) (h.toNat - l.toNat) (cap - l.toNat), ?_, ?_⟩
  rotate_left
  · rw [Rel]
    refine ⟨_, _, rfl, by omega, ?_, ?_⟩
    · rw [hl2]; exact Nat.le_mul_of_pos_right _ hpos
    · by_cases hz : h.toNat - l.toNat = 0
      · left
        rw [hz, Nat.zero_mul, List.take_zero]
      · right
        rcases e4 with e4 | ⟨bb, q, rfl, hA, hr'⟩
        · subst e4; simp at e3; omega
        · refine ⟨bb, q + l.toNat * n, ?_, hA, ?_⟩
          · rw [if_neg (by omega)]
            simp [Addr.plus]
          · have := ya (yS hr' (l.toNat * n)) ((h.toNat - l.toNat) * n)
            simpa [Nat.add_assoc] using this
  · simp only [execOp, ho, e1, Option.map_none]
    rw [Sem.run_bind, hr]
    rfl
theorem yf {t e n b m hh0 off : Nat} {x : Operand} {lo hi : Option Operand} {l h : Int} {r : Reg} [ht : Sl P t e n b] (ho : o.op = .slice t x lo hi none) (hx : ρ x = .sl hh0 off m) (hr0 : H[hh0]? = some r) (hm : r.mode ≤ 1) (hes : r.esz = n) (hlo : Bd ρ lo 0 l) (hhi : Bd ρ hi m h)
    (h0 : 0 ≤ l) (h1 : l ≤ h) (h2 : h ≤ m) : zh P o ρ H (.sl hh0 (off + l.toNat) (h.toNat - l.toNat)) H := zl fun A φ a w hok hh => by
  have hx1 := hh x (by simp [ho, Op.operands])
  have b1 := vi hlo (fun y hy => hh y (by simp [ho, Op.operands, hy]))
  have b2 := vi hhi (fun y hy => hh y (by simp [ho, Op.operands, hy]))
  rw [hx, Rel] at hx1
  obtain ⟨hd, e1, ⟨e2, e3⟩ | ⟨p1, rfl, ad, e2⟩⟩ := hx1
  · obtain ⟨⟨f1, _⟩, f2⟩ := hok.regs hh0 hd r e1 hr0 hm
    have hr := vo (P := P) (w := w) (ad := hd.blk.map fun b => ⟨b, off * hd.esz, none⟩) (cap := hd.cap - off) (t := t) b1 b2 h0 h1 (by omega)
    refine ⟨.slice (if hd.cap - off = l.toNat then (hd.blk.map fun b => (⟨b, off * hd.esz, none⟩ : Addr)) else (hd.blk.map fun b => (⟨b, off * hd.esz, none⟩ : Addr)).map (·.add (l.toNat * n))) (h.toNat - l.toNat) (hd.cap - off - l.toNat), ?_, ?_⟩
    rotate_left
    · rw [Rel]
      refine ⟨hd, e1, ?_⟩
      by_cases hz : hd.cap - off = l.toNat ∧ 0 < off + l.toNat
      · exact Or.inr ⟨by omega, by omega, _, by rw [show h.toNat - l.toNat = 0 by omega, show hd.cap - off - l.toNat = 0 by omega]⟩
      · refine Or.inl ⟨?_, by omega⟩
        by_cases hz2 : hd.cap - off = l.toNat
        · have : off = 0 ∧ l.toNat = 0 := by omega
          rw [if_pos hz2, this.1, this.2]
          simp
        · rw [if_neg hz2, Option.map_map]
          congr 1
          · congr 1
            funext b'
            simp only [Function.comp, Addr.plus, f1, hes, Nat.add_mul]
          · omega
    · simp only [execOp, ho, e2, Option.map_none]
      rw [Sem.run_bind, hr]
      rfl
  · have hl0 : l.toNat = 0 ∧ h.toNat = 0 := by omega
    have hr := vo (P := P) (w := w) (ad := ad) (cap := 0) (t := t) b1 b2 h0 h1 (by omega)
    refine ⟨.slice (if 0 = l.toNat then ad else ad.map (·.add (l.toNat * n))) (h.toNat - l.toNat) (0 - l.toNat), ?_, ?_⟩
    rotate_left
    · rw [Rel]
      exact ⟨hd, e1, Or.inr ⟨by omega, by omega, _, by rw [show h.toNat - l.toNat = 0 by omega, Nat.zero_sub]⟩⟩
    · simp only [execOp, ho, e2, Option.map_none]
      rw [Sem.run_bind, hr]
      rfl
inductive Src (H : List Reg) : V → Nat → List V → Prop where
  | lst (n : Nat) (cs : List V) : Src H (.lst n cs) n cs
  | sl {h off m : Nat} {r : Reg} (hr : H[h]? = some r) (hm : r.mode ≤ 1) (hl : (off + m) * r.esz ≤ r.cells.length) : Src H (.sl h off m) m ((r.cells.drop (off * r.esz)).take (m * r.esz))
  | nil : Src H (.k (.slice none 0 0)) 0 []
theorem tT {v : V} {m : Nat} {src : List V} {x : Value} (hs : Src H v m src) (hok : HeapOk A w φ H) (hr : Rel A w φ v x) : ∃ ad c, x = .slice ad m c ∧ (src = [] ∨ ∃ b q, ad = some ⟨b, q, none⟩ ∧ zZ A w φ src (fun i => w.cell? ⟨b, q + i, none⟩)) := by
  cases hs with
  | lst n cs =>
    rw [Rel] at hr
    obtain ⟨ad, cap, rfl, _, _, h⟩ := hr
    refine ⟨ad, cap, rfl, ?_⟩
    rcases h with h | ⟨b, q, h1, _, h2⟩
    · exact Or.inl h
    · exact Or.inr ⟨b, q, h1, zZ.mono (fun b hb => ⟨hb, rfl⟩) (fun h hd hh => by simp at hh) h2⟩
  | sl hr0 hm hl =>
    rename_i h off r
    rw [Rel] at hr
    obtain ⟨hd, e1, ⟨e2, e3⟩ | ⟨p1, rfl, ad, e2⟩⟩ := hr
    · obtain ⟨⟨f1, _⟩, f2⟩ := hok.regs _ hd r e1 hr0 hm
      cases hb : hd.blk with
      | none =>
        rw [hb] at f2 e2
        refine ⟨_, _, e2, Or.inl ?_⟩
        rw [f2.1]; simp
      | some b =>
        rw [hb] at e2
        refine ⟨_, _, e2, Or.inr ⟨b, _, rfl, ?_⟩⟩
        have := ya (yS (yu hok e1 hr0 hm hb) (off * r.esz)) (m * r.esz)
        rw [f1]
        exact this
    · exact ⟨ad, 0, e2, Or.inl (by simp)⟩
  | nil =>
    simp only [Rel] at hr
    exact ⟨none, 0, hr, Or.inl rfl⟩
theorem sa : ∀ {src : List V} {g : Nat → Option Value}, zZ A w φ src g → ∃ news : List Value, news.length = src.length ∧ (∀ j u, news[j]? = some u → g j = some u) ∧ zZ A w φ src (fun i => news[i]?)
  | [], g, h => ⟨[], rfl, fun j u hu => by simp at hu, by rw [zZ]; trivial⟩
  | c :: cs, g, h => by
    rw [zZ] at h
    obtain ⟨⟨y, h1, h2⟩, h3⟩ := h
    obtain ⟨news, k1, k2, k3⟩ := sa h3
    refine ⟨y :: news, by simp [k1], fun j u hu => ?_, by rw [zZ]; exact ⟨⟨y, rfl, h2⟩, k3⟩⟩
    cases j with
    | zero => simp at hu; subst hu; exact h1
    | succ j => exact k2 j u (by simpa using hu)
theorem pt {v : V} {m : Nat} {src : List V} {x : Value} (hs : Src H v m src) (hok : HeapOk A w φ H) (hr : Rel A w φ v x) (h1 : ∀ c ∈ src, uU c = true) : ∃ (ad : Option Addr) (c : Nat) (news : List Value), x = .slice ad m c ∧ news.length = src.length ∧ (∀ u ∈ news, u.oneCell' = true) ∧ zZ A w φ src (fun i => news[i]?) ∧
    (src = [] ∨ ∃ a, ad = some a ∧ ∀ j u, news[j]? = some u → w.cell? (a.add j) = some u) := by
  obtain ⟨ad, c, e, h⟩ := tT hs hok hr
  rcases h with h | ⟨b, q, rfl, hr'⟩
  · subst h
    exact ⟨ad, c, [], e, rfl, fun u hu => (by simp at hu), (by simp [zZ]), Or.inl rfl⟩
  · obtain ⟨news, k1, k2, k3⟩ := sa hr'
    refine ⟨_, c, news, e, k1, fun u hu => ?_, k3, Or.inr ⟨_, rfl, fun j u hu => by rw [Addr.plus]; exact k2 j u hu⟩⟩
    obtain ⟨j, hj⟩ := List.getElem?_of_mem hu
    have hlt : j < src.length := by rw [← k1]; exact (List.getElem?_eq_some_iff.1 hj).1
    obtain ⟨y, q1, q2⟩ := zz k3 (List.getElem?_eq_getElem hlt)
    have q1' : news[j]? = some y := q1
    rw [hj] at q1'
    cases q1'
    exact so q2 (h1 _ (List.getElem_mem hlt))
theorem InvA.addNil (hA : InvA C A φ H w) (e n : Nat) : InvA C A (φ ++ [⟨none, 0, n, e⟩]) (H ++ [⟨e, n, [], 0⟩]) w := by
  have hlen := hA.ok.len
  have hφ : ∀ (h : Nat) (hd : Hd), φ[h]? = some hd → (φ ++ [(⟨none, 0, n, e⟩ : Hd)])[h]? = some hd := fun h hd hh => z1 hh
  have hlive : ∀ h b', za (φ ++ [⟨none, 0, n, e⟩]) (H ++ [⟨e, n, [], 0⟩]) h b' → za φ H h b' := by
    rintro h b' ⟨hd, r, h1, h2, h3, h4⟩
    rcases getElem?_app h1 with p1 | ⟨p1, rfl⟩
    · rcases getElem?_app h2 with p2 | ⟨p2, rfl⟩
      · exact ⟨hd, r, p1, p2, h3, h4⟩
      · have := (List.getElem?_eq_some_iff.1 p1).1
        omega
    · cases h4
  refine ⟨⟨by simp [hlen], fun h hd r h1 h2 h3 => ?_, fun h h' b' h1 h2 => hA.ok.inj _ _ _ (hlive _ _ h1) (hlive _ _ h2), fun h b' h1 => hA.ok.apart _ _ (hlive _ _ h1), fun h hd r b' h1 h2 h3 h4 => ?_, hA.ok.low⟩, hA.old, fun h b' h1 => hA.own _ _ (hlive _ _ h1), hA.frame, fun h hd hh => hφ h hd (hA.pre h hd hh)⟩
  · rcases getElem?_app h1 with p1 | ⟨p1, rfl⟩
    · rcases getElem?_app h2 with p2 | ⟨p2, rfl⟩
      · obtain ⟨e1, e2⟩ := hA.ok.regs h hd r p1 p2 h3
        refine ⟨e1, ?_⟩
        cases hk : hd.blk with
        | none => rw [hk] at e2; exact e2
        | some b' =>
          rw [hk] at e2
          obtain ⟨c', k1, k2, k3, k4⟩ := e2
          exact ⟨c', k1, k2, k3, zZ.mono (fun b hb => ⟨hb, rfl⟩) hφ k4⟩
      · have := (List.getElem?_eq_some_iff.1 p1).1
        omega
    · rcases getElem?_app h2 with p2 | ⟨p2, rfl⟩
      · have := (List.getElem?_eq_some_iff.1 p2).1
        omega
      · exact ⟨⟨rfl, rfl, Nat.zero_le _⟩, rfl, rfl⟩
  · rcases getElem?_app h1 with p1 | ⟨p1, rfl⟩
    · rcases getElem?_app h2 with p2 | ⟨p2, rfl⟩
      · exact hA.ok.frz h hd r b' p1 p2 h3 h4
      · cases h3
    · cases h4
theorem xL {P : Program} {w : World} {t ty e n b k cap c : Nat} {base ad : Option Addr} [ht : Sl P t e n b] (hk : k ≤ cap) : (Builtin.append_ #[t, t] ty #[.slice base k cap, .slice ad 0 c]).run P w = .ok (.slice base k cap) w := by
  obtain ⟨i, z, i1, i2, i3, i4, i5⟩ := ht.i
  cases base <;> cases ad <;> simp [Builtin.append_, run_underlying ht.u, sizeOf, typeInfo, i1, Builtin.lenOf, Builtin.firstCells, hk, storeCells, loadCells, loadCellsFrom]
theorem nD {cs : List V} {news : List Value} (h : zZ A w φ cs (fun i => news[i]?)) (hl : news.length = cs.length) (pre : List V) (ps : List Value) (hp : zZ A w φ pre (fun i => ps[i]?)) (hpl : ps.length = pre.length) (z : Array Value) :
    zZ A w φ (pre ++ cs) (fun i => (ps.toArray ++ news.toArray ++ z)[i]?) := by
  refine yd (z7 hp fun i hi => ?_) (z7 h fun i hi => ?_)
  · rw [Array.append_assoc, Array.getElem?_append_left (by simp; omega)]
    simp
  · rw [Array.append_assoc, Array.getElem?_append_right (by simp; omega), Array.getElem?_append_left (by simp; omega)]
    simp [hpl]
theorem tR {s x : Operand} {t ty e n b h m k : Nat} {r : Reg} {src : List V} [ht : Sl P t e n b] (ho : o.op = .call { callee := .builtin .append, args := #[s, x], argTypes := #[t, t] })
    (hs : ρ s = .sl h 0 k) (hr : H[h]? = some r) (hm : r.mode = 0) (he : r.e = e) (hes : r.esz = n) (hk : k * n ≤ r.cells.length) (hx : Src H (ρ x) m src) (hsl : src.length = m * n) (h1 : ∀ c ∈ src, uU c = true)
    (hb : (k + m) * b ≤ 140737488355328) (hmax : k + m ≤ maxLen) : zh P o ρ H (.sl H.length 0 (k + m)) (H.set h { r with mode := 2 } ++ [⟨e, n, r.cells.take (k * n) ++ src, 0⟩]) := y7 fun C A φ a w hA hh => by
  have hs1 := hh s (by simp [ho, Op.operands, Call.operands])
  have hx1 := hh x (by simp [ho, Op.operands, Call.operands])
  obtain ⟨ad, c, news, ex, n1, n2, n3, n4⟩ := pt hx hA.ok hx1 h1
  rw [hs, Rel] at hs1
  obtain ⟨hd, e1, ⟨e2, e3⟩ | ⟨p1, _⟩⟩ := hs1
  rotate_left
  · omega
  obtain ⟨⟨f1, f2, f3⟩, f4⟩ := hA.ok.regs h hd r e1 hr (by omega)
  obtain ⟨i, z, i1, i2, i3, i4, i5⟩ := ht.i
  have hpos := ht.pos
  subst he
  have hlive : ∀ g, hd.blk = some g → za φ H h g := fun g hg => ⟨hd, r, e1, hr, hm, hg⟩
  have hK := hA.kill hr
  have hklen : (H.set h { r with mode := 2 }).length = H.length := by simp
  have hsmall : k + m ≤ 9223372036854775807 := by simp only [maxLen] at hmax; omega
  have hnl : news.length = m * n := n1.trans hsl
  have hzs : z.cells.size = n := i5
  have hop : ∀ (v : Value) (w' : World), (Builtin.append_ #[t, t] o.type #[a.eval s, a.eval x]).run P w = .ok v w' → (execOp a.eval o).run P w = .ok (.value v) w' := fun v w' hv => by
    simp only [execOp, ho, resolve, Sem.run_bind]
    simp [invoke, builtin, hv]
  have hnew : ∀ (olds : List Value) (cap : Nat), olds.length = k * n → zZ A w φ (r.cells.take (k * n)) (fun i => olds[i]?) → k + m ≤ cap → cap ≤ maxLen →
      (Builtin.append_ #[t, t] o.type #[a.eval s, a.eval x]).run P w = .ok (.slice (some ⟨w.heap.size, 0, none⟩) (k + m) cap) ((w.drewN 1).alloc (.cells (olds.toArray ++ news.toArray ++ Builtin.zeroCells z.cells (cap - (k + m))) r.e)) →
      ∃ x w' A' φ', ((execOp a.eval o).run P w = .ok (.value x) w' ∨ ((execOp a.eval o).run P w = .ok .skip w' ∧ x = undef)) ∧ InvA C A' φ' (H.set h { r with mode := 2 } ++ [⟨r.e, n, r.cells.take (k * n) ++ src, 0⟩]) w' ∧ (∀ b, A b → A' b ∧ w'.heap[b]? = w.heap[b]?) ∧ (∀ (h : Nat) (hd : Hd), φ[h]? = some hd → φ'[h]? = some hd) ∧ Rel A' w' φ' (.sl H.length 0 (k + m)) x := fun olds cap ol or hc1 hc2 hrun => by
    have hsz : (olds.toArray ++ news.toArray ++ Builtin.zeroCells z.cells (cap - (k + m))).size = cap * n := by
      simp only [Array.size_append, List.size_toArray, size_zeroCells, hzs, ol, hnl, ← Nat.add_mul]
      congr 1
      omega
    have hcl : (r.cells.take (k * n) ++ src).length = (k + m) * n := by simp only [List.length_append, List.length_take, hsl, Nat.add_mul]; omega
    refine ⟨_, _, A, φ ++ [⟨some w.heap.size, cap, n, r.e⟩], Or.inl (hop _ _ hrun), wZ hK hsz hc2 (by rw [hcl, hsz]; exact Nat.mul_le_mul_right _ hc1) (nD n3 n1 _ _ or (by simp [ol]; omega) _) 1, xV hA _ 1, fun h hd hh => z1 hh, ?_⟩
    have := uw (H := H.set h { r with mode := 2 }) hK (hd := ⟨some w.heap.size, cap, n, r.e⟩) rfl hc1 ((w.drewN 1).alloc (.cells (olds.toArray ++ news.toArray ++ Builtin.zeroCells z.cells (cap - (k + m))) r.e))
    rw [hklen] at this
    exact this
  cases hblk : hd.blk with
  | none =>
    rw [hblk] at f4 e2
    obtain ⟨g1, g2⟩ := f4
    have hk0 : k = 0 := by omega
    subst hk0
    have e2' : a.eval s = .slice none 0 0 := by rw [e2, g2]; rfl
    rcases n4 with n4 | ⟨ad', rfl, n4⟩
    · have hm0 : m = 0 := by
        rw [n4] at hsl
        rcases Nat.mul_eq_zero.1 (show m * n = 0 by simpa using hsl.symm) with h | h
        · exact h
        · omega
      subst hm0
      subst n4
      have hrun := xL (P := P) (w := w) (t := t) (ty := o.type) (base := none) (ad := ad) (c := c) (Nat.le_refl 0)
      refine ⟨.slice none 0 0, w, A, φ ++ [⟨none, 0, n, r.e⟩], Or.inl (hop _ _ (by rw [e2', ex]; exact hrun)), ?_, fun b hb => ⟨hb, rfl⟩, fun h hd hh => z1 hh, ?_⟩
      · have := hK.addNil r.e n
        simpa [g1] using this
      · rw [Rel]
        refine ⟨⟨none, 0, n, r.e⟩, ?_, Or.inl ⟨rfl, by simp⟩⟩
        rw [← hA.ok.len]
        simp
    · by_cases hm0 : m = 0
      · subst hm0
        have hs0 : src = [] := List.length_eq_zero_iff.1 (by simpa using hsl)
        subst hs0
        have hrun := xL (P := P) (w := w) (t := t) (ty := o.type) (base := none) (ad := some ad') (c := c) (Nat.le_refl 0)
        refine ⟨.slice none 0 0, w, A, φ ++ [⟨none, 0, n, r.e⟩], Or.inl (hop _ _ (by rw [e2', ex]; exact hrun)), ?_, fun b hb => ⟨hb, rfl⟩, fun h hd hh => z1 hh, ?_⟩
        · have := hK.addNil r.e n
          simpa [g1] using this
        · rw [Rel]
          refine ⟨⟨none, 0, n, r.e⟩, ?_, Or.inl ⟨rfl, by simp⟩⟩
          rw [← hA.ok.len]
          simp
      · have hrun := run_append_nil (P := P) w t o.type r.e i z ht.u i1 i4 ad' m c news (by rw [hnl, i2]) n4 (by omega) (by omega) (by rw [i3]; simp only [Nat.zero_add] at hb; omega)
        refine hnew [] (grownCap w m 0 r.e) (by simp) (by simp [zZ]) (by simpa using grownCap_ge w m 0 r.e) (grownCap_le_maxLen w m 0 r.e (by omega)) ?_
        rw [e2', ex, hrun]
        simp [World.drewN_drew, World.drew_is_drewN]
  | some g =>
    rw [hblk] at f4 e2
    obtain ⟨cur, g1, g2, g3, g4⟩ := f4
    have e2' : a.eval s = .slice (some ⟨g, 0, none⟩) k hd.cap := by rw [e2]; simp
    have hlg := hlive g hblk
    have hfree : ∀ h', ¬ za φ (H.set h { r with mode := 2 }) h' g := fun h' ⟨hd', r', q1, q2, q3, q4⟩ => by
      rcases getElem?_set' q2 with ⟨_, rfl⟩ | ⟨hne, q2⟩
      · cases q3
      · exact hne (hA.ok.inj _ _ _ ⟨hd', r', q1, q2, q3, q4⟩ hlg)
    have hesz : hd.esz = n := f1.trans hes
    rw [hesz] at g2
    have hcl : (r.cells.take (k * n) ++ src).length = (k + m) * n := by simp only [List.length_append, List.length_take, hsl, Nat.add_mul]; omega
    have hin : ∀ (c' : Array Value) (w' : World), k + m ≤ hd.cap → (∀ i, i ≠ g → w'.heap[i]? = w.heap[i]?) → w'.heap.size = w.heap.size → w'.os = w.os → w'.tape = w.tape → w'.output = w.output → w'.heap[g]? = some (.cells c' r.e (0, 0)) → c'.size = hd.cap * n →
        zZ A w φ (r.cells.take (k * n) ++ src) (fun i => c'[i]?) → (Builtin.append_ #[t, t] o.type #[a.eval s, a.eval x]).run P w = .ok (.slice (some ⟨g, 0, none⟩) (k + m) hd.cap) w' →
        ∃ x w' A' φ', ((execOp a.eval o).run P w = .ok (.value x) w' ∨ ((execOp a.eval o).run P w = .ok .skip w' ∧ x = undef)) ∧ InvA C A' φ' (H.set h { r with mode := 2 } ++ [⟨r.e, n, r.cells.take (k * n) ++ src, 0⟩]) w' ∧ (∀ b, A b → A' b ∧ w'.heap[b]? = w.heap[b]?) ∧ (∀ (h : Nat) (hd : Hd), φ[h]? = some hd → φ'[h]? = some hd) ∧ Rel A' w' φ' (.sl H.length 0 (k + m)) x := fun c' w' hroom ho1 ho2 ho3 ho4 ho5 ho6 ho7 ho8 hrun => by
      refine ⟨_, w', A, φ ++ [⟨some g, hd.cap, n, r.e⟩], Or.inl (hop _ _ hrun), hK.add hfree (hA.ok.apart h g hlg) (fun i _ hi => ho1 i hi) (by rw [ho2]; exact Nat.le_refl _) (hA.own h g hlg) ho3 ho4 ho5 ho6 ho7 f3 (by rw [hcl, ho7]; exact Nat.mul_le_mul_right _ hroom) ho8,
        fun b' hb' => ⟨hb', ho1 b' fun e => hA.ok.apart h g hlg (e ▸ hb')⟩, fun h hd hh => z1 hh, ?_⟩
      have := uw (H := H.set h { r with mode := 2 }) hK (hd := ⟨some g, hd.cap, n, r.e⟩) rfl hroom w'
      rw [hklen] at this
      exact this
    have hpre : zZ A w φ (r.cells.take (k * n)) (fun i => cur[i]?) := ya g4 _
    by_cases hsrc : src = []
    · have hm0 : m = 0 := by
        rw [hsrc] at hsl
        rcases Nat.mul_eq_zero.1 (show m * n = 0 by simpa using hsl.symm) with h | h
        · exact h
        · omega
      subst hm0
      subst hsrc
      have hrun := xL (P := P) (w := w) (t := t) (ty := o.type) (base := some ⟨g, 0, none⟩) (ad := ad) (c := c) (show k ≤ hd.cap by omega)
      exact hin cur w (by omega) (fun _ _ => rfl) rfl rfl rfl rfl (by rw [g1, f2]) g2 (by rw [List.append_nil]; exact hpre) (by rw [e2', ex]; exact hrun)
    · rcases n4 with n4 | ⟨ad', rfl, n4⟩
      · exact absurd n4 hsrc
      · by_cases hroom : k + m ≤ hd.cap
        · have hfit : k * i.size + news.length ≤ cur.size := by rw [i2, hnl, g2, ← Nat.add_mul]; exact Nat.mul_le_mul_right _ hroom
          have hrun := run_append_room (P := P) w t o.type r.e i ht.u i1 g k hd.cap cur (by rw [g1, f2]) ad' m c news (by rw [hnl, i2]) n4 n2 hroom hfit
          rw [← e2', ← ex] at hrun
          rw [i2] at hfit hrun
          refine hin _ _ hroom (fun i hi => setRow_other w g i _ hi) (by simp) rfl rfl rfl (setRow_heap w g cur _ r.e (0, 0) (by rw [g1, f2])) ?_ ?_ hrun
          · rw [← g2]
            simp only [List.size_toArray, List.length_append, List.length_take, List.length_drop, Array.length_toList]
            omega
          · refine yd (z7 hpre fun j hj => ?_) (z7 n3 fun j hj => ?_)
            · simp only [List.length_take] at hj
              simp only [List.getElem?_toArray]
              rw [List.append_assoc, List.getElem?_append_left (by simp; omega), List.getElem?_take, if_pos (by omega), Array.getElem?_toList]
            · simp only [List.getElem?_toArray]
              rw [List.append_assoc, List.getElem?_append_right (by simp; omega), List.getElem?_append_left (by simp; omega)]
              congr 1
              simp
              omega
        · have holds : ∀ j u, (cur.toList.take (k * n))[j]? = some u → w.cell? ((⟨g, 0, none⟩ : Addr).add j) = some u := fun j u hu => by
            rw [List.getElem?_take] at hu
            split at hu
            · rw [Addr.plus, Nat.zero_add, cell_of_row w g j cur hd.e (0, 0) g1, ← Array.getElem?_toList]
              exact hu
            · cases hu
          have hol : (cur.toList.take (k * n)).length = k * n := by
            simp only [List.length_take, Array.length_toList, g2]
            have := Nat.mul_le_mul_right n (show k ≤ hd.cap by omega)
            omega
          have hrun := run_append_grow (P := P) w t o.type r.e i z ht.u i1 i4 ⟨g, 0, none⟩ k hd.cap (cur.toList.take (k * n)) (by rw [hol, i2]) holds ad' m c news (by rw [hnl, i2]) n4 (by omega) (by omega) (growslice_fits (by omega) (by rw [i3]; exact hb))
          refine hnew _ (grownCap w (k + m) hd.cap r.e) hol (z7 hpre fun j hj => ?_) (grownCap_ge w (k + m) hd.cap r.e) (grownCap_le_maxLen w (k + m) hd.cap r.e hmax) ?_
          · simp only [List.length_take] at hj
            rw [List.getElem?_take, if_pos (by omega), Array.getElem?_toList]
          · rw [e2', ex, hrun]
            simp [World.drewN_drew, World.drew_is_drewN]
end
end Go.Proofs.Ytkcicbigpbdjpaa.Ab
namespace Go.Proofs.Ytkcicbigpbdjpaa.Ab
open Go.RowKit
class Ent (P : Program) (f : FuncId) : Prop where
  e : ∀ args w, (callFunc f args).run P w = .ok (.enter f args) w
theorem zL {P : Program} {f : FuncId} {fn : Func} (hf : P.funcs[f]? = some fn) (hb : fn.body.isSome = true) (hn : (fn.name == "runtime.NumGoroutine") = false) : Ent P f := ⟨fun args w => by
  have hb' : fn.body.isNone = false := by cases h : fn.body <;> simp_all
  simp only [callFunc, Sem.run_bind, run_program, Result.andThen_ok, hf, hn, hb', Bool.false_eq_true, if_false, Sem.run_pure]⟩
mutual
def shV (k : Nat) : V → V
  | .sl h off len => .sl (h + k) off len
  | .ptr h off => .ptr (h + k) off
  | .agg cs => .agg (va k cs)
  | .tup cs => .tup (va k cs)
  | .fn f cs => .fn f (va k cs)
  | .k v => .k v
  | .lst n cs => .lst n cs
  | .pref cs => .pref cs
  | .any => .any
def va (k : Nat) : List V → List V
  | [] => []
  | c :: cs => shV k c :: va k cs
end
section
variable {A A' : Nat → Prop} {w w' : World} {φ φ' : List Hd} {H : List Reg}
theorem xi (k : Nat) : ∀ cs : List V, (va k cs).length = cs.length
  | [] => rfl
  | c :: cs => by simp [va, xi k cs]
mutual
theorem sd : ∀ {v : V} {x : Value}, Rel A w φ' v x → Rel A w (φ ++ φ') (shV φ.length v) x
  | .k v, x, h => by simp only [shV, Rel] at h ⊢; exact h
  | .lst n cs, x, h => by simp only [shV, Rel] at h ⊢; exact h
  | .pref cs, x, h => by simp only [shV, Rel] at h ⊢; exact h
  | .any, x, h => by simp only [shV, Rel]
  | .sl i off len, x, h => by
    simp only [shV, Rel] at h ⊢
    obtain ⟨hd, h1, h2⟩ := h
    exact ⟨hd, by rw [List.getElem?_append_right (Nat.le_add_left _ _), Nat.add_sub_cancel]; exact h1, h2⟩
  | .ptr i off, x, h => by
    simp only [shV, Rel] at h ⊢
    obtain ⟨hd, b, h1, h2⟩ := h
    exact ⟨hd, b, by rw [List.getElem?_append_right (Nat.le_add_left _ _), Nat.add_sub_cancel]; exact h1, h2⟩
  | .agg cs, x, h => by
    rw [shV, Rel]
    rw [Rel] at h
    obtain ⟨xs, e1, e2, h2⟩ := h
    exact ⟨xs, e1, e2.trans (xi _ _).symm, ws h2⟩
  | .tup cs, x, h => by
    rw [shV, Rel]
    rw [Rel] at h
    obtain ⟨xs, e1, e2, h2⟩ := h
    exact ⟨xs, e1, e2.trans (xi _ _).symm, ws h2⟩
  | .fn f cs, x, h => by
    rw [shV, Rel]
    rw [Rel] at h
    obtain ⟨xs, e1, e2, h2⟩ := h
    exact ⟨xs, e1, e2.trans (xi _ _).symm, ws h2⟩
theorem ws : ∀ {cs : List V} {g : Nat → Option Value}, zZ A w φ' cs g → zZ A w (φ ++ φ') (va φ.length cs) g
  | [], g, h => by rw [va, zZ]; trivial
  | c :: cs, g, h => by
    rw [va, zZ]
    rw [zZ] at h
    obtain ⟨⟨y, h1, h2⟩, h3⟩ := h
    exact ⟨⟨y, h1, sd h2⟩, ws h3⟩
end
mutual
theorem xj : ∀ {v : V} {x : Value}, noH v = true → Rel A w φ v x → Rel A w φ' v x
  | .k u, x, hn, h => by simp only [Rel] at h ⊢; exact h
  | .lst n cs, x, hn, h => by simp only [Rel] at h ⊢; exact h
  | .pref cs, x, hn, h => by simp only [Rel] at h ⊢; exact h
  | .any, x, hn, h => by simp only [Rel]
  | .agg cs, x, hn, h => by
    rw [Rel] at h ⊢
    obtain ⟨xs, e1, e2, h2⟩ := h
    exact ⟨xs, e1, e2, wU (by simpa only [noH] using hn) h2⟩
  | .tup cs, x, hn, h => by
    rw [Rel] at h ⊢
    obtain ⟨xs, e1, e2, h2⟩ := h
    exact ⟨xs, e1, e2, wU (by simpa only [noH] using hn) h2⟩
  | .fn f cs, x, hn, h => by
    rw [Rel] at h ⊢
    obtain ⟨xs, e1, e2, h2⟩ := h
    exact ⟨xs, e1, e2, wU (by simpa only [noH] using hn) h2⟩
  | .sl _ _ _, x, hn, h => by simp [noH] at hn
  | .ptr _ _, x, hn, h => by simp [noH] at hn
theorem wU : ∀ {cs : List V} {g : Nat → Option Value}, noHs cs = true → zZ A w φ cs g → zZ A w φ' cs g
  | [], g, hn, h => by simp only [zZ]
  | c :: cs, g, hn, h => by
    simp only [noHs, Bool.and_eq_true] at hn
    rw [zZ] at h ⊢
    obtain ⟨⟨y, h1, h2⟩, h3⟩ := h
    exact ⟨⟨y, h1, xj hn.1 h2⟩, wU hn.2 h3⟩
end
theorem yy {cs : List V} {g : Nat → Option Value} (hn : NoH cs) (h : zZ A w φ cs g) : zZ A w φ' cs g :=
  zv.2 fun i c hc => by
    obtain ⟨y, h1, h2⟩ := zz h hc
    exact ⟨y, h1, xj (hn c (List.mem_of_getElem? hc)) h2⟩
mutual
theorem se (k : Nat) : ∀ {v : V}, noH v = true → shV k v = v
  | .k u, _ => rfl
  | .lst n cs, _ => rfl
  | .pref cs, _ => rfl
  | .any, _ => rfl
  | .agg cs, h => by rw [shV, wu k (by simpa only [noH] using h)]
  | .tup cs, h => by rw [shV, wu k (by simpa only [noH] using h)]
  | .fn f cs, h => by rw [shV, wu k (by simpa only [noH] using h)]
  | .sl _ _ _, h => by simp [noH] at h
  | .ptr _ _, h => by simp [noH] at h
theorem wu (k : Nat) : ∀ {cs : List V}, noHs cs = true → va k cs = cs
  | [], _ => rfl
  | c :: cs, h => by
    simp only [noHs, Bool.and_eq_true] at h
    rw [va, se k h.1, wu k h.2]
end
mutual
inductive Pur (live : Bool) (H : List Reg) : V → V → Prop where
  | same {v : V} (h : noH v = true) : Pur live H v v
  | any {v : V} : Pur live H v .any
  | nil : Pur live H (.k (.slice none 0 0)) (.lst 0 [])
  | sl {h off m : Nat} {r : Reg} {cs : List V} (hr : H[h]? = some r) (hm : r.mode = 1 ∨ (live = true ∧ r.mode = 0)) (hN : NoH r.cells) (he : 0 < r.esz) (hl : (off + m) * r.esz ≤ r.cells.length) (hc : cs = (r.cells.drop (off * r.esz)).take (m * r.esz)) : Pur live H (.sl h off m) (.lst m cs)
  | ptr {h off : Nat} {r : Reg} {cs : List V} (hr : H[h]? = some r) (hm : r.mode = 1 ∨ (live = true ∧ r.mode = 0)) (hN : NoH r.cells) (hc : cs = r.cells.drop off) : Pur live H (.ptr h off) (.pref cs)
  | slN {h off m : Nat} {r : Reg} {cs : List V} (hr : H[h]? = some r) (hm : r.mode = 1 ∨ (live = true ∧ r.mode = 0)) (he : 0 < r.esz) (hl : (off + m) * r.esz ≤ r.cells.length) (hc : Purs live H ((r.cells.drop (off * r.esz)).take (m * r.esz)) cs) : Pur live H (.sl h off m) (.lst m cs)
  | agg {cs ds : List V} (h : Purs live H cs ds) : Pur live H (.agg cs) (.agg ds)
  | fn {f : FuncId} {cs ds : List V} (h : Purs live H cs ds) : Pur live H (.fn f cs) (.fn f ds)
  | tup {cs ds : List V} (h : Purs live H cs ds) : Pur live H (.tup cs) (.tup ds)
inductive Purs (live : Bool) (H : List Reg) : List V → List V → Prop where
  | nil : Purs live H [] []
  | cons {c d : V} {cs ds : List V} (h : Pur live H c d) (hs : Purs live H cs ds) : Purs live H (c :: cs) (d :: ds)
end
theorem Purs.length {live : Bool} : ∀ {cs ds : List V}, Purs live H cs ds → cs.length = ds.length
  | [], _, h => by cases h; rfl
  | c :: cs, _, h => by cases h with | cons h hs => simp [Purs.length hs]
theorem xd {h : Nat} {hd : Hd} {r : Reg} {b : Nat} (hok : HeapOk A w φ H) (hφ : φ[h]? = some hd) (hH : H[h]? = some r) (hm : r.mode ≤ 1) (hb : hd.blk = some b) : b < w.heap.size := by
  obtain ⟨_, e2⟩ := hok.regs h hd r hφ hH hm
  rw [hb] at e2
  obtain ⟨c, k1, _⟩ := e2
  exact (Array.getElem?_eq_some_iff.1 k1).1
mutual
theorem Pur.rel {live : Bool} (hok : HeapOk A w φ H) (hA : ∀ b, A b → A' b) (hlive : live = true → ∀ h b, za φ H h b → A' b) : ∀ {v v' : V} {x : Value}, Pur live H v v' → Rel A w φ v x → Rel A' w [] v' x
  | v, _, x, .same h, hr => Rel.mono (fun b hb => ⟨hA b hb, rfl⟩) (fun _ _ h => h) (xj h hr)
  | v, _, x, .any, hr => by simp only [Rel]
  | _, _, x, .nil, hr => by
    simp only [Rel] at hr ⊢
    exact ⟨none, 0, hr, Nat.le_refl _, Nat.le_refl _, Or.inl trivial⟩
  | .sl h off m, .lst _ cs, x, .sl (r := r) h1 hm hN he hl hc, hr => by
    simp only [Rel] at hr ⊢
    have hlen : cs.length = m * r.esz := by
      subst hc
      simp only [List.length_take, List.length_drop, Nat.add_mul] at hl ⊢
      omega
    have hle : m ≤ cs.length := by rw [hlen]; exact Nat.le_mul_of_pos_right _ he
    obtain ⟨hd, e1, ⟨e2, e3⟩ | ⟨p1, p2, ad, e2⟩⟩ := hr
    · refine ⟨_, _, e2, by omega, hle, ?_⟩
      cases hb : hd.blk with
      | none =>
        obtain ⟨_, f2⟩ := hok.regs h hd r e1 h1 (by rcases hm with hm | hm <;> omega)
        rw [hb] at f2
        left
        rw [hc, f2.1]
        simp
      | some b =>
        right
        obtain ⟨⟨f1, _⟩, _⟩ := hok.regs h hd r e1 h1 (by rcases hm with hm | hm <;> omega)
        refine ⟨b, _, rfl, ?_, ?_⟩
        · rcases hm with hm | ⟨hm, hm'⟩
          · exact hA b (hok.frz h hd r b e1 h1 hm hb)
          · exact hlive hm h b ⟨hd, r, e1, h1, hm', hb⟩
        · have := ya (yS (yu hok e1 h1 (by rcases hm with hm | hm <;> omega) hb) (off * r.esz)) (m * r.esz)
          rw [← hc, ← f1] at this
          refine zZ.mono (fun b hb => ⟨hA b hb, rfl⟩) (fun _ _ h => h) (yy (fun c hc' => hN c ?_) this)
          rw [hc] at hc'
          exact List.mem_of_mem_drop (List.mem_of_mem_take hc')
    · subst p2
      refine ⟨ad, 0, e2, Nat.zero_le _, Nat.zero_le _, Or.inl ?_⟩
      rw [hc]
      simp
  | .sl h off m, .lst _ cs, x, .slN (r := r) h1 hm he hl hc, hr => by
    simp only [Rel] at hr ⊢
    have hlen : cs.length = m * r.esz := by
      rw [← Purs.length hc]
      simp only [List.length_take, List.length_drop, Nat.add_mul] at hl ⊢
      omega
    have hle : m ≤ cs.length := by rw [hlen]; exact Nat.le_mul_of_pos_right _ he
    obtain ⟨hd, e1, ⟨e2, e3⟩ | ⟨p1, p2, ad, e2⟩⟩ := hr
    · refine ⟨_, _, e2, by omega, hle, ?_⟩
      cases hb : hd.blk with
      | none =>
        obtain ⟨_, f2⟩ := hok.regs h hd r e1 h1 (by rcases hm with hm | hm <;> omega)
        rw [hb] at f2
        left
        have := Purs.length hc
        rw [f2.1] at this
        simp at this
        exact List.length_eq_zero_iff.1 this.symm
      | some b =>
        right
        obtain ⟨⟨f1, _⟩, _⟩ := hok.regs h hd r e1 h1 (by rcases hm with hm | hm <;> omega)
        refine ⟨b, _, rfl, ?_, ?_⟩
        · rcases hm with hm | ⟨hm, hm'⟩
          · exact hA b (hok.frz h hd r b e1 h1 hm hb)
          · exact hlive hm h b ⟨hd, r, e1, h1, hm', hb⟩
        · have := ya (yS (yu hok e1 h1 (by rcases hm with hm | hm <;> omega) hb) (off * r.esz)) (m * r.esz)
          have := Purs.rels hok hA hlive hc this
          rw [← f1] at this
          exact this
    · subst p2
      refine ⟨ad, 0, e2, Nat.zero_le _, Nat.zero_le _, Or.inl ?_⟩
      exact List.length_eq_zero_iff.1 (by rw [hlen]; simp)
  | .ptr h off, .pref cs, x, .ptr (r := r) h1 hm hN hc, hr => by
    simp only [Rel] at hr ⊢
    obtain ⟨hd, b, e1, e2, e3⟩ := hr
    refine ⟨b, off, e3, ?_, ?_⟩
    · rcases hm with hm | ⟨hm, hm'⟩
      · exact hA b (hok.frz h hd r b e1 h1 hm e2)
      · exact hlive hm h b ⟨hd, r, e1, h1, hm', e2⟩
    · have := yS (yu hok e1 h1 (by rcases hm with hm | hm <;> omega) e2) off
      rw [← hc] at this
      refine zZ.mono (fun b hb => ⟨hA b hb, rfl⟩) (fun _ _ h => h) (yy (fun c hc' => hN c ?_) this)
      rw [hc] at hc'
      exact List.mem_of_mem_drop hc'
  | .agg cs, .agg ds, x, .agg h, hr => by
    rw [Rel] at hr ⊢
    obtain ⟨xs, e1, e2, h2⟩ := hr
    exact ⟨xs, e1, e2.trans (Purs.length h), Purs.rels hok hA hlive h h2⟩
  | .fn f cs, .fn _ ds, x, .fn h, hr => by
    rw [Rel] at hr ⊢
    obtain ⟨xs, e1, e2, h2⟩ := hr
    exact ⟨xs, e1, e2.trans (Purs.length h), Purs.rels hok hA hlive h h2⟩
  | .tup cs, .tup ds, x, .tup h, hr => by
    rw [Rel] at hr ⊢
    obtain ⟨xs, e1, e2, h2⟩ := hr
    exact ⟨xs, e1, e2.trans (Purs.length h), Purs.rels hok hA hlive h h2⟩
theorem Purs.rels {live : Bool} (hok : HeapOk A w φ H) (hA : ∀ b, A b → A' b) (hlive : live = true → ∀ h b, za φ H h b → A' b) : ∀ {cs ds : List V} {g : Nat → Option Value}, Purs live H cs ds → zZ A w φ cs g → zZ A' w [] ds g
  | [], _, g, .nil, hr => by simp only [zZ]
  | c :: cs, _, g, .cons h hs, hr => by
    rw [zZ] at hr ⊢
    obtain ⟨⟨y, h1, h2⟩, h3⟩ := hr
    exact ⟨⟨y, h1, Pur.rel hok hA hlive h h2⟩, Purs.rels hok hA hlive hs h3⟩
end
theorem InvA.join {C : Cx} (hA : InvA C A φ H w) {K : List Reg} (hK : HeapOk A' w' φ' K) (hN : ∀ r ∈ K, NoH r.cells) (hA' : ∀ b, A' b → A b ∨ w.heap.size ≤ b) (hl : ∀ h b, za φ' K h b → w.heap.size ≤ b) (hoth : ∀ b, b < w.heap.size → w'.heap[b]? = w.heap[b]?)
    (hsz : w.heap.size ≤ w'.heap.size) (hos : w'.os = w.os) (htape : w'.tape = w.tape) (hout : w'.output = w.output) :
    InvA C (fun b => A b ∨ A' b) (φ ++ φ') (H ++ K) w' := by
  have hlen := hA.ok.len
  have hφ : ∀ (h : Nat) (hd : Hd), φ[h]? = some hd → (φ ++ φ')[h]? = some hd := fun h hd hh => z1 hh
  have hAm : ∀ b, A b → (A b ∨ A' b) ∧ w'.heap[b]? = w.heap[b]? := fun b hb => ⟨Or.inl hb, hoth b (hA.ok.low b hb)⟩
  have hsplit : ∀ (h : Nat) (hd : Hd) (r : Reg), (φ ++ φ')[h]? = some hd → (H ++ K)[h]? = some r → (φ[h]? = some hd ∧ H[h]? = some r) ∨ (∃ j, h = φ.length + j ∧ φ'[j]? = some hd ∧ K[j]? = some r) := fun h hd r h1 h2 => by
    rcases Nat.lt_or_ge h φ.length with hh | hh
    · rw [List.getElem?_append_left hh] at h1
      rw [List.getElem?_append_left (by omega)] at h2
      exact Or.inl ⟨h1, h2⟩
    · rw [List.getElem?_append_right hh] at h1
      rw [List.getElem?_append_right (by omega), ← hlen] at h2
      exact Or.inr ⟨h - φ.length, by omega, h1, h2⟩
  have hlive : ∀ h b, za (φ ++ φ') (H ++ K) h b → za φ H h b ∨ ∃ j, h = φ.length + j ∧ za φ' K j b := by
    rintro h b ⟨hd, r, h1, h2, h3, h4⟩
    rcases hsplit h hd r h1 h2 with ⟨p1, p2⟩ | ⟨j, p0, p1, p2⟩
    · exact Or.inl ⟨hd, r, p1, p2, h3, h4⟩
    · exact Or.inr ⟨j, p0, hd, r, p1, p2, h3, h4⟩
  have hlow : ∀ h b, za φ H h b → b < w.heap.size := fun h b ⟨hd, r, h1, h2, h3, h4⟩ => xd hA.ok h1 h2 (by omega) h4
  refine ⟨⟨by simp [hlen, hK.len], fun h hd r h1 h2 h3 => ?_, fun h h' b h1 h2 => ?_, fun h b h1 => ?_, fun h hd r b h1 h2 h3 h4 => ?_, fun b hb => ?_⟩, fun b hb => ?_, fun h b h1 => ?_, ?_, fun h hd hh => hφ h hd (hA.pre h hd hh)⟩
  · rcases hsplit h hd r h1 h2 with ⟨p1, p2⟩ | ⟨j, p0, p1, p2⟩
    · obtain ⟨e1, e2⟩ := hA.ok.regs h hd r p1 p2 h3
      refine ⟨e1, ?_⟩
      cases hk : hd.blk with
      | none => rw [hk] at e2; exact e2
      | some b =>
        rw [hk] at e2
        obtain ⟨c, k1, k2, k3, k4⟩ := e2
        exact ⟨c, (hoth b (xd hA.ok p1 p2 h3 hk)).trans k1, k2, k3, zZ.mono hAm hφ k4⟩
    · obtain ⟨e1, e2⟩ := hK.regs j hd r p1 p2 h3
      refine ⟨e1, ?_⟩
      cases hk : hd.blk with
      | none => rw [hk] at e2; exact e2
      | some b =>
        rw [hk] at e2
        obtain ⟨c, k1, k2, k3, k4⟩ := e2
        exact ⟨c, k1, k2, k3, zZ.mono (fun b hb => ⟨Or.inr hb, rfl⟩) (fun _ _ h => h) (yy (hN r (List.mem_of_getElem? p2)) k4)⟩
  · rcases hlive h b h1 with q1 | ⟨j, p1, q1⟩
    · rcases hlive h' b h2 with q2 | ⟨j', p2, q2⟩
      · exact hA.ok.inj _ _ _ q1 q2
      · have := hlow _ _ q1
        have := hl _ _ q2
        omega
    · rcases hlive h' b h2 with q2 | ⟨j', p2, q2⟩
      · have := hlow _ _ q2
        have := hl _ _ q1
        omega
      · rw [p1, p2, hK.inj _ _ _ q1 q2]
  · rcases hlive h b h1 with q1 | ⟨j, p1, q1⟩
    · rintro (hb | hb)
      · exact hA.ok.apart _ _ q1 hb
      · rcases hA' b hb with hb | hb
        · exact hA.ok.apart _ _ q1 hb
        · have := hlow _ _ q1
          omega
    · rintro (hb | hb)
      · have := hA.ok.low b hb
        have := hl _ _ q1
        omega
      · exact hK.apart _ _ q1 hb
  · rcases hsplit h hd r h1 h2 with ⟨p1, p2⟩ | ⟨j, p0, p1, p2⟩
    · exact Or.inl (hA.ok.frz h hd r b p1 p2 h3 h4)
    · exact Or.inr (hK.frz j hd r b p1 p2 h3 h4)
  · rcases hb with hb | hb
    · exact Nat.lt_of_lt_of_le (hA.ok.low b hb) hsz
    · exact hK.low b hb
  · rcases hb with hb | hb
    · exact hA.old b hb
    · rcases hA' b hb with hb | hb
      · exact hA.old b hb
      · exact Or.inr (Nat.le_trans hA.frame.size hb)
  · rcases hlive h b h1 with q1 | ⟨j, p1, q1⟩
    · exact hA.own _ _ q1
    · exact Or.inl (Nat.le_trans hA.frame.size (hl _ _ q1))
  · obtain ⟨f1, f2, f3, f4, f5⟩ := hA.frame
    exact ⟨hos.trans f1, htape.trans f2, hout.trans f3, Nat.le_trans f4 hsz, fun i hi hno => (hoth i (Nat.lt_of_lt_of_le hi f4)).trans (f5 i hi hno)⟩
end
section
variable {P : Program} {o : Oper} {ρ : Operand → V} {H : List Reg}
theorem vp {a : Act} {f : FuncId} {args : List Operand} {ats : Array TypeId} {w : World} [he : Ent P f] (ho : o.op = .call { callee := .value (.func f), args := args.toArray, argTypes := ats }) : (execOp a.eval o).run P w = .ok (.enter f (args.map a.eval).toArray) w := by
  obtain ⟨dst, op, type, pos, after, guard⟩ := o
  simp only at ho
  subst ho
  rw [execOp_call_go, he.e]
  simp
theorem uT {f : FuncId} {vs cargs : List V} {r : V} {K : List Reg} {al : Bool}
    (hrun : ∀ (A : Nat → Prop) (φ : List Hd) (a : Act) (w : World), HeapOk A w φ H → (∀ x ∈ o.op.operands, Rel A w φ (ρ x) (a.eval x)) → ∃ xs : Array Value, (execOp a.eval o).run P w = .ok (.enter f xs) w ∧ xs.size = vs.length ∧ zZ A w φ vs (fun i => xs[i]?))
    (hm : zi P f cargs [] r K al) (hargs : Purs (!al) H vs cargs) (hN : ∀ r ∈ K, NoH r.cells) : zh P o ρ H (shV H.length r) (H ++ K) := by
  intro S hS hρ C φ a w hI next Q hn
  obtain ⟨hm0, ⟨A, hA, hr⟩, hs, hd⟩ := hI
  subst hS
  obtain ⟨xs, hexec, hxl, hargr⟩ := hrun A φ a w hA.ok (fun x hx => by rw [← hρ x hx]; exact y9 hr x)
  let A1 : Nat → Prop := fun b => A b ∨ (al = false ∧ b < w.heap.size)
  have hok1 : HeapOk A1 w [] [] := ⟨rfl, fun h hd r h1 => by simp at h1, fun h h' b ⟨hd, r, h1, _⟩ => by simp at h1, fun h b ⟨hd, r, h1, _⟩ => by simp at h1, fun h hd r b h1 => by simp at h1, fun b hb => by
    rcases hb with hb | hb
    · exact hA.ok.low b hb
    · exact hb.2⟩
  have hargs1 : zZ A1 w [] cargs (fun i => xs[i]?) := Purs.rels hA.ok (fun b hb => Or.inl hb) (fun hl h b hb => Or.inr ⟨by cases al <;> simp_all, by obtain ⟨hd, r, q1, q2, q3, q4⟩ := hb; exact xd hA.ok q1 q2 (by omega) q4⟩) hargs hargr
  have hcall := hm A1 [] w xs hok1 hargs1 (hxl.trans (Purs.length hargs))
  unfold Oper.wp
  rw [hexec, Oper.upon_enter]
  refine hcall.mono ?_
  rintro e w' ⟨x, φ', A', rfl, k1, k2, k3, k4, k5, k6⟩
  have hfr : ∀ b, b < w.heap.size → w'.heap[b]? = w.heap[b]? := fun b hb => k5.block b hb (fun h ⟨hd, r, h1, _⟩ => by simp at h1)
  have hJ : InvA C (fun b => A b ∨ A' b) (φ ++ φ') (S.H ++ K) w' := hA.join k1 hN (fun b hb => by
      rcases k3 b hb with ⟨ha, hb | hb⟩ | hb
      · exact Or.inl hb
      · rw [ha] at hb; cases hb.1
      · exact Or.inr hb)
    (fun h b hl => by
      rcases k4 h b hl with h1 | ⟨h0, hd, r, h1, _⟩
      · exact h1
      · simp at h1) hfr k5.size k5.os k5.tape k5.output
  have hr' : zZ (fun b => A b ∨ A' b) w' (φ ++ φ') S.tmps (fun i => a.tmps[i]?) := zZ.mono (fun b hb => ⟨Or.inl hb, hfr b (hA.ok.low b hb)⟩) (fun h hd hh => z1 hh) hr
  have hx : Rel (fun b => A b ∨ A' b) w' (φ ++ φ') (shV S.H.length r) x := by
    rw [← hA.ok.len]
    exact sd (Rel.mono (fun b hb => ⟨Or.inr hb, rfl⟩) (fun _ _ h => h) k2)
  obtain ⟨h7, h8⟩ := xk (H := S.H ++ K) hs hr' hx o.dst
  refine hn x w' (φ ++ φ') ⟨by cases o.dst <;> exact hm0, ⟨_, ?_, h7⟩, h8, by cases o.dst <;> exact hd⟩
  rw [y4]
  exact hJ
theorem vr {A : Nat → Prop} {w : World} {φ : List Hd} {a : Act} {args : List Operand} (h : ∀ x ∈ args, Rel A w φ (ρ x) (a.eval x)) : zZ A w φ (args.map ρ) (fun i => (args.map a.eval).toArray[i]?) := zv.2 fun i c hc => by
  rw [List.getElem?_map] at hc
  cases hi : args[i]? with
  | none => rw [hi] at hc; simp at hc
  | some x =>
    rw [hi] at hc
    simp only [Option.map_some, Option.some.injEq] at hc
    subst hc
    exact ⟨a.eval x, by simp [hi], h x (List.mem_of_getElem? hi)⟩
theorem ua {f : FuncId} {args : List Operand} {ats : Array TypeId} {cargs : List V} {r : V} {K : List Reg} {al : Bool} [he : Ent P f] (ho : o.op = .call { callee := .value (.func f), args := args.toArray, argTypes := ats })
    (hm : zi P f cargs [] r K al) (hargs : Purs (!al) H (args.map ρ) cargs) (hN : ∀ r ∈ K, NoH r.cells) : zh P o ρ H (shV H.length r) (H ++ K) :=
  uT (fun A φ a w _ hh => ⟨_, vp ho, by simp, vr fun x hx => hh x (by rw [ho]; simp only [Op.operands, Call.operands]; simp [hx])⟩) hm hargs hN
end
end Go.Proofs.Ytkcicbigpbdjpaa.Ab
namespace Go.Proofs.Ytkcicbigpbdjpaa.Ab
open Go.RowKit
def nU : V → Bool
  | .k _ | .sl _ _ _ | .ptr _ _ | .any => true
  | .tup vs => vs.all fun v => match v with
    | .agg cs => cs.all fun c => match c with | .k _ | .sl _ _ _ | .any => true | _ => false
    | .k _ | .sl _ _ _ | .ptr _ _ | .any => true
    | _ => false
  | .agg cs => cs.all fun c => match c with | .k _ | .sl _ _ _ | .any => true | _ => false
  | _ => false
def qe (cs : List V) : Prop := ∀ c ∈ cs, ∃ v, c = .k v
section
variable {A A' : Nat → Prop} {w : World} {φ : List Hd}
theorem xc {c : V} {x : Value} (h : Rel A w φ c x) (hc : (match c with | .k _ | .sl _ _ _ | .ptr _ _ | .any => true | _ => false) = true) : Rel A' w φ c x := by
  cases c <;> simp at hc <;> simp only [Rel] at h ⊢ <;> exact h
theorem vL {cs : List V} {g : Nat → Option Value} (hf : ∀ c ∈ cs, ∀ x, Rel A w φ c x → Rel A' w φ c x) (h : zZ A w φ cs g) : zZ A' w φ cs g := zv.2 fun i c hc => by
  obtain ⟨y, h1, h2⟩ := zz h hc
  exact ⟨y, h1, hf c (List.mem_of_getElem? hc) y h2⟩
theorem tp {cs : List V} {x : Value} (hf : (cs.all fun c => match c with | .k _ | .sl _ _ _ | .any => true | _ => false) = true) (h : Rel A w φ (.agg cs) x) : Rel A' w φ (.agg cs) x := by
  rw [Rel] at h ⊢
  obtain ⟨xs, e1, e2, h2⟩ := h
  refine ⟨xs, e1, e2, vL (fun c hc x hx => xc hx ?_) h2⟩
  have := List.all_eq_true.1 hf c hc
  cases c <;> simp at this ⊢
theorem nT {v : V} {x : Value} (hf : nU v = true) (h : Rel A w φ v x) : Rel A' w φ v x := by
  cases v with
  | agg cs => exact tp hf h
  | tup vs =>
    rw [Rel] at h ⊢
    obtain ⟨xs, e1, e2, h2⟩ := h
    refine ⟨xs, e1, e2, vL (fun c hc x hx => ?_) h2⟩
    have := List.all_eq_true.1 hf c hc
    cases c with
    | agg cs => exact tp this hx
    | _ => first | exact xc hx rfl | (simp at this)
  | k u => exact xc h rfl
  | sl a b c => exact xc h rfl
  | ptr a b => exact xc h rfl
  | any => exact xc h rfl
  | lst n cs => cases hf
  | pref cs => cases hf
  | fn f cs => cases hf
theorem kj {cs : List V} {g : Nat → Option Value} (hf : qe cs) (h : zZ A w φ cs g) : zZ A' w φ cs g := vL (fun c hc x hx => by
  obtain ⟨v, rfl⟩ := hf c hc
  exact xc hx rfl) h
end
theorem vD {al : Bool} {r v : V} {K : List Reg} {S : St} (ψ : List Nat) (hfix : ∀ i, i < S.m → ψ[i]? = some i) (hH : HLe ψ K S.H) (hr : Le ψ r v)
    (hal : al = true ∨ (nU r = true ∧ ∀ q ∈ K, q.mode ≠ 1 ∧ (q.mode = 0 → qe q.cells))) : Out al r K v S := by
  intro C A φ w x hm hA hv
  obtain ⟨φ', h1, h2, h3, h4⟩ := hH.ok hA.ok
  have hown : ∀ h b, za φ' K h b → C.w0.heap.size ≤ b ∨ ∃ h0, za C.φ0 C.H0 h0 b := fun h b hl => by
    obtain ⟨h', hl'⟩ := h4 h b hl
    exact hA.own h' b hl'
  have hpre : ∀ (h : Nat) (hd : Hd), C.φ0[h]? = some hd → φ'[h]? = some hd := fun i hd hi =>
    h2 i i (hfix i (by rw [← hm]; exact (List.getElem?_eq_some_iff.1 hi).1)) hd (hA.pre i hd hi)
  rcases hal with hal | ⟨hf, hK⟩
  · exact ⟨φ', A, h3, Le.rel h2 hr hv, fun b hb => (hA.old b hb).imp (fun h => ⟨hal, h⟩) id, hown, hpre⟩
  · refine ⟨φ', fun _ => False, ⟨h3.len, fun h hd q q1 q2 q3 => ?_, h3.inj, fun _ _ _ h => h, fun h hd q b q1 q2 q3 q4 => absurd q3 (hK q (List.mem_of_getElem? q2)).1, fun _ h => h.elim⟩, nT hf (Le.rel h2 hr hv), fun _ h => h.elim, hown, hpre⟩
    obtain ⟨e1, e2⟩ := h3.regs h hd q q1 q2 q3
    have hq := hK q (List.mem_of_getElem? q2)
    refine ⟨e1, ?_⟩
    cases hb : hd.blk with
    | none => rw [hb] at e2; exact e2
    | some b =>
      rw [hb] at e2
      obtain ⟨c, k1, k2, k3, k4⟩ := e2
      exact ⟨c, k1, k2, k3, kj (hq.2 (by have := hq.1; omega)) k4⟩
theorem my {H : List Reg} : HLe [] [] H := ⟨rfl, List.nodup_nil, fun i h hi => by simp at hi⟩
theorem mw {h : Nat} {r r' : Reg} {H : List Reg} (hh : H[h]? = some r') (hm : r'.mode = r.mode) (he : r'.esz = r.esz) (hee : r'.e = r.e) (hc : Les [h] r.cells r'.cells) : HLe [h] [r] H :=
  ⟨rfl, by simp, fun i h' hi => by
    cases i with
    | zero => simp at hi; subst hi; exact ⟨r, r', rfl, hh, fun _ => ⟨hm, he, hee, hc⟩⟩
    | succ i => simp at hi⟩
mutual
theorem ms {ψ ψ' : List Nat} : ∀ {c d : V}, noH c = true → Le ψ c d → Le ψ' c d
  | .k _, d, hq, h => by simp only [Le] at h ⊢; exact h
  | .lst _ _, d, hq, h => by simp only [Le] at h ⊢; exact h
  | .pref _, d, hq, h => by simp only [Le] at h ⊢; exact h
  | .any, d, hq, h => by simp only [Le]
  | .agg cs, d, hq, h => by
    rw [Le] at h ⊢
    obtain ⟨ds, e, h1⟩ := h
    exact ⟨ds, e, wY (by simpa only [noH] using hq) h1⟩
  | .tup cs, d, hq, h => by
    rw [Le] at h ⊢
    obtain ⟨ds, e, h1⟩ := h
    exact ⟨ds, e, wY (by simpa only [noH] using hq) h1⟩
  | .fn f cs, d, hq, h => by
    rw [Le] at h ⊢
    obtain ⟨ds, e, h1⟩ := h
    exact ⟨ds, e, wY (by simpa only [noH] using hq) h1⟩
  | .sl _ _ _, d, hq, h => by simp [noH] at hq
  | .ptr _ _, d, hq, h => by simp [noH] at hq
theorem wY {ψ ψ' : List Nat} : ∀ {cs ds : List V}, noHs cs = true → Les ψ cs ds → Les ψ' cs ds
  | [], ds, _, h => by rw [Les] at h ⊢; exact h
  | c :: cs, ds, hq, h => by
    simp only [noHs, Bool.and_eq_true] at hq
    rw [Les] at h ⊢
    obtain ⟨d, ds', rfl, l1, l2⟩ := h
    exact ⟨d, ds', rfl, ms hq.1 l1, wY hq.2 l2⟩
end
structure Ty (α : Type) where
  n : Nat
  enc : α → List V
  len : ∀ a, (enc a).length = n
  pos : 0 < n
  ok : ∀ a, ∀ c ∈ enc a, uU c = true ∧ noH c = true
def Ty.flat {α : Type} (t : Ty α) (xs : List α) : List V := xs.flatMap t.enc
section
variable {α : Type} (t : Ty α)
theorem xU (x : α) (xs : List α) : t.flat (x :: xs) = t.enc x ++ t.flat xs := rfl
theorem wN (xs ys : List α) : t.flat (xs ++ ys) = t.flat xs ++ t.flat ys := by simp [Ty.flat]
theorem tn (x : α) : t.flat [x] = t.enc x := by simp [Ty.flat]
theorem zr (xs : List α) : (t.flat xs).length = xs.length * t.n := by
  induction xs with
  | nil => simp [Ty.flat]
  | cons x xs ih => rw [xU, List.length_append, t.len, ih, List.length_cons, Nat.succ_mul, Nat.add_comm]
theorem s8 (xs : List α) : ∀ c ∈ t.flat xs, uU c = true ∧ noH c = true := fun c hc => by
  obtain ⟨x, _, h⟩ := List.mem_flatMap.1 hc
  exact t.ok x c h
theorem zg (xs : List α) : NoH (t.flat xs) := fun c hc => (s8 t xs c hc).2
theorem pD (xs : List α) : ∀ c ∈ t.flat xs, uU c = true := fun c hc => (s8 t xs c hc).1
theorem xq (xs : List α) (i : Nat) : (t.flat xs).drop (i * t.n) = t.flat (xs.drop i) := by
  induction xs generalizing i with
  | nil => simp [Ty.flat]
  | cons x xs ih =>
    cases i with
    | zero => simp
    | succ i =>
      rw [xU, List.drop_succ_cons, ← ih i, Nat.succ_mul, Nat.add_comm, ← List.drop_drop]
      congr 1
      have := t.len x
      rw [List.drop_append, this]
      simp [List.drop_eq_nil_of_le (Nat.le_of_eq this)]
theorem y8 (xs : List α) (i : Nat) : (t.flat xs).take (i * t.n) = t.flat (xs.take i) := by
  induction xs generalizing i with
  | nil => simp [Ty.flat]
  | cons x xs ih =>
    cases i with
    | zero => simp [Ty.flat]
    | succ i =>
      rw [xU, List.take_succ_cons, xU, ← ih i, Nat.succ_mul, Nat.add_comm]
      have := t.len x
      rw [List.take_append, this]
      congr 1
      · rw [List.take_of_length_le (by omega)]
      · congr 1; omega
theorem tA {xs : List α} {i : Nat} {x : α} (h : xs[i]? = some x) : (t.flat xs).drop (i * t.n) = t.enc x ++ t.flat (xs.drop (i + 1)) := by
  rw [xq]
  obtain ⟨hlt, rfl⟩ := List.getElem?_eq_some_iff.1 h
  rw [List.drop_eq_getElem_cons hlt, xU]
theorem nS {xs : List α} {i : Nat} {x : α} (h : i < xs.length) : yT (t.flat xs) (i * t.n) (t.enc x) = t.flat (xs.set i x) := by
  unfold yT
  rw [y8, t.len, show i * t.n + t.n = (i + 1) * t.n from (Nat.succ_mul _ _).symm, xq, ← tn, ← wN, ← wN]
  congr 1
  rw [List.set_eq_take_append_cons_drop, if_pos h]
  simp
end
abbrev yW {α : Type} (t : Ty α) (xs : List α) : V := .lst xs.length (t.flat xs)
abbrev xD {α : Type} (t : Ty α) (e : TypeId) (xs : List α) : Reg := ⟨e, t.n, t.flat xs, 0⟩
def evO (l : List V) : Operand → Option V
  | .tmp t => l[t]?
  | .const v => some (.k v)
  | .global g => some (.k (.pointer (some ⟨g, 0, none⟩)))
  | .func f => some (.k (.func (.func f) #[] #[]))
section
variable {P : Program} {ops : Array Oper} {Q : Exit → St → Prop} {rest : List Oper} {l : List V} {H H' K : List Reg} {m : Nat} {o : Oper}
theorem wg {x : Operand} {v : V} (h : evO l x = some v) : (⟨l, H, m⟩ : St).ev x = v := by
  cases x <;> simp_all [evO, St.ev]
theorem mh {x : Operand} {v : V} (ho : o.op = .move x) (hv : evO l x = some v) : zh P o (St.ev ⟨l, H, m⟩) K v K := by
  rw [← wg (H := H) (m := m) hv]; exact qk ho
theorem qq {x : Operand} {v : V} (ho : o.op = .assign x) (hv : evO l x = some v) : zh P o (St.ev ⟨l, H, m⟩) K v K := by
  rw [← wg (H := H) (m := m) hv]; exact tQ ho
theorem qo {c x y : Operand} {v : V} (ho : o.op = .pick c x y) (hc : (⟨l, H, m⟩ : St).ev c = .k (.bool true)) (hv : evO l x = some v) : zh P o (St.ev ⟨l, H, m⟩) K v K := by
  rw [← wg (H := H) (m := m) hv]; exact vm ho hc
theorem qp {c x y : Operand} {v : V} (ho : o.op = .pick c x y) (hc : (⟨l, H, m⟩ : St).ev c = .k (.bool false)) (hv : evO l y = some v) : zh P o (St.ev ⟨l, H, m⟩) K v K := by
  rw [← wg (H := H) (m := m) hv]; exact vX ho hc
theorem zM {R : St → Prop} {S : St} (h : R S) : sA R Q .normal S := h
theorem zO {R : St → Prop} {S : St} {i : Nat} (h : Q (.exit i) S) : sA R Q (.exit i) S := h
theorem zP {R : St → Prop} {S : St} (h : Q .ret S) : sA R Q .ret S := h
theorem zI {id : Nat} {S : St} (h : Q .normal S) : vT id Q .normal S := h
theorem zH {id : Nat} {S : St} (h : Q .ret S) : vT id Q .ret S := h
theorem zG {id : Nat} {S : St} (h : Q .normal S) : vT id Q (.exit id) S := by simpa [vT] using h
theorem yR {α : Type} {t : Ty α} {ty e n b : Nat} {x y : Operand} {k : IntKind} {j : Int} {ρ : Operand → V} {xs : List α} {z : α} [ht : Sl P ty e n b] (ho : o.op = .indexAddr ty x y) (hx : ρ x = yW t xs) (hn : t.n = n) (hy : ρ y = .k (.int k j)) (h0 : 0 ≤ j) (hz : xs[j.toNat]? = some z) :
    zh P o ρ K (.pref (t.enc z ++ t.flat (xs.drop (j.toNat + 1)))) K := by
  rw [← tA t hz, hn]
  exact wE ho hx hy h0 (by have := (List.getElem?_eq_some_iff.1 hz).1; omega)
end
end Go.Proofs.Ytkcicbigpbdjpaa.Ab
namespace Go.Proofs.Ytkcicbigpbdjpaa.Ab
open Go.RowKit
def k7 : TypeDesc → Bool
  | .struct _ | .array _ _ => true
  | _ => false
section
variable {P : Program} {t : TypeId}
theorem vh {α : Type} {f : TypeInfo → α} {a : α} (h : (P.info? t).map f = some a) : ∃ i, P.info? t = some i ∧ f i = a := by
  cases hi : P.info? t with
  | none => rw [hi] at h; cases h
  | some i => rw [hi] at h; exact ⟨i, rfl, by simpa using h⟩
theorem wG {e n b : Nat} {z : Value} (hu : P.underlying t = some (.slice e)) (hi : (P.info? e).map (fun i => (i.zero, i.size, i.bytes)) = some (some z, n, b)) (hz : z.cells.size = n) (hp : 0 < n) : Sl P t e n b := by
  obtain ⟨i, h1, h2⟩ := vh hi
  simp only [Prod.mk.injEq] at h2
  exact ⟨hu, ⟨i, z, h1, h2.2.1, h2.2.2, h2.1, hz⟩, hp⟩
theorem wr {n : Nat} (hi : (P.info? t).map (·.size) = some n) (w : World) : (sizeOf t).run P w = .ok n w := by
  obtain ⟨i, h1, h2⟩ := vh hi
  simp [sizeOf, typeInfo, h1, h2]
theorem tI {d : TypeDesc} (hu : P.underlying t = some d) (w : World) : (isAgg t).run P w = .ok (k7 d) w := by
  simp only [isAgg, Sem.run_bind, run_underlying hu, Result.andThen_ok]
  cases d <;> rfl
theorem xK {n : Nat} {fs : Array Field} (hu : P.underlying t = some (.struct fs)) (hi : (P.info? t).map (·.size) = some n) : Ag P t n := ⟨fun w => tI hu w, wr hi⟩
theorem yZ {d : TypeDesc} (hu : P.underlying t = some d) (hd : (k7 d) = false) (hi : (P.info? t).map (·.size) = some 1) : Sc P t := ⟨fun w => by rw [tI hu w, hd], wr hi⟩
theorem zx {f n off ft : Nat} {ag : Bool} {fs : Array Field} {d : TypeDesc} (hu : P.underlying t = some (.struct fs)) (hf : (fs[f]?).map (fun x => (x.offset, x.type)) = some (off, ft)) (hd : P.underlying ft = some d) (hi : (P.info? ft).map (·.size) = some n) (ha : (k7 d) = ag) (hp : 0 < n) : Fd P t f off n ag := by
  cases hx : fs[f]? with
  | none => rw [hx] at hf; cases hf
  | some fd =>
    rw [hx] at hf
    simp only [Option.map_some, Option.some.injEq, Prod.mk.injEq] at hf
    obtain ⟨rfl, rfl⟩ := hf
    exact ⟨⟨fs, hu, fd, hx, rfl, wr hi, fun w => by rw [tI hd w, ha]⟩, hp⟩
theorem z2 {z : Value} {zs : List Value} (hi : (P.info? t).map (·.zero) = some (some z)) (h : z.cells.toList = zs) : Ze P t zs := by
  obtain ⟨i, h1, h2⟩ := vh hi
  exact ⟨i, z, h1, h2, h⟩
theorem vt (w : World) : ∀ (l : List Field) (ps : List (Nat × Nat)), l.map (fun f => (P.info? f.type).map fun i => (f.offset, i.size)) = ps.map some →
    (List.mapM (fun f : Field => (do pure (f.offset, ← sizeOf f.type) : Sem (Nat × Nat))) l).run P w = .ok ps w
  | [], [], _ => rfl
  | [], p :: ps, h => by simp at h
  | f :: l, [], h => by simp at h
  | f :: l, p :: ps, h => by
    simp only [List.map_cons, List.cons.injEq] at h
    obtain ⟨i, h1, h2⟩ := vh h.1
    rw [List.mapM_cons]
    simp only [Sem.run_bind, wr (show (P.info? f.type).map (·.size) = some i.size by rw [h1]; rfl), Result.andThen_ok, Sem.run_pure, vt w l ps h.2, h2]
theorem xF {fs : Array Field} {ps : List (Nat × Nat)} (hu : P.underlying t = some (.struct fs)) (h : fs.toList.map (fun f => (P.info? f.type).map fun i => (f.offset, i.size)) = ps.map some) : Pl P t ps := ⟨⟨fs, hu, fun w => by
  obtain ⟨l⟩ := fs
  simp only [List.mapM_toArray, Sem.run_map]
  rw [vt w l ps h]
  rfl⟩⟩
end
end Go.Proofs.Ytkcicbigpbdjpaa.Ab
namespace Go.Proofs.Ytkcicbigpbdjpaa.Ab
open Go.RowKit
abbrev I (n : Int) : V := .k (.int .i64 n)
abbrev B (b : Bool) : V := .k (.bool b)
section
variable {P : Program} {ops : Array Oper} {Q : Exit → St → Prop} {rest : List Oper} {l : List V} {H H' K : List Reg} {m : Nat} {o : Oper} {ρ : Operand → V}
theorem uF {dst : Option Tmp} {op : Op} {ty : TypeId} {pos : String} {after : Array Edge} {j : Nat} {w b : Bool} {d : Tmp} (hj : (ops[j]?).bind (·.dst) = some d) (hd : l[d]? = some (B b))
    (ht : b = true → AOps P ops (⟨dst, op, ty, pos, after, some (j, w)⟩ :: rest) Q ⟨l.set d (B true), H, m⟩) (hf : b = false → AOps P ops (⟨dst, op, ty, pos, after, some (j, w)⟩ :: rest) Q ⟨l.set d (B false), H, m⟩) : AOps P ops (⟨dst, op, ty, pos, after, some (j, w)⟩ :: rest) Q ⟨l, H, m⟩ :=
  sZ (S := ⟨l, H, m⟩) d hd fun b' hb => by
    subst hb
    cases b' with
    | true => exact ht rfl
    | false => exact hf rfl
theorem xN {t : Tmp} {v r : V} (hv : evO l (.tmp t) = some v) (hf : (nU v && noH v) = true) (hr : v = r) : (Exit.ret = .ret ∨ Exit.ret = .normal) ∧ Out false r [] (vb ⟨l, H, 0⟩ [t]) ⟨l, H, 0⟩ := by
  subst hr
  simp only [Bool.and_eq_true] at hf
  refine ⟨Or.inl rfl, vD [] (fun i hi => absurd hi (Nat.not_lt_zero _)) my ?_ (Or.inr ⟨hf.1, fun q hq => by cases hq⟩)⟩
  have : vb ⟨l, H, 0⟩ [t] = v := wg (H := H) (m := 0) (x := .tmp t) hv
  rw [this]
  exact le_refl hf.2
theorem m7 {α : Type} {ty : Ty α} {e : TypeId} {xs ys : List α} {t : Tmp} {h n : Nat} {c : List V} {es : Nat} (hv : evO l (.tmp t) = some (.sl h 0 n)) (hH : H[h]? = some ⟨e, es, c, 0⟩) (he : es = ty.n) (hc : c = ty.flat xs) (hn : n = ys.length) (hr : xs = ys) (hf : qe (ty.flat ys)) :
    (Exit.ret = .ret ∨ Exit.ret = .normal) ∧ Out false (.sl 0 0 ys.length) [xD ty e ys] (vb ⟨l, H, 0⟩ [t]) ⟨l, H, 0⟩ := by
  subst hr
  subst hn
  subst he
  subst hc
  refine ⟨Or.inl rfl, vD [h] (fun i hi => absurd hi (Nat.not_lt_zero _)) (mw hH rfl rfl rfl (zf (zg ty xs))) ?_ (Or.inr ⟨rfl, fun q hq => by simp at hq; subst hq; exact ⟨(by simp), fun _ => hf⟩⟩)⟩
  have : vb ⟨l, H, 0⟩ [t] = .sl h 0 xs.length := wg (H := H) (m := 0) (x := .tmp t) hv
  rw [this, Le]
  exact ⟨h, rfl, rfl⟩
theorem zT {f : FuncId} {args : List Operand} {ats : Array TypeId} {cargs : List V} {r : V} {al : Bool} [he : Ent P f] (ho : o.op = .call { callee := .value (.func f), args := args.toArray, argTypes := ats })
    (hm : zi P f cargs [] r [] al) (hargs : Purs (!al) K (args.map ρ) cargs) (hr : noH r = true) : zh P o ρ K r K := by
  have h := ua ho hm hargs (fun q hq => by cases hq)
  rw [List.append_nil] at h
  rwa [se K.length hr] at h
theorem pur_l {α : Type} {t : Ty α} {live : Bool} {h : Nat} {e : TypeId} {xs : List α} (hr : H[h]? = some (xD t e xs)) (hl : live = true) : Pur live H (.sl h 0 xs.length) (yW t xs) :=
  Pur.sl hr (Or.inr ⟨hl, rfl⟩) (zg t xs) t.pos (by rw [zr, Nat.zero_add]; exact Nat.le_refl _) (by
    simp only [Nat.zero_mul, List.drop_zero]
    rw [← zr, List.take_length])
theorem tk {α : Type} {t : Ty α} {ty e e' n b h : Nat} {x y : Operand} {k : IntKind} {j : Int} {xs : List α} [ht : Sl P ty e n b] (ho : o.op = .indexAddr ty x y) (hx : ρ x = .sl h 0 xs.length) (hH : K[h]? = some (xD t e' xs)) (hn : t.n = n) (hy : ρ y = .k (.int k j)) (h0 : 0 ≤ j) (h1 : j < xs.length) :
    zh P o ρ K (.ptr h (j.toNat * n)) K := by
  have := sE (P := P) (ρ := ρ) (H := K) ho hx hH (Nat.zero_le _) hn hy h0 h1
  rwa [Nat.zero_add] at this
theorem xJ {α : Type} {t : Ty α} {ty e n b h : Nat} {s x : Operand} {xs ys : List α} [ht : Sl P ty e n b] (ho : o.op = .call { callee := .builtin .append, args := #[s, x], argTypes := #[ty, ty] })
    (hs : ρ s = .sl h 0 xs.length) (hH : K[h]? = some (xD t e xs)) (hn : t.n = n) (hx : Src K (ρ x) ys.length (t.flat ys)) (hb : (xs.length + ys.length) * b ≤ 140737488355328) (hbp : decide (0 < b) = true) :
    zh P o ρ K (.sl K.length 0 (xs ++ ys).length) (K.set h ⟨e, n, t.flat xs, 2⟩ ++ [⟨e, n, t.flat (xs ++ ys), 0⟩]) := by
  obtain ⟨i, z, i1, i2, i3, i4, i5⟩ := ht.i
  have hl : (t.flat xs).take (xs.length * n) = t.flat xs := by rw [← hn, ← zr, List.take_length]
  have hb0 : b ≠ 0 := by have := of_decide_eq_true hbp; omega
  · have := tR (P := P) (ρ := ρ) (ty := ty) ho hs hH rfl rfl hn (by show xs.length * n ≤ (t.flat xs).length; rw [zr, hn]; exact Nat.le_refl _) hx (by rw [zr, hn]) (pD t ys) hb (by
      have := Nat.le_mul_of_pos_right (xs.length + ys.length) (Nat.pos_of_ne_zero hb0)
      simp only [maxLen]
      omega)
    rw [List.length_append, wN]
    have e1 : (xD t e xs).cells.take (xs.length * n) = t.flat xs := hl
    rw [e1] at this
    rw [← hn] at this ⊢
    exact this
end
end Go.Proofs.Ytkcicbigpbdjpaa.Ab
namespace Go.Proofs.Ytkcicbigpbdjpaa.Ab
open Go.RowKit
structure Tab where
  ag : List (Nat × Nat)
  sc : List Nat
  fd : List ((Nat × Nat) × (Nat × Nat × Bool))
  ze : List (Nat × List Value)
  pl : List (Nat × List (Nat × Nat))
  sl : List (Nat × (Nat × Nat × Nat))
  ik : List (Nat × IntKind)
  str : List Nat
  bl : List Nat
structure TabOk (P : Program) (T : Tab) : Prop where
  ag : ∀ p ∈ T.ag, Ag P p.1 p.2
  sc : ∀ t ∈ T.sc, Sc P t
  fd : ∀ p ∈ T.fd, Fd P p.1.1 p.1.2 p.2.1 p.2.2.1 p.2.2.2
  ze : ∀ p ∈ T.ze, Ze P p.1 p.2
  pl : ∀ p ∈ T.pl, Pl P p.1 p.2
  sl : ∀ p ∈ T.sl, Sl P p.1 p.2.1 p.2.2.1 p.2.2.2
  ik : ∀ p ∈ T.ik, Ik P p.1 p.2
  str : ∀ t ∈ T.str, Str P t
  bl : ∀ t ∈ T.bl, P.underlying t = some .bool
def wA {α : Type} : List (Nat × α) → Nat → Option α
  | [], _ => none
  | (k, v) :: r, t => match Nat.beq k t with
    | true => some v
    | false => wA r t
def te {α : Type} : List ((Nat × Nat) × α) → Nat → Nat → Option α
  | [], _, _ => none
  | ((k, j), v) :: r, t, f => match Nat.beq k t && Nat.beq j f with
    | true => some v
    | false => te r t f
def u3 : List Nat → Nat → Bool
  | [], _ => false
  | k :: r, t => match Nat.beq k t with
    | true => true
    | false => u3 r t
theorem yb {α : Type} : ∀ {l : List (Nat × α)} {t : Nat} {v : α}, wA l t = some v → (t, v) ∈ l
  | [], _, _, h => by cases h
  | (k, u) :: r, t, v, h => by
    unfold wA at h
    split at h
    · rename_i hk
      cases h
      rw [Nat.eq_of_beq_eq_true hk]
      exact List.mem_cons_self ..
    · exact List.mem_cons_of_mem _ (yb h)
theorem vF {α : Type} : ∀ {l : List ((Nat × Nat) × α)} {t f : Nat} {v : α}, te l t f = some v → ((t, f), v) ∈ l
  | [], _, _, _, h => by cases h
  | ((k, j), u) :: r, t, f, v, h => by
    unfold te at h
    split at h
    · rename_i hk
      cases h
      simp only [Bool.and_eq_true] at hk
      rw [Nat.eq_of_beq_eq_true hk.1, Nat.eq_of_beq_eq_true hk.2]
      exact List.mem_cons_self ..
    · exact List.mem_cons_of_mem _ (vF h)
theorem xb : ∀ {l : List Nat} {t : Nat}, u3 l t = true → t ∈ l
  | [], _, h => by cases h
  | k :: r, t, h => by
    unfold u3 at h
    split at h
    · rename_i hk
      rw [Nat.eq_of_beq_eq_true hk]
      exact List.mem_cons_self ..
    · exact List.mem_cons_of_mem _ (xb h)
def uY : Nat → List V → Option (List V)
  | 0, _ => some []
  | _ + 1, [] => none
  | n + 1, c :: cs => match uY n cs with
    | some r => some (c :: r)
    | none => none
def vV : Nat → List V → Option (List V)
  | 0, cs => some cs
  | _ + 1, [] => none
  | n + 1, _ :: cs => vV n cs
def uq : Nat → List V → List V → Option (List V)
  | 0, [], cs => some cs
  | 0, _ :: _, [] => none
  | 0, v :: vs, _ :: cs => match uq 0 vs cs with
    | some r => some (v :: r)
    | none => none
  | _ + 1, _, [] => none
  | n + 1, vs, c :: cs => match uq n vs cs with
    | some r => some (c :: r)
    | none => none
def pv : List V → Nat → V → Option (List V)
  | [], _, _ => none
  | _ :: cs, 0, v => some (v :: cs)
  | c :: cs, n + 1, v => match pv cs n v with
    | some r => some (c :: r)
    | none => none
theorem wo : ∀ {n : Nat} {cs r : List V}, uY n cs = some r → r = cs.take n ∧ n ≤ cs.length
  | 0, _, _, h => by cases h; simp
  | n + 1, [], _, h => by cases h
  | n + 1, c :: cs, r, h => by
    unfold uY at h
    split at h
    · rename_i r' hr
      cases h
      obtain ⟨h1, h2⟩ := wo hr
      simp [h1, h2]
    · cases h
theorem w4 : ∀ {n : Nat} {cs r : List V}, vV n cs = some r → r = cs.drop n
  | 0, _, _, h => by cases h; rfl
  | n + 1, [], _, h => by cases h
  | n + 1, c :: cs, r, h => by
    unfold vV at h
    simpa using w4 h
theorem tu : ∀ {n : Nat} {cs r : List V}, vV n cs = some r → n ≤ cs.length
  | 0, _, _, h => Nat.zero_le _
  | n + 1, [], _, h => by cases h
  | n + 1, c :: cs, r, h => by
    unfold vV at h
    simpa using tu h
theorem vg : ∀ {n : Nat} {vs cs r : List V}, uq n vs cs = some r → r = yT cs n vs ∧ n + vs.length ≤ cs.length
  | 0, [], _, _, h => by unfold uq at h; cases h; simp [yT]
  | 0, _ :: _, [], _, h => by cases h
  | 0, v :: vs, c :: cs, r, h => by
    unfold uq at h
    split at h
    · rename_i r' hr
      cases h
      obtain ⟨h1, h2⟩ := vg hr
      simp only [yT, List.take_zero, List.nil_append, Nat.zero_add] at h1 ⊢
      subst h1
      simp only [Nat.zero_add, List.length_cons, Nat.add_le_add_iff_right] at h2 ⊢
      exact ⟨rfl, h2⟩
    · cases h
  | n + 1, vs, [], _, h => by cases vs <;> cases h
  | n + 1, vs, c :: cs, r, h => by
    unfold uq at h
    split at h
    · rename_i r' hr
      cases h
      obtain ⟨h1, h2⟩ := vg hr
      subst h1
      refine ⟨?_, by simp only [List.length_cons]; omega⟩
      simp [yT, Nat.succ_add]
    · cases h
theorem sg : ∀ {cs r : List V} {n : Nat} {v : V}, pv cs n v = some r → r = cs.set n v
  | [], _, _, _, h => by cases h
  | _ :: cs, _, 0, v, h => by unfold pv at h; cases h; rfl
  | c :: cs, r, n + 1, v, h => by
    unfold pv at h
    split at h
    · rename_i r' hr
      cases h
      rw [sg hr]
      rfl
    · cases h
def kr (T : Tab) (op : BinOp) (t : TypeId) (u v : Value) : Option Value :=
  match u, v with
  | .int k a, .int k' b => if k = k' then (match op with
      | .add => some (.int k (k.wrap (a + b)))
      | .sub => some (.int k (k.wrap (a - b)))
      | .mul => some (.int k (k.wrap (a * b)))
      | .quo => if b = 0 then none else some (.int k (k.wrap (a.tdiv b)))
      | .rem => if b = 0 then none else some (.int k (a.tmod b))
      | .lss => some (.bool (decide (a < b)))
      | .leq => some (.bool (decide (a ≤ b)))
      | .gtr => some (.bool (decide (b < a)))
      | .geq => some (.bool (decide (b ≤ a)))
      | .eql => some (.bool (decide (a = b)))
      | .neq => some (.bool (!decide (a = b)))
      | _ => none) else none
  | .bool a, .bool b => match op, u3 T.bl t with
      | .eql, true => some (.bool (a == b))
      | .neq, true => some (.bool (!(a == b)))
      | _, _ => none
  | .string a, .string b => match op with
      | .eql => some (.bool (a.toList == b.toList))
      | .neq => some (.bool (!(a.toList == b.toList)))
      | _ => none
  | _, _ => none
def unF (op : UnOp) (u : Value) : Option Value :=
  match op, u with
  | .not, .bool b => some (.bool (!b))
  | .neg, .int k n => some (.int k (k.wrap (0 - n)))
  | _, _ => none
def uO : List V → Bool
  | [] => true
  | c :: cs => match uU c with
    | true => uO cs
    | false => false
theorem wn : ∀ {cs : List V}, uO cs = true → ∀ c ∈ cs, uU c = true
  | [], _, c, hc => by cases hc
  | d :: cs, h, c, hc => by
    unfold uO at h
    split at h
    · rename_i hd
      rcases List.mem_cons.1 hc with rfl | hc
      · exact hd
      · exact wn h c hc
    · cases h
def qr : List Reg → Nat → Reg → Option (List Reg)
  | [], _, _ => none
  | _ :: cs, 0, v => some (v :: cs)
  | c :: cs, n + 1, v => match qr cs n v with
    | some r => some (c :: r)
    | none => none
theorem sf : ∀ {cs r : List Reg} {n : Nat} {v : Reg}, qr cs n v = some r → r = cs.set n v
  | [], _, _, _, h => by cases h
  | _ :: cs, _, 0, v, h => by unfold qr at h; cases h; rfl
  | c :: cs, r, n + 1, v, h => by
    unfold qr at h
    split at h
    · rename_i r' hr
      cases h
      rw [sf hr]
      rfl
    · cases h
def tr (place : Nat → Option (Nat × Nat)) (l : List V) (cells : List V) : List (Nat × Operand) → Option (List V)
  | [] => some cells
  | (i, x) :: rest => match place i, evO l x with
    | some (off, size), some v => match yi v with
      | some vs => match uq off vs cells, Nat.beq vs.length size with
        | some cs, true => tr place l cs rest
        | _, _ => none
      | none => none
    | _, _ => none
theorem uE {place : Nat → Option (Nat × Nat)} {l : List V} {H : List Reg} {m : Nat} : ∀ {ps : List (Nat × Operand)} {cells cs : List V}, tr place l cells ps = some cs → we place cells (ps.map fun p => (p.1, (⟨l, H, m⟩ : St).ev p.2)) = some cs
  | [], _, _, h => h
  | (i, x) :: ps, cells, cs, h => by
    unfold tr at h
    simp only [List.map_cons, we]
    split at h
    · rename_i off size v h1 h2
      split at h
      · rename_i vs h3
        split at h
        · rename_i cs' h4 h5
          obtain ⟨h6, h7⟩ := vg h4
          rw [h1, wg h2, h3]
          simp only
          rw [if_pos ⟨Nat.eq_of_beq_eq_true h5, h7⟩, ← h6]
          exact uE h
        · cases h
      · cases h
    · cases h
def mC (T : Tab) (l : List V) (H : List Reg) : Callee → List Operand → List TypeId → Option (V × List Reg)
  | .builtin .len, [x], [t] => match evO l x with
    | some (.lst n _) => (match wA T.sl t with
      | some _ => some (.k (.int .i64 n), H)
      | none => none)
    | some (.sl _ _ n) => (match wA T.sl t with
      | some _ => some (.k (.int .i64 n), H)
      | none => none)
    | some (.k (.slice _ n _)) => (match wA T.sl t with
      | some _ => some (.k (.int .i64 n), H)
      | none => none)
    | some (.k (.string s)) => (match u3 T.str t with
      | true => some (.k (.int .i64 s.size), H)
      | false => none)
    | _ => none
  | .builtin .max, [x, y], _ => match evO l x, evO l y with
    | some (.k (.int k a)), some (.k (.int _ b)) => some (.k (.int k (if b > a then b else a)), H)
    | _, _ => none
  | .builtin .min, [x, y], _ => match evO l x, evO l y with
    | some (.k (.int k a)), some (.k (.int _ b)) => some (.k (.int k (if b < a then b else a)), H)
    | _, _ => none
  | _, _, _ => none
def wq (T : Tab) (l : List V) (H : List Reg) : Op → Option (V × List Reg)
  | .move x | .assign x => match evO l x with
    | some v => some (v, H)
    | none => none
  | .pick c x y => match evO l c with
    | some (.k (.bool true)) => (match evO l x with
      | some v => some (v, H)
      | none => none)
    | some (.k (.bool false)) => (match evO l y with
      | some v => some (v, H)
      | none => none)
    | _ => none
  | .binOp op t x y _ => match evO l x, evO l y with
    | some (.k u), some (.k v) => (match kr T op t u v with
      | some r => some (.k r, H)
      | none => none)
    | _, _ => none
  | .unOp op _ x => match evO l x with
    | some (.k u) => (match unF op u with
      | some r => some (.k r, H)
      | none => none)
    | _ => none
  | .convert s d x => match evO l x, wA T.ik s, wA T.ik d with
    | some (.k (.int _ n)), some _, some k => some (.k (.int k (k.wrap n)), H)
    | _, _, _ => none
  | .extract x i => match evO l x with
    | some (.tup vs) => (match vs[i]? with
      | some v => some (v, H)
      | none => none)
    | _ => none
  | .load t x => match evO l x with
    | some (.pref cs) => (match u3 T.sc t, cs with
      | true, c :: _ => some (c, H)
      | true, [] => none
      | false, _ => (match wA T.ag t with
        | some n => (match uY n cs with
          | some r => some (.agg r, H)
          | none => none)
        | none => none))
    | some (.ptr h off) => (match H[h]? with
      | some r => (match Nat.ble r.mode 1 with
        | true => (match u3 T.sc t with
          | true => (match r.cells[off]? with
            | some c => some (c, H)
            | none => none)
          | false => (match wA T.ag t, vV off r.cells with
            | some n, some cs => (match uY n cs with
              | some r => some (.agg r, H)
              | none => none)
            | _, _ => none))
        | false => none)
      | none => none)
    | _ => none
  | .fieldAddr t x f => match te T.fd t f with
    | some (off, _, _) => (match evO l x with
      | some (.pref cs) => (match vV off cs with
        | some r => some (.pref r, H)
        | none => none)
      | some (.ptr h q) => some (.ptr h (q + off), H)
      | _ => none)
    | none => none
  | .field t x f => match te T.fd t f with
    | some (off, n, ag) => (match evO l x with
      | some (.agg cs) => (match ag with
        | false => (match cs[off]? with
          | some c => some (c, H)
          | none => none)
        | true => (match vV off cs with
          | some ds => (match uY n ds with
            | some r => some (.agg r, H)
            | none => none)
          | none => none))
      | _ => none)
    | none => none
  | .nilCheck x => match evO l x with
    | some (.ptr h q) => some (.ptr h q, H)
    | _ => none
  | .alloc t => match wA T.ze t with
    | some zs => some (.ptr H.length 0, H ++ [⟨t, zs.length, zs.map V.k, 0⟩])
    | none => none
  | .box t x => match evO l x with
    | some v => (match yi v with
      | some cs => some (.ptr H.length 0, H ++ [⟨t, cs.length, cs, 0⟩])
      | none => none)
    | none => none
  | .store t x y => match evO l x, evO l y with
    | some (.ptr h off), some v => (match yi v, H[h]? with
      | some vs, some r => (match uq off vs r.cells, r.mode, uO vs with
        | some cs, 0, true => (match (u3 T.sc t && Nat.beq vs.length 1) || (match wA T.ag t with
            | some n => Nat.beq vs.length n
            | none => false) with
          | true => (match qr H h ⟨r.e, r.esz, cs, 0⟩ with
            | some H' => some (.k undef, H')
            | none => none)
          | false => none)
        | _, _, _ => none)
      | _, _ => none)
    | _, _ => none
  | .build t ps => match wA T.ze t, wA T.pl t with
    | some zs, some pl => (match tr (pl[·]?) l (zs.map V.k) ps.toList with
      | some cs => some (.agg cs, H)
      | none => none)
    | _, _ => none
  | .buildSlice t len ps => match wA T.sl t with
    | some (e, n, _) => (match Nat.ble (len * n) 16777216, tr (fun i => some (i * n, n)) l (List.replicate (len * n) V.any) ps.toList with
      | true, some cs => (match Nat.beq cs.length (len * n) with
        | true => some (.sl H.length 0 len, H ++ [⟨e, n, cs, 0⟩])
        | false => none)
      | _, _ => none)
    | none => none
  | .call c => mC T l H c.callee c.args.toList c.argTypes.toList
  | _ => none
section
variable {P : Program} {T : Tab} {l : List V} {H H' : List Reg} {m : Nat} {o : Oper}
theorem lH {op : BinOp} {t t' : TypeId} {x y : Operand} {u v r : Value} (hT : TabOk P T) (ho : o.op = .binOp op t x y t') (hx : (⟨l, H, m⟩ : St).ev x = .k u) (hy : (⟨l, H, m⟩ : St).ev y = .k v) (h : kr T op t u v = some r) : zh P o (St.ev ⟨l, H, m⟩) H (.k r) H := by
  unfold kr at h
  split at h
  · split at h
    · rename_i hk
      subst hk
      split at h
      · cases h; exact pn ho hx hy
      · cases h; exact pX ho hx hy
      · cases h; exact pc ho hx hy
      · split at h
        · cases h
        · cases h; exact pY ho hx hy ‹_›
      · split at h
        · cases h
        · cases h; exact vl ho hx hy ‹_›
      · cases h; exact pf ho hx hy
      · cases h; exact ph ho hx hy
      · cases h; exact pi ho hx hy
      · cases h; exact pj ho hx hy
      · cases h; exact pk ho hx hy
      · cases h; exact pa ho hx hy
      · cases h
    · cases h
  · split at h
    · cases h; exact uZ ho hx hy (hT.bl _ (xb ‹_›))
    · cases h; exact qi ho hx hy (hT.bl _ (xb ‹_›))
    · cases h
  · split at h
    · cases h; exact ql ho hx hy
    · cases h; exact qh ho hx hy
    · cases h
  · cases h
theorem evk {x : Operand} {v : V} (h : evO l x = some v) : (⟨l, H, m⟩ : St).ev x = v := wg h
theorem pU (hT : TabOk P T) {t : TypeId} {x y : Operand} {h off : Nat} {v : V} {vs cs : List V} {r : Reg} (ho : o.op = .store t x y) (hx : evO l x = some (.ptr h off)) (hy : evO l y = some v) (hv : yi v = some vs) (hr : H[h]? = some r) (hc : uq off vs r.cells = some cs) (hm : r.mode = 0) (h1 : uO vs = true)
    (ht : (u3 T.sc t && Nat.beq vs.length 1 || match wA T.ag t with | some n => Nat.beq vs.length n | none => false) = true) (hH : qr H h ⟨r.e, r.esz, cs, 0⟩ = some H') : zh P o (St.ev ⟨l, H, m⟩) H (.k undef) H' := by
  obtain ⟨e1, e2⟩ := vg hc
  have e3 := sf hH
  subst e3
  have hreg : (⟨r.e, r.esz, cs, 0⟩ : Reg) = { r with cells := yT r.cells off vs } := by rw [e1, ← hm]
  rw [hreg]
  simp only [Bool.or_eq_true, Bool.and_eq_true] at ht
  rcases ht with ht | ht
  · have := hT.sc t (xb ht.1)
    have hl := Nat.eq_of_beq_eq_true ht.2
    exact xY this.s ho (evk hx) (by rw [evk hy]; exact hv) hl (wn h1) hr hm (by omega)
  · split at ht
    · rename_i n hn
      have := hT.ag _ (yb hn)
      have hl := Nat.eq_of_beq_eq_true ht
      exact xY this.s ho (evk hx) (by rw [evk hy]; exact hv) hl (wn h1) hr hm (by omega)
    · cases ht
theorem yx (hT : TabOk P T) {v : V} (h : wq T l H o.op = some (v, H')) : zh P o (St.ev ⟨l, H, m⟩) H v H' := by
  generalize ho : o.op = op at h
  cases op <;> simp only [wq] at h
  case move x => split at h <;> cases h; exact mh ho ‹_›
  case assign x => split at h <;> cases h; exact qq ho ‹_›
  case pick c x y =>
    split at h
    · split at h <;> cases h; exact qo ho (evk ‹_›) ‹_›
    · split at h <;> cases h; exact qp ho (evk ‹_›) ‹_›
    · cases h
  case binOp op t x y t' =>
    split at h
    · split at h <;> cases h; exact lH hT ho (evk ‹_›) (evk ‹_›) ‹_›
    · cases h
  case unOp op t x =>
    split at h
    · split at h
      · rename_i r hr
        cases h
        unfold unF at hr
        split at hr
        · cases hr; exact pZ ho (evk ‹evO l x = some _›)
        · cases hr; exact pb ho (evk ‹evO l x = some _›)
        · cases hr
      · cases h
    · cases h
  case convert s d x =>
    split at h
    · cases h
      have i1 := hT.ik _ (yb ‹wA T.ik s = some _›)
      have i2 := hT.ik _ (yb ‹wA T.ik d = some _›)
      exact qn ho (evk ‹evO l x = some _›)
    · cases h
  case extract x i =>
    split at h
    · split at h <;> cases h; exact uo ho (evk ‹_›) ‹_›
    · cases h
  case load t x =>
    split at h
    · rename_i cs hx
      split at h
      · rename_i c r hs
        cases h
        have := hT.sc t (xb hs)
        exact wD ho (evk hx)
      · cases h
      · split at h
        · rename_i n hn
          split at h
          · rename_i r hr
            cases h
            obtain ⟨e1, e2⟩ := wo hr
            subst e1
            have := hT.ag _ (yb hn)
            exact vY ho (evk hx) e2
          · cases h
        · cases h
    · rename_i hh off hx
      split at h
      · rename_i r hr
        split at h
        · rename_i hm
          split at h
          · rename_i hs
            split at h
            · rename_i c hc
              cases h
              have := hT.sc t (xb hs)
              exact xl ho (evk hx) hr (Nat.le_of_ble_eq_true hm) hc
            · cases h
          · split at h
            · rename_i n cs hn hd
              split at h
              · rename_i r' hr'
                cases h
                obtain ⟨e1, e2⟩ := wo hr'
                have e3 := w4 hd
                subst e3
                subst e1
                have := hT.ag _ (yb hn)
                have hle : off + n ≤ r.cells.length := by
                  simp only [List.length_drop] at e2
                  have hn0 : 0 < n ∨ n = 0 := by omega
                  rcases hn0 with h0 | h0
                  · omega
                  · subst h0
                    exact tu hd
                exact xZ ho (evk hx) hr (Nat.le_of_ble_eq_true hm) hle
              · cases h
            · cases h
        · cases h
      · cases h
    · cases h
  case fieldAddr t x f =>
    split at h
    · rename_i off n ag hf
      have := hT.fd _ (vF hf)
      split at h
      · rename_i cs hx
        split at h
        · rename_i r hr
          cases h
          have e := w4 hr
          subst e
          exact un (n := n) (ag := ag) ho (evk hx)
        · cases h
      · rename_i hh q hx
        cases h
        exact tP (n := n) (ag := ag) ho (evk hx)
      · cases h
    · cases h
  case field t x f =>
    split at h
    · rename_i off n ag hf
      have hfd := hT.fd _ (vF hf)
      split at h
      · rename_i cs hx
        cases ag with
        | false =>
          simp only at h
          split at h
          · rename_i c hc
            cases h
            exact sF (n := n) ho (evk hx) hc
          · cases h
        | true =>
          simp only at h
          split at h
          · rename_i ds hd
            split at h
            · rename_i r hr
              cases h
              obtain ⟨e1, e2⟩ := wo hr
              have e3 := w4 hd
              subst e3
              subst e1
              simp only [List.length_drop] at e2
              have hp := hfd.pos
              exact tO (n := n) ho (evk hx) (by simp only at hp; omega)
            · cases h
          · cases h
      · cases h
    · cases h
  case nilCheck x =>
    split at h
    · cases h; exact uS ho (evk ‹_›)
    · cases h
  case alloc t =>
    split at h
    · rename_i zs hz
      cases h
      have := hT.ze _ (yb hz)
      exact sK ho
    · cases h
  case box t x =>
    split at h
    · rename_i v hv
      split at h
      · rename_i cs hc
        cases h
        exact pm ho (by rw [evk hv]; exact hc) rfl
      · cases h
    · cases h
  case store t x y =>
    split at h
    · rename_i hh off v hx hy
      split at h
      · rename_i vs r hv hr
        split at h
        · rename_i cs hc hm h1
          split at h
          · rename_i ht
            split at h
            · rename_i H'' hH
              cases h
              exact pU hT ho hx hy hv hr hc hm h1 ht hH
            · cases h
          · cases h
        · cases h
      · cases h
    · cases h
  case build t ps =>
    split at h
    · rename_i zs pl hz hp
      split at h
      · rename_i cs hc
        cases h
        have i1 := hT.ze _ (yb hz)
        have i2 := hT.pl _ (yb hp)
        exact sJ (ps := ps.toList) (by simpa using ho) (uE hc)
      · cases h
    · cases h
  case buildSlice t len ps =>
    split at h
    · rename_i e n b hs
      have := hT.sl _ (yb hs)
      split at h
      · rename_i cs hle hc
        split at h
        · rename_i hl
          cases h
          exact vZ (b := b) (ps := ps.toList) (by simpa using ho) (Nat.le_of_ble_eq_true hle) (uE hc) (Nat.eq_of_beq_eq_true hl)
        · cases h
      · cases h
    · cases h
  case call c =>
    obtain ⟨callee, ⟨args⟩, ⟨ats⟩⟩ := c
    simp only at h
    unfold mC at h
    split at h
    · split at h
      · split at h
        · rename_i q hs
          cases h
          have := hT.sl _ (yb hs)
          exact um (e := q.1) (n := q.2.1) (b := q.2.2) (ty := 0) ho (evk ‹_›)
        · cases h
      · split at h
        · rename_i q hs
          cases h
          have := hT.sl _ (yb hs)
          exact tN (e := q.1) (n := q.2.1) (b := q.2.2) ho (evk ‹_›)
        · cases h
      · split at h
        · rename_i q hs
          cases h
          have := hT.sl _ (yb hs)
          exact sD (e := q.1) (n := q.2.1) (b := q.2.2) ho (evk ‹_›)
        · cases h
      · split at h
        · rename_i hs
          cases h
          have := hT.str _ (xb hs)
          exact ul ho (evk ‹_›)
        · cases h
      · cases h
    · split at h
      · cases h; exact pe ho (evk ‹_›) (evk ‹_›)
      · cases h
    · split at h
      · cases h; exact pd ho (evk ‹_›) (evk ‹_›)
      · cases h
    · cases h
  all_goals cases h
end
end Go.Proofs.Ytkcicbigpbdjpaa.Ab
namespace Go.Proofs.Ytkcicbigpbdjpaa.Ab
open Go.RowKit
theorem xS {α : Type} {p : α → Prop} : ∀ x ∈ ([] : List α), p x := fun x hx => by cases hx
theorem zB {α : Type} {p : α → Prop} {a : α} {l : List α} (h : p a) (t : ∀ x ∈ l, p x) : ∀ x ∈ a :: l, p x := fun x hx => by
  rcases List.mem_cons.1 hx with rfl | hx
  · exact h
  · exact t x hx
class TabC (P : Program) (T : outParam Tab) : Prop where
  ok : TabOk P T
  wide : P.follows .mixedOrders = true
def xg (l : List V) (H : List Reg) (dst : Option Tmp) (v : V) : Option (List V × List Reg) :=
  match dst with
  | some d => match pv l d v with
    | some l' => some (l', H)
    | none => none
  | none => some (l, H)
def wF (T : Tab) (ops : Array Oper) (o : Oper) (l : List V) (H : List Reg) : Option (List V × List Reg) :=
  match zw ops ⟨l, H, 0⟩ o with
  | some true => match wq T l H o.op with
    | some (v, H') => xg l H' o.dst v
    | none => none
  | some false => xg l H o.dst (.k undef)
  | none => none
def runA (T : Tab) (ops : Array Oper) : List Oper → List V → List Reg → Option (List V × List Reg)
  | [], l, H => some (l, H)
  | o :: os, l, H => match wF T ops o l H with
    | some (l', H') => runA T ops os l' H'
    | none => none
section
variable {P : Program} {T : Tab} {ops : Array Oper} {Q : Exit → St → Prop} {rest : List Oper} {l l' : List V} {H H' K : List Reg} {m : Nat} {o : Oper} {ρ : Operand → V}
theorem yI {dst : Option Tmp} {v : V} (h : xg l H dst v = some (l', H')) (m : Nat) : (⟨l, K, m⟩ : St).put dst v H = ⟨l', H', m⟩ := by
  unfold xg at h
  cases dst with
  | none => cases h; rfl
  | some d =>
    simp only at h
    split at h
    · rename_i r hr
      cases h
      rw [sg hr]
      rfl
    · cases h
theorem zd [hT : TabC P T] (h : wF T ops o l H = some (l', H')) (k : AOps P ops rest Q ⟨l', H', m⟩) : AOps P ops (o :: rest) Q ⟨l, H, m⟩ := by
  unfold wF at h
  split at h
  · rename_i hw
    split at h
    · rename_i v H'' hv
      refine uh (by exact hw) (yx (m := m) hT.ok hv) ?_
      rw [yI h m]
      exact k
    · cases h
  · rename_i hw
    refine pK (by exact hw) ?_
    rw [show (⟨l, H, m⟩ : St).put o.dst (.k undef) (⟨l, H, m⟩ : St).H = ⟨l', H', m⟩ from yI h m]
    exact k
  · cases h
theorem zb {v : V} (hw : zw ops ⟨l, H, m⟩ o = some true) (hs : zh P o (St.ev ⟨l, H, m⟩) H v H') (hp : xg l H' o.dst v = some (l', K)) (k : AOps P ops rest Q ⟨l', K, m⟩) : AOps P ops (o :: rest) Q ⟨l, H, m⟩ := by
  refine uh hw hs ?_
  rw [yI hp m]
  exact k
def xp (n k : Nat) : Array Bool := (Array.range n).map fun i => decide (i < k)
theorem sP (n : Nat) : xp n 0 = Array.replicate n false := by
  apply Array.ext
  · simp [xp]
  · intro i h1 h2; simp [xp]
theorem wk (n k : Nat) : (xp n k).setIfInBounds k true = xp n (k + 1) := by
  unfold xp
  apply Array.ext
  · simp
  · intro i h1 h2
    by_cases h : k = i
    · subst h; simp
    · rw [Array.getElem_setIfInBounds_ne (by simpa using h1) h]
      simp only [Array.getElem_map, Array.getElem_range]
      congr 1
      exact propext ⟨fun h => by omega, fun h' => by omega⟩
structure ALex (P : Program) (ops : Array Oper) (ds : List Nat) (k : Nat) (Q : Exit → St → Prop) (S : St) : Prop where
  out : wR P .any ops ds Q (ops.size - k) (xp ops.size k) S
theorem zR {id : Nat} {S : St} (ds : List Nat) [hT : TabC P T] (h : ALex P ops ds 0 Q S) : AW P (.region id ops true) Q S := by
  refine wi ds hT.wide ?_
  have := h.out
  rwa [sP] at this
theorem zD {ds : List Nat} {S : St} (k : Nat) (hk : Nat.ble ops.size k = true) (hr : (Region.ready .any ops (xp ops.size k) == []) = true) (h : Q .normal S) : ALex P ops ds k Q S := ⟨ma hr h⟩
def nI (ops : Array Oper) (k : Nat) : Bool := Nat.blt k ops.size && Region.free .any ops (xp ops.size k) k && (Region.ready .any ops (xp ops.size k)).contains k
def nJ (ops : Array Oper) (ds : List Nat) (k : Nat) : Bool := nI ops k && Region.closedB .any ops (xp ops.size k) && Region.lastB .any ops (xp ops.size k) ds k
def mr (ops : Array Oper) (ds : List Nat) (k : Nat) : Bool := Nat.blt k ops.size && (Region.ready .any ops (xp ops.size k) == [k]) && ds.contains k
theorem vy {k : Nat} (h : Nat.blt k ops.size = true) : ops.size - k = (ops.size - (k + 1)) + 1 := by
  have : k + 1 ≤ ops.size := Nat.le_of_ble_eq_true h
  omega
theorem tf {ds : List Nat} {k : Nat} {S : St} (ho : ops[k]? = some o) (hc : nI ops k = true) (hw : zw ops S o = some false) (h : ALex P ops ds (k + 1) Q (S.put o.dst (.k undef) S.H)) : ALex P ops ds k Q S := by
  simp only [nI, Bool.and_eq_true] at hc
  refine ⟨?_⟩
  rw [vy hc.1.1]
  exact mY _ ho (by simp only [uX, hc.1.2, hc.2, wk, Bool.true_and, beq_self_eq_true]) hw h.out
theorem tg {ds : List Nat} {k : Nat} {v : V} {S : St} (ho : ops[k]? = some o) (hc : nJ ops ds k = true) (hw : zw ops S o = some true) (hs : zh P o S.ev S.H v S.H) (h : ALex P ops ds (k + 1) Q (S.put o.dst v S.H)) : ALex P ops ds k Q S := by
  simp only [nJ, nI, Bool.and_eq_true] at hc
  refine ⟨?_⟩
  rw [vy hc.1.1.1.1]
  exact mZ _ ho (by simp only [pP, uX, hc.1.1.1.2, hc.1.1.2, hc.1.2, hc.2, wk, Bool.true_and, beq_self_eq_true]) hw hs h.out
theorem su {ds : List Nat} {k : Nat} {v : V} {S : St} (ho : ops[k]? = some o) (hc : mr ops ds k = true) (hw : zw ops S o = some true) (hs : zh P o S.ev S.H v H') (h : ALex P ops ds (k + 1) Q (S.put o.dst v H')) : ALex P ops ds k Q S := by
  simp only [mr, Bool.and_eq_true] at hc
  refine ⟨?_⟩
  rw [vy hc.1.1]
  exact lK _ ho (by simp only [ke, hc.1.2, wk, Bool.true_and, beq_self_eq_true]) hw (by simpa using hc.2) hs h.out
def sb : Op → Bool
  | .move _ | .assign _ | .pick .. | .binOp .. | .unOp .. | .convert .. | .extract .. | .load .. | .fieldAddr .. | .field .. | .nilCheck _ | .build .. => true
  | .call c => match c.callee with
    | .builtin _ => true
    | _ => false
  | _ => false
theorem pV {op : Op} {v : V} (hs : sb op = true) (h : wq T l H op = some (v, H')) : H' = H := by
  cases op <;> simp only [wq] at h <;> first | (cases hs; done) | skip
  all_goals first
    | (repeat' split at h) <;> first | (cases h; rfl) | cases h
    | skip
  rename_i c
  obtain ⟨callee, ⟨args⟩, ⟨ats⟩⟩ := c
  simp only at h
  unfold mC at h
  repeat' split at h
  all_goals first | (cases h; rfl) | cases h
theorem zV {ds : List Nat} {k : Nat} [hT : TabC P T] (ho : ops[k]? = some o) (hc : nJ ops ds k = true) (hst : sb o.op = true) (h : wF T ops o l H = some (l', H')) (hk : ALex P ops ds (k + 1) Q ⟨l', H', m⟩) : ALex P ops ds k Q ⟨l, H, m⟩ := by
  unfold wF at h
  split at h
  · rename_i hw
    split at h
    · rename_i v H'' hv
      have := pV hst hv
      subst this
      refine tg ho hc (by exact hw) (yx (m := m) hT.ok hv) ?_
      rw [show (⟨l, H'', m⟩ : St).put o.dst v (⟨l, H'', m⟩ : St).H = ⟨l', H', m⟩ from yI h m]
      exact hk
    · cases h
  · rename_i hw
    have hc' := hc
    simp only [nJ, Bool.and_eq_true] at hc'
    refine tf ho hc'.1.1 (by exact hw) ?_
    rw [show (⟨l, H, m⟩ : St).put o.dst (.k undef) (⟨l, H, m⟩ : St).H = ⟨l', H', m⟩ from yI h m]
    exact hk
  · cases h
theorem zY {ds : List Nat} {k : Nat} {v : V} (ho : ops[k]? = some o) (hc : nJ ops ds k = true) (hw : zw ops ⟨l, H, m⟩ o = some true) (hs : zh P o (St.ev ⟨l, H, m⟩) H v H) (hp : xg l H o.dst v = some (l', K)) (h : ALex P ops ds (k + 1) Q ⟨l', K, m⟩) : ALex P ops ds k Q ⟨l, H, m⟩ := by
  refine tg ho hc hw hs ?_
  rw [show (⟨l, H, m⟩ : St).put o.dst v (⟨l, H, m⟩ : St).H = ⟨l', K, m⟩ from yI hp m]
  exact h
theorem kI {ds : List Nat} {k : Nat} {v : V} (ho : ops[k]? = some o) (hc : mr ops ds k = true) (hw : zw ops ⟨l, H, m⟩ o = some true) (hs : zh P o (St.ev ⟨l, H, m⟩) H v H') (hp : xg l H' o.dst v = some (l', K)) (h : ALex P ops ds (k + 1) Q ⟨l', K, m⟩) : ALex P ops ds k Q ⟨l, H, m⟩ := by
  refine su ho hc hw hs ?_
  rw [yI hp m]
  exact h
theorem kf {ds : List Nat} {k : Nat} [hT : TabC P T] (ho : ops[k]? = some o) (hc : mr ops ds k = true) (hw : zw ops ⟨l, H, m⟩ o = some true) (h : wF T ops o l H = some (l', H')) (hk : ALex P ops ds (k + 1) Q ⟨l', H', m⟩) : ALex P ops ds k Q ⟨l, H, m⟩ := by
  unfold wF at h
  have hw0 : zw ops ⟨l, H, 0⟩ o = some true := hw
  rw [hw0] at h
  simp only at h
  split at h
  · rename_i v H'' hv
    refine su ho hc (by exact hw) (yx (m := m) hT.ok hv) ?_
    rw [yI h m]
    exact hk
  · cases h
theorem xa {ds : List Nat} {k : Nat} {j : Nat} {w b : Bool} {d : Tmp} (ho : ops[k]? = some o) (hg : o.guard = some (j, w)) (hj : (ops[j]?).bind (·.dst) = some d) (hd : l[d]? = some (B b))
    (ht : b = true → ALex P ops ds k Q ⟨l.set d (B true), H, m⟩) (hf : b = false → ALex P ops ds k Q ⟨l.set d (B false), H, m⟩) : ALex P ops ds k Q ⟨l, H, m⟩ :=
  ⟨pL (S := ⟨l, H, m⟩) d hd fun b' hb => by
    subst hb
    cases b' with
    | true => exact (ht rfl).out
    | false => exact (hf rfl).out⟩
end
end Go.Proofs.Ytkcicbigpbdjpaa.Ab
namespace Go.Proofs.Ytkcicbigpbdjpaa.Ab
open Go.RowKit Go.ChangeShapes Go.WideShapes
def qd {α : Type} (P : Program) (t : TypeId) (enc : α → List V) (ok : α → Prop) : Prop :=
  ∀ (H : Type) (en : TypeId × Value → H) (W : World) (base : Nat) (spare : Nat → Bool) (held : Bool) (fuel : Nat) (cs : List Value) (x : DataW H × List MemPlace),
    DataW.trod en P W base spare held fuel t cs = some x → ∃ a, cs.length = (enc a).length ∧ zZ (fun b => b < W.heap.size) W [] (enc a) (fun i => cs[i]?) ∧ ok a
def okI (k : IntKind) (a : Int) : Prop := (Lit.int k a).wf = true
def okL {α : Type} (ok : α → Prop) (l : List α) : Prop := l.length ≤ 9223372036854775807 ∧ ∀ x ∈ l, ok x
section
variable {P : Program} {t : TypeId}
theorem qv {A : Nat → Prop} {w : World} {u : Value} : zZ A w [] [V.k u] (fun i => [u][i]?) := by
  simp only [zZ]; exact ⟨⟨u, rfl, by simp only [Rel]⟩, trivial⟩
theorem qw {k : IntKind} (ht : P.underlying t = some (.int k)) : qd P t (fun n : Int => [.k (.int k n)]) (okI k) := by
  intro H en W base spare held fuel cs x h
  obtain ⟨n, rfl, _, hw⟩ := DataW.trod_int ht h
  exact ⟨n, rfl, qv, hw⟩
theorem st {α : Type} : ∀ (n : Nat) (p : Nat → α → Prop), (∀ i, i < n → ∃ x, p i x) → ∃ l : List α, l.length = n ∧ ∀ j x, l[j]? = some x → p j x
  | 0, _, _ => ⟨[], rfl, fun j x h => by simp at h⟩
  | n + 1, p, h => by
    obtain ⟨l, hl, hp⟩ := st n p (fun i hi => h i (by omega))
    obtain ⟨x, hx⟩ := h n (by omega)
    refine ⟨l ++ [x], by simp [hl], fun j y hy => ?_⟩
    rcases getElem?_app hy with hy | ⟨rfl, rfl⟩
    · exact hp j y hy
    · rw [hl]; exact hx
theorem wz {α : Type} {T : Ty α} {A : Nat → Prop} {w : World} {b o : Nat} : ∀ {l : List α} {k : Nat}, (∀ j x, l[j]? = some x → zZ A w [] (T.enc x) (fun i => w.cell? ⟨b, o + ((k + j) * T.n + i), none⟩)) → zZ A w [] (T.flat l) (fun i => w.cell? ⟨b, o + (k * T.n + i), none⟩)
  | [], k, h => by simp [Ty.flat, zZ]
  | x :: l, k, h => by
    rw [xU]
    refine yd (by simpa using h 0 x rfl) ?_
    have := wz (l := l) (k := k + 1) (fun j y hy => by have := h (j + 1) y (by simpa using hy); rwa [show k + (j + 1) = k + 1 + j by omega] at this)
    rw [T.len]
    refine z7 this fun i hi => ?_
    rw [Nat.succ_mul, show k * T.n + (T.n + i) = k * T.n + T.n + i by omega]
theorem tb {α : Type} {e : TypeId} {T : Ty α} {ok : α → Prop} (ht : P.underlying t = some (.slice e)) (hc : P.cellsOf e = T.n) (h : qd P e T.enc ok) : qd P t (fun l : List α => [yW T l]) (okL ok) := by
  intro H en W base spare held fuel cs x hx
  rcases Go.Deep.open_slice ht hx with ⟨rfl, _⟩ | ⟨a, len, cap, m, n, D, Pl, rfl, hb, hl, hm, hmm, _, hi⟩
  · refine ⟨[], rfl, ?_, by simp, fun x hx => by simp at hx⟩
    simp only [zZ, Rel]
    exact ⟨⟨_, rfl, none, 0, rfl, Nat.le_refl _, Nat.le_refl _, Or.inl rfl⟩, trivial⟩
  · have hlm : len ≤ m := by
      rw [hmm]
      split <;> omega
    unfold maxLen at hm
    have hpos := T.pos
    obtain ⟨l, hll, hp⟩ := st (α := α) len (fun i p => ok p ∧ ∃ c : List Value, c.length = T.n ∧ zZ (fun b => b < W.heap.size) W [] (T.enc p) (fun j => c[j]?) ∧ ∀ j u, c[j]? = some u → W.cell? (a.add (i * T.n + j)) = some u) (fun i hlt => by
      obtain ⟨c, h1, h2⟩ := hi i (by omega)
      obtain ⟨p, hk, hr, hok⟩ := h H en W base spare held n c _ h2
      obtain ⟨_, hlen, hcell⟩ := World.cells?_some h1
      refine ⟨p, hok, c, hk.trans (T.len p), hr, fun j u hu => ?_⟩
      have hj : j < c.length := (List.getElem?_eq_some_iff.1 hu).1
      rw [← Go.Deep.add_add, ← hc, hcell j (by omega)]
      exact hu)
    subst hll
    refine ⟨l, rfl, ?_, by omega, fun x hx => ?_⟩
    · simp only [zZ, Rel]
      refine ⟨⟨_, rfl, some a, cap, rfl, hl, ?_, ?_⟩, trivial⟩
      · rw [zr]; exact Nat.le_mul_of_pos_right _ hpos
      · cases l with
        | nil => left; rfl
        | cons z l =>
          right
          obtain ⟨_, c, h1, h2, h3⟩ := hp 0 z rfl
          have hc0 : 0 < c.length := by omega
          have hcell := h3 0 c[0] (by simp [hc0])
          simp only [Nat.zero_mul, Nat.zero_add] at hcell
          have ha0 : a.add 0 = a := by simp [Addr.add]
          rw [ha0] at hcell
          obtain ⟨bb, oo, sp⟩ := a
          have hsp : sp = none := by
            unfold World.cell? at hcell
            split at hcell
            · cases sp with
              | none => rfl
              | some _ => simp at hcell
            · cases hcell
          subst hsp
          refine ⟨bb, oo, rfl, World.block_lt_of_cell? W _ hcell, ?_⟩
          have := wz (T := T) (A := fun b => b < W.heap.size) (w := W) (b := bb) (o := oo) (l := z :: l) (k := 0) (fun j y hy => by
            obtain ⟨_, c', g1, g2, g3⟩ := hp j y hy
            refine zv.2 fun i v hv => ?_
            obtain ⟨u, q1, q2⟩ := zz g2 hv
            refine ⟨u, ?_, q2⟩
            have := g3 i u q1
            rw [Addr.plus] at this
            rw [Nat.zero_add]
            exact this)
          simpa using this
    · obtain ⟨j, hj⟩ := List.mem_iff_getElem?.1 hx
      exact (hp j x hj).1
def OpenFs {α : Type} (P : Program) (off : Nat) (fs : List Field) (enc : α → List V) (ok : α → Prop) (tot : Nat) : Prop :=
  ∀ (H : Type) (en : TypeId × Value → H) (W : World) (base : Nat) (spare : Nat → Bool) (held : Bool) (n : Nat) (cs : List Value),
    (∀ f ∈ fs, ∃ x, DataW.trod en P W base spare held n f.type ((cs.drop f.offset).take (P.cellsOf f.type)) = some x) → ∃ a, (enc a).length = tot ∧ zZ (fun b => b < W.heap.size) W [] (enc a) (fun i => cs[off + i]?) ∧ ok a
theorem qz {f : FuncId} {cargs : List V} {r : Value} {al : Bool} {K : List Reg} (h : zi P f cargs [] (.k r) K al) (W : World) (xs : Array Value) (hr : zZ (fun b => b < W.heap.size) W [] cargs (fun i => xs[i]?)) (hl : xs.size = cargs.length) :
    Calls P f xs W fun e W' => e = .returned r ∧ Below W.heap.size W W' := by
  refine (h (fun b => b < W.heap.size) [] W xs ⟨rfl, fun h hd r h1 => by simp at h1, fun h h' b ⟨hd, r, h1, _⟩ => by simp at h1, fun h b ⟨hd, r, h1, _⟩ => by simp at h1, fun h hd r b h1 => by simp at h1, fun b hb => hb⟩ hr hl).mono ?_
  rintro e w' ⟨x, φ', A', rfl, k1, k2, k3, k4, k5, k6⟩
  simp only [Rel] at k2
  subst k2
  exact ⟨rfl, ⟨k5.os, k5.tape, k5.output, k5.size, fun b hb => k5.block b hb (fun h ⟨hd, r, h1, _⟩ => by simp at h1)⟩⟩
end
end Go.Proofs.Ytkcicbigpbdjpaa.Ab
namespace Go.Proofs.Ytkcicbigpbdjpaa.Ab
open Go.RowKit
section
variable {C : Cx} {A A' : Nat → Prop} {φ φ' : List Hd} {H : List Reg} {w w' : World}
def renM (h k : Nat) : V → V
  | .sl 0 off len => .sl h off len
  | .sl (i + 1) off len => .sl (k + i) off len
  | .ptr 0 off => .ptr h off
  | .ptr (i + 1) off => .ptr (k + i) off
  | .tup vs => .tup (vs.map fun v => match v with
    | .sl 0 off len => .sl h off len
    | .sl (i + 1) off len => .sl (k + i) off len
    | .ptr 0 off => .ptr h off
    | .ptr (i + 1) off => .ptr (k + i) off
    | v => v)
  | v => v
end
section
variable {P : Program} {o : Oper} {ρ : Operand → V} {H : List Reg}
inductive Pas (h : Nat) (H : List Reg) : V → V → Prop where
  | same {v : V} (hv : noH v = true) : Pas h H v v
  | ptr {off : Nat} : Pas h H (.ptr h off) (.ptr 0 off)
  | sl {off n : Nat} : Pas h H (.sl h off n) (.sl 0 off n)
inductive Pass (h : Nat) (H : List Reg) : List V → List V → Prop where
  | nil : Pass h H [] []
  | cons {c d : V} {cs ds : List V} (hc : Pas h H c d) (hs : Pass h H cs ds) : Pass h H (c :: cs) (d :: ds)
theorem Pass.rels {A : Nat → Prop} {w : World} {φ : List Hd} {h : Nat} {hd : Hd} (hφ : φ[h]? = some hd) : ∀ {cs ds : List V} {g : Nat → Option Value}, Pass h H cs ds → zZ A w φ cs g → zZ A w [hd] ds g
  | [], _, g, .nil, hr => by simp only [zZ]
  | c :: cs, _, g, .cons hc hs, hr => by
    rw [zZ] at hr ⊢
    obtain ⟨⟨y, h1, h2⟩, h3⟩ := hr
    refine ⟨⟨y, h1, ?_⟩, Pass.rels hφ hs h3⟩
    cases hc with
    | same hv => exact xj hv h2
    | ptr =>
      simp only [Rel] at h2 ⊢
      obtain ⟨hd', b, q1, q2⟩ := h2
      rw [hφ] at q1
      cases q1
      exact ⟨hd, b, rfl, q2⟩
    | sl =>
      simp only [Rel] at h2 ⊢
      obtain ⟨hd', q1, q2⟩ := h2
      rw [hφ] at q1
      cases q1
      exact ⟨hd, rfl, q2⟩
theorem Pass.length {h : Nat} : ∀ {cs ds : List V}, Pass h H cs ds → cs.length = ds.length
  | [], _, .nil => rfl
  | c :: cs, _, .cons hc hs => by simp [Pass.length hs]
end
end Go.Proofs.Ytkcicbigpbdjpaa.Ab
namespace Go.Proofs.Ytkcicbigpbdjpaa.Ab
open Go.RowKit
section
variable {P : Program} {Q : Exit → St → Prop} {l : List V} {H : List Reg} {m : Nat}
mutual
theorem Pur.noH {live : Bool} : ∀ {v v' : V}, Pur live H v v' → Ab.noH v' = true
  | _, _, .same h => h
  | _, _, .any => rfl
  | _, _, .nil => rfl
  | _, _, .sl _ _ _ _ _ _ => rfl
  | _, _, .ptr _ _ _ _ => rfl
  | _, _, .slN _ _ _ _ _ => rfl
  | _, _, .agg h => by simp only [Ab.noH]; exact Purs.noHs h
  | _, _, .fn h => by simp only [Ab.noH]; exact Purs.noHs h
  | _, _, .tup h => by simp only [Ab.noH]; exact Purs.noHs h
theorem Purs.noHs {live : Bool} : ∀ {cs ds : List V}, Purs live H cs ds → Ab.noHs ds = true
  | _, _, .nil => rfl
  | _, _, .cons h hs => by simp only [Ab.noHs, Pur.noH h, Purs.noHs hs, Bool.and_self]
end
theorem ut {r v : V} {S : St} (hm : S.m = 0) (hp : Pur true S.H v r) : Out true r [] v S := by
  intro C A φ w x hm0 hA hv
  have h0 : C.φ0 = [] := List.length_eq_zero_iff.1 (hm0.trans hm)
  refine ⟨[], fun b => A b ∨ ∃ h, za φ S.H h b, ⟨rfl, fun h hd r h1 => by simp at h1, fun h h' b ⟨hd, r, h1, _⟩ => by simp at h1, fun h b ⟨hd, r, h1, _⟩ => by simp at h1, fun h hd r b h1 => by simp at h1, fun b hb => ?_⟩,
    Pur.rel hA.ok (fun b hb => Or.inl hb) (fun _ h b hb => Or.inr ⟨h, hb⟩) hp hv, fun b hb => ?_, fun h b ⟨hd, r, h1, _⟩ => by simp at h1, fun h hd h1 => by rw [h0] at h1; simp at h1⟩
  · rcases hb with hb | ⟨h, hd, r, q1, q2, q3, q4⟩
    · exact hA.ok.low b hb
    · exact xd hA.ok q1 q2 (by omega) q4
  · rcases hb with hb | ⟨h, hb⟩
    · exact (hA.old b hb).imp (fun h => ⟨rfl, h⟩) id
    · rcases hA.own h b hb with h1 | ⟨h9, hd, r, p1, _⟩
      · exact Or.inr h1
      · rw [h0] at p1
        simp at p1
theorem finP {t : Tmp} {v r : V} (hv : evO l (.tmp t) = some v) (hp : Pur true H v r) : (Exit.ret = .ret ∨ Exit.ret = .normal) ∧ Out true r [] (vb ⟨l, H, 0⟩ [t]) ⟨l, H, 0⟩ := by
  have : vb ⟨l, H, 0⟩ [t] = v := wg (H := H) (m := 0) (x := .tmp t) hv
  rw [this]
  exact ⟨Or.inl rfl, ut rfl hp⟩
theorem sk {α : Type} {t : Ty α} {h n es : Nat} {e : TypeId} {c : List V} {xs : List α} (hH : H[h]? = some ⟨e, es, c, 0⟩) (he : es = t.n) (hc : c = t.flat xs) (hn : n = xs.length) : Pur true H (.sl h 0 n) (yW t xs) := by
  subst hc he hn
  exact pur_l (t := t) (e := e) hH rfl
structure CellIs (l : List V) (H : List Reg) (t : Tmp) (n : Nat) (v : V) : Prop where
  ex : ∃ h off r, l[t]? = some (.ptr h off) ∧ H[h]? = some r ∧ r.mode ≤ 1 ∧ off + n ≤ r.cells.length ∧ v = .agg ((r.cells.drop off).take n)
theorem yJ {t : Tmp} {n h off : Nat} {r : Reg} {v : V} (h1 : l[t]? = some (.ptr h off)) (h2 : H[h]? = some r) (h3 : Nat.ble r.mode 1 = true) (h4 : Nat.ble (off + n) r.cells.length = true) (h5 : .agg ((r.cells.drop off).take n) = v) : CellIs l H t n v := ⟨h, off, r, h1, h2, Nat.le_of_ble_eq_true h3, Nat.le_of_ble_eq_true h4, h5.symm⟩
theorem yn {f : FuncId} {fn : Func} {c : Code} {cargs : List V} {hs : List Reg} {r : V} {hs' : List Reg} {al : Bool} (t : Tmp) (ty : TypeId) {n : Nat} [ht : Ag P ty n]
    (hf : P.funcs[f]? = some fn) (hb : fn.body = some c) (hr : fn.results = #[.cell t ty])
    (h : AW P c (fun e S => (e = .ret ∨ e = .normal) ∧ ∃ v, CellIs S.tmps S.H t n v ∧ Out al r hs' v S) ⟨cargs ++ List.replicate (fn.ntmps - cargs.length) (.k undef), hs, hs.length⟩) : zi P f cargs hs r hs' al := by
  intro A φ w xs hok hrel hsz
  refine calls_of_wp hf hb ?_
  have hI : Inv ⟨A, w, φ, hs⟩ φ ⟨cargs ++ List.replicate (fn.ntmps - cargs.length) (.k undef), hs, hs.length⟩ { tmps := xs ++ Array.replicate (fn.ntmps - xs.size) undef, defers := [] } w := by
    refine ⟨hok.len, ⟨A, ⟨hok, fun b hb => Or.inl hb, fun h b hl => Or.inr ⟨h, hl⟩, ⟨rfl, rfl, rfl, Nat.le_refl _, fun _ _ _ => rfl⟩, fun _ _ h => h⟩, ?_⟩, by simp [hsz], rfl⟩
    refine yd (z7 hrel fun i hi => ?_) (zv.2 fun i c hc => ⟨undef, ?_, ?_⟩)
    · simp [Array.getElem?_append, hsz, hi]
    · have hlt := (List.getElem?_eq_some_iff.1 hc).1
      simp only [List.length_replicate] at hlt
      simp only [Array.getElem?_append, hsz, Nat.not_lt.2 (Nat.le_add_right _ _), if_false, Nat.add_sub_cancel_left]
      simp [hlt]
    · have := List.mem_of_getElem? hc
      obtain rfl := List.eq_of_mem_replicate this
      simp [Rel]
  refine wp_mono (h.out ⟨A, w, φ, hs⟩ φ _ w hI) ?_
  rintro e a' w' ⟨S', φ1, hI', he, v, hc, ho⟩
  obtain ⟨hm, ⟨A1, hA1, hr1⟩, hs1, hd1⟩ := hI'
  obtain ⟨⟨h, off, r0, c1, c2, c3, c4, c5⟩⟩ := hc
  obtain ⟨y, y1, y2⟩ := zz hr1 c1
  rw [Rel] at y2
  obtain ⟨hd, b, e1, e2, e3⟩ := y2
  obtain ⟨us, h2, h3, h4⟩ := yM (P := P) (ya (yS (yu hA1.ok e1 c2 c3 e2) off) n)
  have hl : ((r0.cells.drop off).take n).length = n := by simp; omega
  rw [hl] at h2
  have hx : Rel A1 w' φ1 v (.agg us) := by subst c5; rw [Rel]; exact ⟨us, rfl, h3, h4⟩
  have hrun : (results fn a'.tmps).run P w' = .ok (.agg us) w' := by
    have hg : a'.tmps.getD t undef = .pointer (some ⟨b, off, none⟩) := by
      rw [Array.getD_eq_getD_getElem?, show a'.tmps[t]? = some y from y1, e3]
      rfl
    unfold results
    rw [hr]
    simp only [List.mapM_toArray, List.mapM_cons, List.mapM_nil, hg, Sem.run_bind, Sem.run_map, Sem.run_pure, Result.andThen_ok, asAddr, loadVar, ht.a, ht.s, h2, if_true]
    rfl
  obtain ⟨φ', A', k1, k2, k3, k4, k5⟩ := ho ⟨A, w, φ, hs⟩ A1 φ1 w' (.agg us) hm hA1 hx
  have key : a'.defers = [] ∧ ∃ v, (results fn a'.tmps).run P w' = .ok v w' ∧ ∃ x φ' A', (Ending.returned v) = .returned x ∧ HeapOk A' w' φ' hs' ∧ Rel A' w' φ' r x ∧ (∀ b, A' b → (al = true ∧ A b) ∨ w.heap.size ≤ b) ∧
      (∀ h b, za φ' hs' h b → w.heap.size ≤ b ∨ ∃ h0, za φ hs h0 b) ∧ Framed ⟨A, w, φ, hs⟩ w' ∧ (∀ (h : Nat) (hd : Hd), φ[h]? = some hd → φ'[h]? = some hd) :=
    ⟨hd1, _, hrun, _, φ', A', rfl, k1, k2, k3, k4, hA1.frame, k5⟩
  rcases he with rfl | rfl
  · exact key
  · exact key
theorem tq {t : Tmp} {n : Nat} {v r : V} (hv : CellIs l H t n v) (hp : Pur true H v r) : (Exit.ret = .ret ∨ Exit.ret = .normal) ∧ ∃ v, CellIs l H t n v ∧ Out true r [] v ⟨l, H, 0⟩ := ⟨Or.inl rfl, v, hv, ut rfl hp⟩
section
variable {ops : Array Oper} {rest : List Oper} {ds : List Nat} {k : Nat} {S : St}
theorem isA (h : AOps P ops rest Q S) : AOps P ops rest Q S := h
theorem isL (h : ALex P ops ds k Q S) : ALex P ops ds k Q S := h
theorem zo (f : Nat) {d : Option Tmp} {x : Array Operand} {y : Array TypeId} {ty : TypeId} {p : String} {a : Array Edge} {g : Option (Nat × Bool)} (h : AOps P ops (⟨d, .call { callee := .value (.func f), args := x, argTypes := y }, ty, p, a, g⟩ :: rest) Q S) : AOps P ops (⟨d, .call { callee := .value (.func f), args := x, argTypes := y }, ty, p, a, g⟩ :: rest) Q S := h
theorem v6 {d : Option Tmp} {x : Array Operand} {y : Array TypeId} {ty : TypeId} {p : String} {a : Array Edge} {g : Option (Nat × Bool)} (h : AOps P ops (⟨d, .call { callee := .builtin .append, args := x, argTypes := y }, ty, p, a, g⟩ :: rest) Q S) : AOps P ops (⟨d, .call { callee := .builtin .append, args := x, argTypes := y }, ty, p, a, g⟩ :: rest) Q S := h
theorem xH {d : Option Tmp} {t : TypeId} {x y : Operand} {ty : TypeId} {p : String} {a : Array Edge} {g : Option (Nat × Bool)} (h : AOps P ops (⟨d, .indexAddr t x y, ty, p, a, g⟩ :: rest) Q S) : AOps P ops (⟨d, .indexAddr t x y, ty, p, a, g⟩ :: rest) Q S := h
theorem nN {d : Option Tmp} {t : TypeId} {x : Operand} {ty : TypeId} {p : String} {a : Array Edge} {g : Option (Nat × Bool)} (h : AOps P ops (⟨d, .load t x, ty, p, a, g⟩ :: rest) Q S) : AOps P ops (⟨d, .load t x, ty, p, a, g⟩ :: rest) Q S := h
theorem isAx {d : Option Tmp} {t : TypeId} {x : Operand} {lo hi mx : Option Operand} {ty : TypeId} {p : String} {a : Array Edge} {g : Option (Nat × Bool)} (h : AOps P ops (⟨d, .slice t x lo hi mx, ty, p, a, g⟩ :: rest) Q S) : AOps P ops (⟨d, .slice t x lo hi mx, ty, p, a, g⟩ :: rest) Q S := h
theorem zp (f : Nat) {d : Option Tmp} {x : Array Operand} {y : Array TypeId} {ty : TypeId} {p : String} {a : Array Edge} {g : Option (Nat × Bool)} (ho : ops[k]? = some ⟨d, .call { callee := .value (.func f), args := x, argTypes := y }, ty, p, a, g⟩) (h : ALex P ops ds k Q S) : ALex P ops ds k Q S := h
theorem vz {d : Option Tmp} {x : Array Operand} {y : Array TypeId} {ty : TypeId} {p : String} {a : Array Edge} {g : Option (Nat × Bool)} (ho : ops[k]? = some ⟨d, .call { callee := .builtin .append, args := x, argTypes := y }, ty, p, a, g⟩) (h : ALex P ops ds k Q S) : ALex P ops ds k Q S := h
theorem xG {d : Option Tmp} {t : TypeId} {x y : Operand} {ty : TypeId} {p : String} {a : Array Edge} {g : Option (Nat × Bool)} (ho : ops[k]? = some ⟨d, .indexAddr t x y, ty, p, a, g⟩) (h : ALex P ops ds k Q S) : ALex P ops ds k Q S := h
theorem mv {d : Option Tmp} {t : TypeId} {x : Operand} {ty : TypeId} {p : String} {a : Array Edge} {g : Option (Nat × Bool)} (ho : ops[k]? = some ⟨d, .load t x, ty, p, a, g⟩) (h : ALex P ops ds k Q S) : ALex P ops ds k Q S := h
theorem isLs {d : Option Tmp} {t : TypeId} {x y : Operand} {ty : TypeId} {p : String} {a : Array Edge} {g : Option (Nat × Bool)} (ho : ops[k]? = some ⟨d, .store t x y, ty, p, a, g⟩) (h : ALex P ops ds k Q S) : ALex P ops ds k Q S := h
theorem isLx {d : Option Tmp} {t : TypeId} {x : Operand} {lo hi mx : Option Operand} {ty : TypeId} {p : String} {a : Array Edge} {g : Option (Nat × Bool)} (ho : ops[k]? = some ⟨d, .slice t x lo hi mx, ty, p, a, g⟩) (h : ALex P ops ds k Q S) : ALex P ops ds k Q S := h
theorem zU {o : Oper} {m : Nat} {l' : List V} {K : List Reg} (ho : ops[k]? = some o) (hc : nI ops k = true) (hw : zw ops ⟨l, H, m⟩ o = some false) (hp : xg l H o.dst (.k undef) = some (l', K)) (h : ALex P ops ds (k + 1) Q ⟨l', K, m⟩) : ALex P ops ds k Q ⟨l, H, m⟩ :=
  tf ho hc hw (by rw [show ({ tmps := l, H := H, m := m } : St).put o.dst (.k undef) H = ⟨l', K, m⟩ from yI hp m]; exact h)
theorem zc {d : Option Tmp} {op : Op} {ty : TypeId} {p : String} {a : Array Edge} {g : Nat × Bool} (ho : ops[k]? = some ⟨d, op, ty, p, a, some g⟩) (h : ALex P ops ds k Q S) : ALex P ops ds k Q S := h
theorem pA {d : Option Tmp} {op : Op} {ty : TypeId} {p : String} {a : Array Edge} {g : Nat × Bool} (h : AOps P ops (⟨d, op, ty, p, a, some g⟩ :: rest) Q S) : AOps P ops (⟨d, op, ty, p, a, some g⟩ :: rest) Q S := h
end
inductive HLes (ψ : List Nat) (H : List Reg) : List Nat → List Reg → Prop where
  | nil : HLes ψ H [] []
  | cons {h : Nat} {r r' : Reg} {hs : List Nat} {K : List Reg} (hh : H[h]? = some r') (hm : r'.mode = r.mode) (he : r'.esz = r.esz) (hee : r'.e = r.e) (hc : Les ψ r.cells r'.cells) (ht : HLes ψ H hs K) : HLes ψ H (h :: hs) (r :: K)
theorem HLes.get {ψ : List Nat} : ∀ {hs : List Nat} {K : List Reg}, HLes ψ H hs K → hs.length = K.length ∧ ∀ (i h : Nat), hs[i]? = some h → ∃ r r', K[i]? = some r ∧ H[h]? = some r' ∧ (r.mode ≤ 1 → r'.mode = r.mode ∧ r'.esz = r.esz ∧ r'.e = r.e ∧ Les ψ r.cells r'.cells)
  | _, _, .nil => ⟨rfl, fun i h hi => by simp at hi⟩
  | _, _, .cons hh hm he hee hc hs => by
    obtain ⟨e1, e2⟩ := hs.get
    refine ⟨by simp [e1], fun i h hi => ?_⟩
    cases i with
    | zero =>
      simp at hi
      subst hi
      exact ⟨_, _, rfl, hh, fun _ => ⟨hm, he, hee, hc⟩⟩
    | succ i =>
      simp only [List.getElem?_cons_succ] at hi ⊢
      exact e2 i h hi
theorem wl {ψ : List Nat} {K : List Reg} (hn : ψ.Nodup) (h : HLes ψ H ψ K) : HLe ψ K H := ⟨h.get.1, hn, h.get.2⟩
theorem nK {ψ : List Nat} {cs ds : List V} (h : ds = cs) (hN : NoH cs) : Les ψ cs ds := by subst h; exact zf hN
theorem zW {c : Operand} {x y : Code} {S : St} (hc : S.ev c = .k (.bool true)) (h : AW P x Q S) : AW P (.cond c x y) Q S := zm hc (fun _ => h) (fun e => by cases e)
theorem zX {c : Operand} {x y : Code} {S : St} (hc : S.ev c = .k (.bool false)) (h : AW P y Q S) : AW P (.cond c x y) Q S := zm hc (fun e => by cases e) (fun _ => h)
theorem xX {T S : St} (ψ : List Nat) (hm : T.m = 0) (hm' : S.m = 0) (hn : ψ.Nodup) (hH : HLes ψ S.H ψ T.H) (ht : Les ψ T.tmps S.tmps) : Sub T S := pT ψ (hm.trans hm'.symm) (fun i hi => by omega) (wl hn hH) ht
theorem pu {K : List Reg} {h off m : Nat} {r : Reg} {cs : List V} (hr : K[h]? = some r) (hm : Nat.ble r.mode 1 = true) (hl : Nat.ble ((off + m) * r.esz) r.cells.length = true) (hc : (r.cells.drop (off * r.esz)).take (m * r.esz) = cs) : Src K (.sl h off m) m cs := by
  subst hc
  exact Src.sl hr (Nat.le_of_ble_eq_true hm) (Nat.le_of_ble_eq_true hl)
theorem ln {o : Oper} {ρ : Operand → V} {K : List Reg} {α : Type} {T : Ty α} {t e n h i : Nat} {x y : Operand} {xs : List α} {z : α} [ht : Ag P t n] (ho : o.op = .store t x y) (hx : ρ x = .ptr h (i * n)) (hy : ρ y = .agg (T.enc z)) (hn : T.n = n) (hH : K[h]? = some (xD T e xs)) (hi : i < xs.length) :
    zh P o ρ K (.k undef) (K.set h (xD T e (xs.set i z))) := by
  have h1 : i * n + n ≤ (T.flat xs).length := by rw [zr, hn, ← Nat.succ_mul]; exact Nat.mul_le_mul_right _ hi
  have := tL (P := P) (ρ := ρ) (H := K) ho hx hy ((T.len z).trans hn) (fun c hc => (T.ok z c hc).1) hH rfl h1
  subst hn
  have e1 := nS T (x := z) hi
  show zh P o ρ K (.k undef) (K.set h ⟨e, T.n, T.flat (xs.set i z), 0⟩)
  rw [← e1]
  exact this
theorem uW {i n : Nat} (h : i < n) (hn : n ≤ 1000000000000) : IntKind.i64.wrap ((i : Int) + 1) = ((i + 1 : Nat) : Int) := by
  rw [IntKind.wrap_i64]
  omega
theorem wL {ψ : List Nat} {i n : Nat} (h : i < n) (hn : n ≤ 1000000000000) : Le ψ (I ((i + 1 : Nat) : Int)) (I (IntKind.i64.wrap ((i : Int) + 1))) := vc (congrArg _ (uW h hn).symm)
end
end Go.Proofs.Ytkcicbigpbdjpaa.Ab
namespace Go.Proofs.Ytkcicbigpbdjpaa.Ab
open Go.RowKit
def mkL (n : Nat) : List Nat → Array Bool
  | [] => Array.replicate n false
  | i :: d => (mkL n d).setIfInBounds i true
section
variable {P : Program} {T : Tab} {ops : Array Oper} {Q : Exit → St → Prop} {l l' l'' : List V} {H H' K : List Reg} {m : Nat} {o : Oper} {ds d : List Nat} {n : Nat}
structure APer (P : Program) (ops : Array Oper) (ds d : List Nat) (n : Nat) (Q : Exit → St → Prop) (S : St) : Prop where
  out : wR P .any ops ds Q n (mkL ops.size d) S
def vv (ops : Array Oper) (d : List Nat) (i : Nat) : Bool := Region.free .any ops (mkL ops.size d) i && (Region.ready .any ops (mkL ops.size d)).contains i
def perH (ops : Array Oper) (ds d : List Nat) (i : Nat) : Bool := vv ops d i && Region.closedB .any ops (mkL ops.size d) && Region.lastB .any ops (mkL ops.size d) ds i
end
end Go.Proofs.Ytkcicbigpbdjpaa.Ab
namespace Go.Proofs.Ytkcicbigpbdjpaa.Ab
open Go.RowKit
section
variable {C : Cx} {A A' : Nat → Prop} {φ φ' : List Hd} {H : List Reg} {w w' : World}
structure Handed (φ : List Hd) (H : List Reg) (hs : List Nat) (hds : List Hd) (Rs Rs' : List Reg) : Prop where
  nd : hs.Nodup
  l1 : hds.length = hs.length
  l2 : Rs.length = hs.length
  l3 : Rs'.length = hs.length
  at_ : ∀ (i h : Nat), hs[i]? = some h → ∃ hd R R', hds[i]? = some hd ∧ φ[h]? = some hd ∧ Rs[i]? = some R ∧ H[h]? = some R ∧ R.mode = 0 ∧ Rs'[i]? = some R' ∧ R'.mode = 0 ∧ NoH R.cells ∧ NoH R'.cells
theorem InvA.joinMs (hA : InvA C A φ H w) {hs : List Nat} {hds : List Hd} {Rs Rs' : List Reg} {K H2 : List Reg} {ψ' : List Hd} (hh : Handed φ H hs hds Rs Rs') (hN : ∀ r ∈ K, NoH r.cells)
    (hset : ∀ (i h : Nat), hs[i]? = some h → H2[h]? = Rs'[i]?) (hkeep : ∀ x, x ∉ hs → H2[x]? = H[x]?) (hl2 : H2.length = H.length)
    (hK : HeapOk A' w' (hds ++ ψ') (Rs' ++ K)) (hA' : ∀ b, A' b → A b ∨ w.heap.size ≤ b) (hl : ∀ j b, za (hds ++ ψ') (Rs' ++ K) j b → w.heap.size ≤ b ∨ ∃ h ∈ hs, za φ H h b)
    (hoth : ∀ b, b < w.heap.size → (∀ h ∈ hs, ¬ za φ H h b) → w'.heap[b]? = w.heap[b]?) (hsz : w.heap.size ≤ w'.heap.size) (hos : w'.os = w.os) (htape : w'.tape = w.tape) (hout : w'.output = w.output) :
    InvA C (fun b => A b ∨ A' b) (φ ++ ψ') (H2 ++ K) w' := by
  have hlen := hA.ok.len
  have hφm : ∀ (i : Nat) (d : Hd), φ[i]? = some d → (φ ++ ψ')[i]? = some d := fun i d hh => z1 hh
  have hAm : ∀ b, A b → (A b ∨ A' b) ∧ w'.heap[b]? = w.heap[b]? := fun b hb => ⟨Or.inl hb, hoth b (hA.ok.low b hb) fun h _ hl => hA.ok.apart h b hl hb⟩
  have hψ : ψ'.length = K.length := by have := hK.len; rw [List.length_append, List.length_append, hh.l1, hh.l3] at this; omega
  have hsplit : ∀ (i : Nat) (d : Hd) (r : Reg), (φ ++ ψ')[i]? = some d → (H2 ++ K)[i]? = some r → (∃ x R, hs[x]? = some i ∧ hds[x]? = some d ∧ Rs'[x]? = some r ∧ φ[i]? = some d ∧ H[i]? = some R ∧ R.mode = 0 ∧ r.mode = 0 ∧ NoH r.cells) ∨ (i ∉ hs ∧ φ[i]? = some d ∧ H[i]? = some r) ∨ (∃ j, i = φ.length + j ∧ ψ'[j]? = some d ∧ K[j]? = some r) := fun i d r h1 h2 => by
    rcases Nat.lt_or_ge i φ.length with hlt | hge
    · rw [List.getElem?_append_left hlt] at h1
      rw [List.getElem?_append_left (by omega)] at h2
      by_cases hm : i ∈ hs
      · obtain ⟨x, hx⟩ := List.getElem?_of_mem hm
        obtain ⟨hd, R, R', q1, q2, q3, q4, q5, q6, q7, q8, q9⟩ := hh.at_ x i hx
        rw [hset x i hx, q6] at h2
        cases h2
        rw [q2] at h1
        cases h1
        exact Or.inl ⟨x, R, hx, q1, q6, q2, q4, q5, q7, q9⟩
      · rw [hkeep i hm] at h2
        exact Or.inr (Or.inl ⟨hm, h1, h2⟩)
    · rw [List.getElem?_append_right hge] at h1
      rw [List.getElem?_append_right (by omega), hl2, ← hlen] at h2
      exact Or.inr (Or.inr ⟨i - φ.length, by omega, h1, h2⟩)
  have hleft : ∀ {α : Type} (a b : List α) (j : Nat), (a ++ b)[a.length + j]? = b[j]? := fun a b j => by
    rw [List.getElem?_append_right (Nat.le_add_right _ _), Nat.add_sub_cancel_left]
  have hlive : ∀ i b, za (φ ++ ψ') (H2 ++ K) i b → (i ∈ hs ∧ za φ H i b) ∨ (i ∉ hs ∧ za φ H i b) ∨ (∃ j, i = φ.length + j ∧ za (hds ++ ψ') (Rs' ++ K) (hs.length + j) b) := by
    rintro i b ⟨d, r, h1, h2, h3, h4⟩
    rcases hsplit i d r h1 h2 with ⟨x, R, p1, p2, p3, p4, p5, p6, p7, p8⟩ | ⟨hne, p1, p2⟩ | ⟨j, p0, p1, p2⟩
    · exact Or.inl ⟨List.mem_of_getElem? p1, d, R, p4, p5, p6, h4⟩
    · exact Or.inr (Or.inl ⟨hne, d, r, p1, p2, h3, h4⟩)
    · exact Or.inr (Or.inr ⟨j, p0, d, r, by rw [← hh.l1, hleft]; exact p1, by rw [← hh.l3, hleft]; exact p2, h3, h4⟩)
  have hlow : ∀ i b, za φ H i b → b < w.heap.size := fun i b ⟨d, r, h1, h2, h3, h4⟩ => xd hA.ok h1 h2 (by omega) h4
  have hgive : ∀ h b, h ∈ hs → za φ H h b → ∃ x, x < hs.length ∧ za (hds ++ ψ') (Rs' ++ K) x b := fun h b hm ⟨d, r, h1, h2, h3, h4⟩ => by
    obtain ⟨x, hx⟩ := List.getElem?_of_mem hm
    obtain ⟨hd, R, R', q1, q2, q3, q4, q5, q6, q7, q8, q9⟩ := hh.at_ x h hx
    rw [q2] at h1
    cases h1
    exact ⟨x, (List.getElem?_eq_some_iff.1 hx).1, d, R', z1 q1, z1 q6, q7, h4⟩
  have hnew : ∀ j b, za (hds ++ ψ') (Rs' ++ K) (hs.length + j) b → w.heap.size ≤ b := fun j b hj => by
    rcases hl _ _ hj with h1 | ⟨h, hm, h1⟩
    · exact h1
    · obtain ⟨x, hx, h2⟩ := hgive h b hm h1
      have := hK.inj _ _ _ hj h2
      omega
  refine ⟨⟨by simp [hlen, hψ, hl2], fun i d r h1 h2 h3 => ?_, fun i i' b h1 h2 => ?_, fun i b h1 => ?_, fun i d r b h1 h2 h3 h4 => ?_, fun b hb => ?_⟩, fun b hb => ?_, fun i b h1 => ?_, ?_, fun i d hh => hφm i d (hA.pre i d hh)⟩
  · rcases hsplit i d r h1 h2 with ⟨x, R, p1, p2, p3, p4, p5, p6, p7, p8⟩ | ⟨hne, p1, p2⟩ | ⟨j, p0, p1, p2⟩
    · obtain ⟨e1, e2⟩ := hK.regs x d r (z1 p2) (z1 p3) h3
      refine ⟨e1, ?_⟩
      cases hk : d.blk with
      | none => rw [hk] at e2; exact e2
      | some b =>
        rw [hk] at e2
        obtain ⟨c, k1, k2, k3, k4⟩ := e2
        exact ⟨c, k1, k2, k3, zZ.mono (fun b hb => ⟨Or.inr hb, rfl⟩) (fun _ _ h => h) (yy p8 k4)⟩
    · obtain ⟨e1, e2⟩ := hA.ok.regs i d r p1 p2 h3
      refine ⟨e1, ?_⟩
      cases hk : d.blk with
      | none => rw [hk] at e2; exact e2
      | some b =>
        rw [hk] at e2
        obtain ⟨c, k1, k2, k3, k4⟩ := e2
        have hnl : ∀ h ∈ hs, ¬ za φ H h b := fun h hm hl => by
          rcases Nat.lt_or_ge r.mode 1 with hm1 | hm1
          · have := hA.ok.inj _ _ _ ⟨d, r, p1, p2, by omega, hk⟩ hl
            exact hne (this ▸ hm)
          · exact hA.ok.apart h b hl (hA.ok.frz i d r b p1 p2 (by omega) hk)
        exact ⟨c, (hoth b (xd hA.ok p1 p2 h3 hk) hnl).trans k1, k2, k3, zZ.mono hAm hφm k4⟩
    · obtain ⟨e1, e2⟩ := hK.regs (hs.length + j) d r (by rw [← hh.l1, hleft]; exact p1) (by rw [← hh.l3, hleft]; exact p2) h3
      refine ⟨e1, ?_⟩
      cases hk : d.blk with
      | none => rw [hk] at e2; exact e2
      | some b =>
        rw [hk] at e2
        obtain ⟨c, k1, k2, k3, k4⟩ := e2
        exact ⟨c, k1, k2, k3, zZ.mono (fun b hb => ⟨Or.inr hb, rfl⟩) (fun _ _ h => h) (yy (hN r (List.mem_of_getElem? p2)) k4)⟩
  · have old : ∀ i, (i ∈ hs ∧ za φ H i b) ∨ (i ∉ hs ∧ za φ H i b) → za φ H i b := fun i h => h.elim (·.2) (·.2)
    rcases hlive i b h1 with p | p | ⟨j, p1, q1⟩ <;> rcases hlive i' b h2 with p' | p' | ⟨j', p2, q2⟩
    · exact hA.ok.inj _ _ _ p.2 p'.2
    · exact hA.ok.inj _ _ _ p.2 p'.2
    · have := hlow _ _ p.2; have := hnew _ _ q2; omega
    · exact hA.ok.inj _ _ _ p.2 p'.2
    · exact hA.ok.inj _ _ _ p.2 p'.2
    · have := hlow _ _ p.2; have := hnew _ _ q2; omega
    · have := hlow _ _ p'.2; have := hnew _ _ q1; omega
    · have := hlow _ _ p'.2; have := hnew _ _ q1; omega
    · have := hK.inj _ _ _ q1 q2
      omega
  · have hA'no : ∀ b, b < w.heap.size → ¬ A b → ¬ A' b := fun b hb hn ha => by
      rcases hA' b ha with h | h
      · exact hn h
      · omega
    have pB : za φ H i b → ¬ (A b ∨ A' b) := fun q1 hb => by
      rcases hb with hb | hb
      · exact hA.ok.apart _ _ q1 hb
      · exact hA'no b (hlow _ _ q1) (hA.ok.apart _ _ q1) hb
    rcases hlive i b h1 with ⟨p1, q1⟩ | ⟨p1, q1⟩ | ⟨j, p1, q1⟩
    · exact pB q1
    · exact pB q1
    · rintro (hb | hb)
      · have := hA.ok.low b hb
        have := hnew _ _ q1
        omega
      · exact hK.apart _ _ q1 hb
  · rcases hsplit i d r h1 h2 with ⟨x, R, p1, p2, p3, p4, p5, p6, p7, p8⟩ | ⟨hne, p1, p2⟩ | ⟨j, p0, p1, p2⟩
    · omega
    · exact Or.inl (hA.ok.frz i d r b p1 p2 h3 h4)
    · exact Or.inr (hK.frz (hs.length + j) d r b (by rw [← hh.l1, hleft]; exact p1) (by rw [← hh.l3, hleft]; exact p2) h3 h4)
  · rcases hb with hb | hb
    · exact Nat.lt_of_lt_of_le (hA.ok.low b hb) hsz
    · exact hK.low b hb
  · rcases hb with hb | hb
    · exact hA.old b hb
    · rcases hA' b hb with hb | hb
      · exact hA.old b hb
      · exact Or.inr (Nat.le_trans hA.frame.size hb)
  · rcases hlive i b h1 with ⟨p1, q1⟩ | ⟨p1, q1⟩ | ⟨j, p1, q1⟩
    · exact hA.own _ _ q1
    · exact hA.own _ _ q1
    · exact Or.inl (Nat.le_trans hA.frame.size (hnew _ _ q1))
  · obtain ⟨f1, f2, f3, f4, f5⟩ := hA.frame
    refine ⟨hos.trans f1, htape.trans f2, hout.trans f3, Nat.le_trans f4 hsz, fun i hi hno => ?_⟩
    rw [← f5 i hi hno]
    refine hoth i (Nat.lt_of_lt_of_le hi f4) fun h hm hl => ?_
    rcases hA.own h i hl with h1 | ⟨h9, h1⟩
    · omega
    · exact hno h9 h1
end
section
variable {P : Program} {o : Oper} {ρ : Operand → V} {H : List Reg}
mutual
inductive PasS (hs : List Nat) : V → V → Prop where
  | same {v : V} (h : noH v = true) : PasS hs v v
  | sl {i h off m : Nat} (h1 : hs[i]? = some h) : PasS hs (.sl h off m) (.sl i off m)
  | ptr {i h off : Nat} (h1 : hs[i]? = some h) : PasS hs (.ptr h off) (.ptr i off)
  | agg {cs ds : List V} (h : PassS hs cs ds) : PasS hs (.agg cs) (.agg ds)
inductive PassS (hs : List Nat) : List V → List V → Prop where
  | nil : PassS hs [] []
  | cons {c d : V} {cs ds : List V} (h : PasS hs c d) (ht : PassS hs cs ds) : PassS hs (c :: cs) (d :: ds)
end
theorem PassS.length {hs : List Nat} : ∀ {cs ds : List V}, PassS hs cs ds → cs.length = ds.length
  | [], _, h => by cases h; rfl
  | c :: cs, _, h => by cases h with | cons h ht => simp [PassS.length ht]
section
variable {A : Nat → Prop} {w : World} {φ hds : List Hd} {hs : List Nat}
mutual
theorem PasS.rel (hg : ∀ (i h : Nat), hs[i]? = some h → ∀ hd, φ[h]? = some hd → hds[i]? = some hd) : ∀ {v v' : V} {x : Value}, PasS hs v v' → Rel A w φ v x → Rel A w hds v' x
  | v, _, x, .same h, hr => xj h hr
  | _, _, x, .sl h1, hr => by
    rw [Rel] at hr ⊢
    obtain ⟨hd, h2, h3⟩ := hr
    exact ⟨hd, hg _ _ h1 _ h2, h3⟩
  | _, _, x, .ptr h1, hr => by
    rw [Rel] at hr ⊢
    obtain ⟨hd, b, h2, h3⟩ := hr
    exact ⟨hd, b, hg _ _ h1 _ h2, h3⟩
  | .agg cs, .agg ds, x, .agg h, hr => by
    rw [Rel] at hr ⊢
    obtain ⟨xs, e1, e2, h2⟩ := hr
    exact ⟨xs, e1, e2.trans (PassS.length h), PassS.rels hg h h2⟩
theorem PassS.rels (hg : ∀ (i h : Nat), hs[i]? = some h → ∀ hd, φ[h]? = some hd → hds[i]? = some hd) : ∀ {cs ds : List V} {g : Nat → Option Value}, PassS hs cs ds → zZ A w φ cs g → zZ A w hds ds g
  | [], _, g, .nil, hr => by simp only [zZ]
  | c :: cs, _, g, .cons h ht, hr => by
    rw [zZ] at hr ⊢
    obtain ⟨⟨y, h1, h2⟩, h3⟩ := hr
    exact ⟨⟨y, h1, PasS.rel hg h h2⟩, PassS.rels hg ht h3⟩
end
end
inductive Give (H : List Reg) : List Nat → List Reg → List Reg → Prop where
  | nil : Give H [] [] []
  | cons {h : Nat} {R R' : Reg} {hs : List Nat} {Rs Rs' : List Reg} (hH : H[h]? = some R) (hm : R.mode = 0) (hm' : R'.mode = 0) (hN : NoH R.cells) (hN' : NoH R'.cells) (ht : Give H hs Rs Rs') : Give H (h :: hs) (R :: Rs) (R' :: Rs')
theorem Give.spec : ∀ {hs : List Nat} {Rs Rs' : List Reg}, Give H hs Rs Rs' → Rs.length = hs.length ∧ Rs'.length = hs.length ∧ ∀ (i h : Nat), hs[i]? = some h → ∃ R R', Rs[i]? = some R ∧ H[h]? = some R ∧ R.mode = 0 ∧ Rs'[i]? = some R' ∧ R'.mode = 0 ∧ NoH R.cells ∧ NoH R'.cells
  | _, _, _, .nil => ⟨rfl, rfl, fun i h hi => by simp at hi⟩
  | _, _, _, .cons hH hm hm' hN hN' ht => by
    obtain ⟨e1, e2, e3⟩ := ht.spec
    refine ⟨by simp [e1], by simp [e2], fun i h hi => ?_⟩
    cases i with
    | zero =>
      simp at hi
      subst hi
      exact ⟨_, _, rfl, hH, hm, rfl, hm', hN, hN'⟩
    | succ i =>
      simp only [List.getElem?_cons_succ] at hi ⊢
      exact e3 i h hi
def yY (H : List Reg) : List Nat → List Reg → List Reg
  | h :: hs, R :: Rs => (yY H hs Rs).set h R
  | _, _ => H
theorem xB (H : List Reg) : ∀ (hs : List Nat) (Rs : List Reg), (yY H hs Rs).length = H.length
  | h :: hs, R :: Rs => by rw [yY, List.length_set, xB H hs Rs]
  | [], _ => by rw [yY]; simp
  | _ :: _, [] => by rw [yY]; simp
theorem wH (H : List Reg) : ∀ (hs : List Nat) (Rs : List Reg) (x : Nat), x ∉ hs → (yY H hs Rs)[x]? = H[x]?
  | h :: hs, R :: Rs, x, hx => by
    rw [yY, List.getElem?_set_ne (by rintro rfl; exact hx (List.mem_cons_self ..)), wH H hs Rs x fun hm => hx (List.mem_cons_of_mem _ hm)]
  | [], _, _, _ => by rw [yY]; simp
  | _ :: _, [], _, _ => by rw [yY]; simp
theorem w9 (H : List Reg) : ∀ (hs : List Nat) (Rs : List Reg), hs.Nodup → Rs.length = hs.length → (∀ h ∈ hs, h < H.length) → ∀ (i h : Nat), hs[i]? = some h → (yY H hs Rs)[h]? = Rs[i]?
  | [], _, _, _, _, i, h, hi => by simp at hi
  | _ :: _, [], _, hl, _, i, h, hi => by simp at hl
  | g :: hs, R :: Rs, hn, hl, hlt, i, h, hi => by
    rw [yY]
    cases i with
    | zero =>
      simp at hi
      subst hi
      rw [List.getElem?_set_self (by rw [xB]; exact hlt g (List.mem_cons_self ..))]
      rfl
    | succ i =>
      simp only [List.getElem?_cons_succ] at hi ⊢
      have hne : g ≠ h := by
        rintro rfl
        exact (List.nodup_cons.1 hn).1 (List.mem_of_getElem? hi)
      rw [List.getElem?_set_ne hne]
      exact w9 H hs Rs (List.nodup_cons.1 hn).2 (by simpa using hl) (fun x hx => hlt x (List.mem_cons_of_mem _ hx)) i h hi
theorem zS {f : FuncId} {args : List Operand} {ats : Array TypeId} {cargs : List V} {r : V} {Rs Rs' : List Reg} {K : List Reg} (hs : List Nat) (hnd : hs.Nodup) [he : Ent P f] (ho : o.op = .call { callee := .value (.func f), args := args.toArray, argTypes := ats })
    (hm : zi P f cargs Rs r (Rs' ++ K) true) (hg : Give H hs Rs Rs') (hargs : PassS hs (args.map ρ) cargs) (hN : ∀ r ∈ K, NoH r.cells) (hr : noH r = true) : zh P o ρ H r (yY H hs Rs' ++ K) := by
  intro S hS hρ C φ a w hI next Q hn
  obtain ⟨hm2, ⟨A, hA, hrr⟩, hsz, hd0⟩ := hI
  subst hS
  obtain ⟨g1, g2, g3⟩ := hg.spec
  have hargr : zZ A w φ (args.map ρ) (fun i => (args.map a.eval).toArray[i]?) := vr fun x hx => by
    rw [← hρ x (by rw [ho]; simp only [Op.operands, Call.operands]; simp [hx])]
    exact y9 hrr x
  have hlt : ∀ (i h : Nat), hs[i]? = some h → h < S.H.length := fun i h hi => by
    obtain ⟨R, R', _, q, _⟩ := g3 i h hi
    exact (List.getElem?_eq_some_iff.1 q).1
  let hds : List Hd := hs.map fun h => φ.getD h ⟨none, 0, 0, 0⟩
  have hget : ∀ (i h : Nat), hs[i]? = some h → ∃ hd, φ[h]? = some hd ∧ hds[i]? = some hd := fun i h hi => by
    have h1 : h < φ.length := by rw [hA.ok.len]; exact hlt i h hi
    refine ⟨φ[h], List.getElem?_eq_getElem h1, ?_⟩
    simp only [hds, List.getElem?_map, hi, Option.map_some, List.getD, List.getElem?_eq_getElem h1, Option.getD_some]
  have hback : ∀ (i : Nat) (d : Hd), hds[i]? = some d → ∃ h, hs[i]? = some h ∧ φ[h]? = some d := fun i d hi => by
    cases hx : hs[i]? with
    | none =>
      have : hds[i]? = none := by simp [hds, hx]
      rw [this] at hi
      cases hi
    | some h =>
      obtain ⟨hd, q1, q2⟩ := hget i h hx
      rw [q2] at hi
      cases hi
      exact ⟨h, rfl, q1⟩
  have hH : Handed φ S.H hs hds Rs Rs' := ⟨hnd, by simp [hds], g1, g2, fun i h hi => by
    obtain ⟨R, R', q1, q2, q3, q4, q5, q6, q7⟩ := g3 i h hi
    obtain ⟨hd, p1, p2⟩ := hget i h hi
    exact ⟨hd, R, R', p2, p1, q1, q2, q3, q4, q5, q6, q7⟩⟩
  have hli : ∀ j b, za hds Rs j b → ∃ h, hs[j]? = some h ∧ za φ S.H h b := fun j b ⟨d, r', q1, q2, q3, q4⟩ => by
    obtain ⟨h, p1, p2⟩ := hback j d q1
    obtain ⟨R, R', e1, e2, _⟩ := g3 j h p1
    rw [e1] at q2
    cases q2
    exact ⟨h, p1, d, r', p2, e2, q3, q4⟩
  have hok1 : HeapOk A w hds Rs := by
    refine ⟨by simp [hds, g1], fun j d r' q1 q2 q3 => ?_, fun j j' b q1 q2 => ?_, fun j b q1 => ?_, fun j d r' b q1 q2 q3 q4 => ?_, hA.ok.low⟩
    · obtain ⟨h, p1, p2⟩ := hback j d q1
      obtain ⟨R, R', e1, e2, e3, e4, e5, e6, e7⟩ := g3 j h p1
      rw [e1] at q2
      cases q2
      obtain ⟨f1, f2⟩ := hA.ok.regs h d r' p2 e2 q3
      refine ⟨f1, ?_⟩
      cases hk : d.blk with
      | none => rw [hk] at f2; exact f2
      | some b =>
        rw [hk] at f2
        obtain ⟨c, k1, k2, k3, k4⟩ := f2
        exact ⟨c, k1, k2, k3, yy e6 k4⟩
    · obtain ⟨h, p1, p2⟩ := hli j b q1
      obtain ⟨h', p1', p2'⟩ := hli j' b q2
      have := hA.ok.inj _ _ _ p2 p2'
      subst this
      exact (List.getElem?_inj (List.getElem?_eq_some_iff.1 p1).1 hnd).1 (p1.trans p1'.symm)
    · obtain ⟨h, p1, p2⟩ := hli j b q1
      exact hA.ok.apart _ _ p2
    · obtain ⟨h, p1, p2⟩ := hback j d q1
      obtain ⟨R, R', e1, e2, e3, _⟩ := g3 j h p1
      rw [e1] at q2
      cases q2
      omega
  have hcall := hm A hds w (args.map a.eval).toArray hok1 (PassS.rels (fun i h hi hd hhd => by
    obtain ⟨hd', p1, p2⟩ := hget i h hi
    rw [hhd] at p1
    cases p1
    exact p2) hargs hargr) (by simp [← PassS.length hargs])
  unfold Oper.wp
  rw [vp ho, Oper.upon_enter]
  refine hcall.mono ?_
  rintro e w' ⟨x, φ', A', rfl, k1, k2, k3, k4, k5, k6⟩
  obtain ⟨ψ', rfl⟩ : ∃ ψ', φ' = hds ++ ψ' := by
    refine ⟨φ'.drop hds.length, ?_⟩
    refine List.ext_getElem? fun i => ?_
    rcases Nat.lt_or_ge i hds.length with hi | hi
    · rw [List.getElem?_append_left hi, k6 i _ (List.getElem?_eq_getElem hi), List.getElem?_eq_getElem hi]
    · rw [List.getElem?_append_right hi, List.getElem?_drop, Nat.add_sub_cancel' hi]
  have hno : ∀ b, (∀ h ∈ hs, ¬ za φ S.H h b) → ∀ j, ¬ za hds Rs j b := fun b hn j hl => by
    obtain ⟨h, p1, p2⟩ := hli j b hl
    exact hn h (List.mem_of_getElem? p1) p2
  have hJ := hA.joinMs (H2 := yY S.H hs Rs') hH hN (fun i h hi => w9 S.H hs Rs' hnd g2 (fun x hx => by obtain ⟨i, hi⟩ := List.getElem?_of_mem hx; exact hlt i x hi) i h hi) (fun x hx => wH S.H hs Rs' x hx) (xB S.H hs Rs')
    k1 (fun b hb => (k3 b hb).imp (fun h => h.2) id) (fun j b hl => (k4 j b hl).imp id fun ⟨j0, h⟩ => by obtain ⟨g, p1, p2⟩ := hli j0 b h; exact ⟨g, List.mem_of_getElem? p1, p2⟩) (fun b hb hn => k5.block b hb (hno b hn)) k5.size k5.os k5.tape k5.output
  have hr' : zZ (fun b => A b ∨ A' b) w' (φ ++ ψ') S.tmps (fun i => a.tmps[i]?) := zZ.mono (fun b hb => ⟨Or.inl hb, k5.block b (hA.ok.low b hb) (hno b fun h hm hl => hA.ok.apart h b hl hb)⟩) (fun h hd hh => z1 hh) hrr
  have hx : Rel (fun b => A b ∨ A' b) w' (φ ++ ψ') r x := xj hr (Rel.mono (fun b hb => ⟨Or.inr hb, rfl⟩) (fun _ _ h => h) k2)
  obtain ⟨h7, h8⟩ := xk (H := yY S.H hs Rs' ++ K) hsz hr' hx o.dst
  refine hn x w' (φ ++ ψ') ⟨by cases o.dst <;> exact hm2, ⟨_, ?_, h7⟩, h8, by cases o.dst <;> exact hd0⟩
  rw [y4]
  exact hJ
end
section
variable {P : Program} {l : List V} {H : List Reg}
theorem zi.frozen {f : FuncId} {cargs : List V} {r r' : V} {K : List Reg} {al : Bool} (h : zi P f cargs [] r K al) (hp : Pur true K r r') : zi P f cargs [] r' [] true := by
  intro A φ w xs hok hrel hsz
  refine (h A φ w xs hok hrel hsz).mono ?_
  rintro e w' ⟨x, φ', A', rfl, k1, k2, k3, k4, k5, k6⟩
  have hφ : φ = [] := List.length_eq_zero_iff.1 hok.len
  refine ⟨x, [], fun b => A' b ∨ ∃ h, za φ' K h b, rfl, ⟨rfl, fun h hd r h1 => by simp at h1, fun h h' b ⟨hd, r, h1, _⟩ => by simp at h1, fun h b ⟨hd, r, h1, _⟩ => by simp at h1, fun h hd r b h1 => by simp at h1, fun b hb => ?_⟩,
    Pur.rel k1 (fun b hb => Or.inl hb) (fun _ h b hb => Or.inr ⟨h, hb⟩) hp k2, fun b hb => ?_, fun h b ⟨hd, r, h1, _⟩ => by simp at h1, k5, fun h hd h1 => by rw [hφ] at h1; simp at h1⟩
  · rcases hb with hb | ⟨h, hd, r, q1, q2, q3, q4⟩
    · exact k1.low b hb
    · exact xd k1 q1 q2 (by omega) q4
  · rcases hb with hb | ⟨h, hb⟩
    · exact (k3 b hb).imp (fun h => ⟨rfl, h.2⟩) id
    · rcases k4 h b hb with h1 | ⟨h9, hd, r, p1, _⟩
      · exact Or.inr h1
      · rw [hφ] at p1
        simp at p1
theorem vM {t : Tmp} {v r : V} {K : List Reg} (k : Nat) (ψ : List Nat) (hfix : ∀ i, i < k → ψ[i]? = some i) (hnd : ψ.Nodup) (hv : evO l (.tmp t) = some v) (hr : Le ψ r v) (hH : HLes ψ H ψ K) :
    (Exit.ret = .ret ∨ Exit.ret = .normal) ∧ Out true r K (vb ⟨l, H, k⟩ [t]) ⟨l, H, k⟩ := by
  have : vb ⟨l, H, k⟩ [t] = v := wg (H := H) (m := k) (x := .tmp t) hv
  rw [this]
  exact ⟨Or.inl rfl, vD ψ hfix (wl hnd hH) hr (Or.inl rfl)⟩
theorem xm {ψ : List Nat} : ∀ i, i < 1 → (0 :: ψ)[i]? = some i := fun i hi => by
  obtain rfl : i = 0 := by omega
  rfl
theorem qg {T S : St} (k : Nat) (ψ : List Nat) (hm : T.m = k) (hm' : S.m = k) (hfix : ∀ i, i < k → ψ[i]? = some i) (hn : ψ.Nodup) (hH : HLes ψ S.H ψ T.H) (ht : Les ψ T.tmps S.tmps) : Sub T S := pT ψ (hm.trans hm'.symm) (fun i hi => hfix i (by omega)) (wl hn hH) ht
theorem yH {o : Oper} {ρ : Operand → V} {K H' : List Reg} {f : FuncId} {args : List Operand} {ats : Array TypeId} {cargs : List V} {r r' : V} {al : Bool} [he : Ent P f] (ho : o.op = .call { callee := .value (.func f), args := args.toArray, argTypes := ats })
    (hm : zi P f cargs [] r K al) (hargs : Purs (!al) H (args.map ρ) cargs) (hN : ∀ r ∈ K, NoH r.cells) (hr : shV H.length r = r') (hH : H ++ K = H') : zh P o ρ H r' H' := by
  subst hr hH
  exact ua ho hm hargs hN
end
end Go.Proofs.Ytkcicbigpbdjpaa.Ab
namespace Go.Proofs.Ytkcicbigpbdjpaa.Ab
open Go.RowKit
section
variable {P : Program} {ops : Array Oper} {md : Region.Mode} {G : List Reg → Prop} {Q : Exit → St → Prop}
def wb (P : Program) (ops : Array Oper) (G : List Reg → Prop) (i : Nat) (K : St → Prop) (S : St) : Prop :=
  match ops[i]? with
  | none => K S
  | some o => (zw ops S o = some true ∧ ∃ v H', zh P o S.ev S.H v H' ∧ G H' ∧ K (S.put o.dst v H')) ∨ (zw ops S o = some false ∧ K (S.put o.dst (.k undef) S.H))
def wQ (P : Program) (md : Region.Mode) (ops : Array Oper) (G : List Reg → Prop) (Q : Exit → St → Prop) : Nat → Array Bool → St → Prop
  | 0, listed, S => Region.ready md ops listed = [] ∧ Q .normal S
  | n + 1, listed, S => (Region.ready md ops listed = [] → Q .normal S) ∧ ∀ i ∈ Region.ready md ops listed, wb P ops G i (wQ P md ops G Q n (listed.setIfInBounds i true)) S
theorem wb.mono {i : Nat} {K K' : St → Prop} {S : St} (hk : ∀ S, K S → K' S) (h : wb P ops G i K S) : wb P ops G i K' S := by
  unfold wb at *
  split at h
  · exact hk _ h
  · rcases h with ⟨h1, v, H', h2, h3, h4⟩ | ⟨h1, h2⟩
    · exact Or.inl ⟨h1, v, H', h2, h3, hk _ h4⟩
    · exact Or.inr ⟨h1, hk _ h2⟩
theorem wQ.plain : ∀ (n : Nat) (listed : Array Bool) (S : St), wQ P md ops G Q n listed S → wR P md ops (List.range ops.size) Q n listed S
  | 0, listed, S, h => h
  | n + 1, listed, S, h => by
    refine ⟨h.1, fun i hi => ?_⟩
    have h1 := h.2 i hi
    unfold wb at h1
    unfold AOp
    cases ho : ops[i]? with
    | none => rw [ho] at h1; exact wQ.plain n _ S h1
    | some o =>
      rw [ho] at h1
      rcases h1 with ⟨hw, v, H', hs, _, hk⟩ | ⟨hw, hk⟩
      · exact Or.inl ⟨hw, v, H', hs, fun hn => absurd (List.mem_range.2 (Array.getElem?_eq_some_iff.1 ho).1) hn, wQ.plain n _ _ hk⟩
      · exact Or.inr ⟨hw, wQ.plain n _ _ hk⟩
def xe (P : Program) (ops : Array Oper) (G : List Reg → Prop) (o : Oper) (v : V) (S : St) : Prop :=
  (zw ops S o = some true ∧ ∀ H, G H → zh P o S.ev H v H) ∨ (zw ops S o = some false ∧ v = .k undef)
theorem xe.aop {i : Nat} {o : Oper} {v : V} {S : St} {K : St → Prop} (hG : G S.H) (hi : ops[i]? = some o) (h : xe P ops G o v S) (hk : K (S.put o.dst v S.H)) : wb P ops G i K S := by
  unfold wb
  rw [hi]
  rcases h with ⟨h1, h2⟩ | ⟨h1, rfl⟩
  · exact Or.inl ⟨h1, v, S.H, h2 _ hG, hG, hk⟩
  · exact Or.inr ⟨h1, hk⟩
theorem xe.keep {oi oj : Oper} {v u : V} {S : St} {H' : List Reg} (hap : ∀ d, oj.dst = some d → d ∉ oi.looksAt ops) (h : xe P ops G oi v S) : xe P ops G oi v (S.put oj.dst u H') := by
  unfold xe at *
  rw [xT hap]
  rcases h with ⟨h1, h2⟩ | h1
  · exact Or.inl ⟨h1, fun H hH => (h2 H hH).congr (yk hap)⟩
  · exact Or.inr h1
theorem wb.put {j : Nat} {oi oj : Oper} {v : V} {S : St} {K : St → Prop} (hG : G S.H) (hj : ops[j]? = some oj) (hap : oi.apart ops oj = true)
    (hy : xe P ops G oi v S) (h : wb P ops G j K (S.put oi.dst v S.H)) : wb P ops G j (fun S' => G S'.H ∧ xe P ops G oi v S' ∧ K (S'.put oi.dst v S'.H)) S := by
  obtain ⟨h1, h2, h3⟩ := Oper.apart_spec hap
  unfold wb at *
  rw [hj] at *
  simp only at h ⊢
  rw [xT h1, y4] at h
  rcases h with ⟨hw, u, H', hs, hH, hk⟩ | ⟨hw, hk⟩
  · refine Or.inl ⟨hw, u, H', hs.congr (fun x hx => (yk h1 x hx).symm), hH, by rw [y4]; exact hH, hy.keep h3, ?_⟩
    rw [y4, ← xE v u S.H H' h2]
    exact hk
  · refine Or.inr ⟨hw, by rw [y4]; exact hG, hy.keep h3, ?_⟩
    rw [y4, ← xE v (.k undef) S.H S.H h2]
    exact hk
theorem sB {i : Nat} {oi : Oper} {v : V} (hi : ops[i]? = some oi) :
    ∀ (n : Nat) (listed : Array Bool) (S : St), G S.H →
      (∀ j oj, ops[j]? = some oj → j ≠ i → listed.getD j true = false → (∀ e ∈ oj.after, Region.binds md e = true → e.on ≠ i) → oi.apart ops oj = true) →
      i ∈ Region.ready md ops listed → xe P ops G oi v S →
      wQ P md ops G Q n (listed.setIfInBounds i true) (S.put oi.dst v S.H) → wQ P md ops G Q (n + 1) listed S := by
  intro n
  induction n with
  | zero =>
    intro listed S hG _ hr hy H
    refine ⟨fun h => (by rw [h] at hr; cases hr), fun j hj => ?_⟩
    by_cases hji : j = i
    · subst hji; exact hy.aop hG hi H
    · have := ready_mono hj hji
      rw [H.1] at this
      cases this
  | succ n ih =>
    intro listed S hG hfree hr hy H
    refine ⟨fun h => (by rw [h] at hr; cases hr), fun j hj => ?_⟩
    by_cases hji : j = i
    · subst hji; exact hy.aop hG hi H
    · have h1 := H.2 j (ready_mono hj hji)
      obtain ⟨hjun, oj, hoj, hall⟩ := mem_ready.1 hj
      have hiun := (mem_ready.1 hr).1
      have hnot : ∀ e ∈ oj.after, Region.binds md e = true → e.on ≠ i := fun e he hb heq => by
        have h1 := hall e he hb
        rw [heq] at h1
        rcases Nat.lt_or_ge i listed.size with h' | h'
        · simp [h'] at hiun h1; rw [hiun] at h1; cases h1
        · simp [Array.getElem?_eq_none h'] at h1
      have h2 := wb.put hG hoj (hfree j oj hoj hji hjun hnot) hy h1
      have hfree' : ∀ k ok, ops[k]? = some ok → k ≠ i → (listed.setIfInBounds j true).getD k true = false →
          (∀ e ∈ ok.after, Region.binds md e = true → e.on ≠ i) → oi.apart ops ok = true := fun k ok hk hki hun hno => by
        refine hfree k ok hk hki ?_ hno
        by_cases hjk : j = k
        · subst hjk; exact hjun
        · rw [getD_set_ne true hjk] at hun; exact hun
      refine wb.mono (fun S' h3 => ih (listed.setIfInBounds j true) S' h3.1 hfree' (ready_mono hr (Ne.symm hji)) h3.2.1 ?_) h2
      rw [Array.setIfInBounds_comm _ _ hji]
      exact h3.2.2
end
section
variable {P : Program} {T : Tab} {ops : Array Oper} {G : List Reg → Prop} {Q : Exit → St → Prop} {l l' : List V} {H H' K : List Reg} {m : Nat} {o : Oper} {d : List Nat} {n : Nat}
structure APerG (P : Program) (ops : Array Oper) (G : List Reg → Prop) (d : List Nat) (n : Nat) (Q : Exit → St → Prop) (S : St) : Prop where
  out : wQ P .any ops G Q n (mkL ops.size d) S
theorem qX {id : Nat} {S : St} (G : List Reg → Prop) (n : Nat) (hn : ops.size = n) [hT : TabC P T] (h : APerG P ops G [] n Q S) : AW P (.region id ops true) Q S := by
  subst hn
  exact wi _ hT.wide (wQ.plain _ _ _ h.out)
theorem ub {S : St} (hr : (Region.ready .any ops (mkL ops.size d) == []) = true) (h : Q .normal S) : APerG P ops G d 0 Q S := ⟨⟨by simpa using hr, h⟩⟩
theorem vw (i : Nat) {v : V} (hG : G H) (ho : ops[i]? = some o) (hc : vv ops d i = true) (hw : zw ops ⟨l, H, m⟩ o = some true) (hs : ∀ H, G H → zh P o (St.ev ⟨l, H, m⟩) H v H) (hp : xg l H o.dst v = some (l', K)) (hk : APerG P ops G (i :: d) n Q ⟨l', K, m⟩) : APerG P ops G d (n + 1) Q ⟨l, H, m⟩ := by
  simp only [vv, Bool.and_eq_true] at hc
  refine ⟨sB ho n _ _ hG (Region.free_spec ho hc.1) (by simpa using hc.2) (Or.inl ⟨hw, fun H1 h1 => hs H1 h1⟩) ?_⟩
  rw [show (⟨l, H, m⟩ : St).put o.dst v (⟨l, H, m⟩ : St).H = ⟨l', K, m⟩ from yI hp m]
  exact hk.out
theorem xM (i : Nat) {v : V} [hT : TabC P T] (hG : G H) (ho : ops[i]? = some o) (hc : vv ops d i = true) (hw : zw ops ⟨l, H, m⟩ o = some true) (h : ∀ H, wq T l H o.op = some (v, H)) (hp : xg l H o.dst v = some (l', K)) (hk : APerG P ops G (i :: d) n Q ⟨l', K, m⟩) : APerG P ops G d (n + 1) Q ⟨l, H, m⟩ :=
  vw i hG ho hc hw (fun H1 _ => yx (m := m) hT.ok (h H1)) hp hk
def BrG (P : Program) (ops : Array Oper) (G : List Reg → Prop) (d : List Nat) (n : Nat) (Q : Exit → St → Prop) (l : List V) (H : List Reg) (m : Nat) (i : Nat) : Prop :=
  wb P ops G i (wQ P .any ops G Q n ((mkL ops.size d).setIfInBounds i true)) ⟨l, H, m⟩
theorem kq {i : Nat} {v : V} (ho : ops[i]? = some o) (hw : zw ops ⟨l, H, m⟩ o = some true) (hs : zh P o (St.ev ⟨l, H, m⟩) H v H') (hG : G H') (hp : xg l H' o.dst v = some (l', K)) (hk : APerG P ops G (i :: d) n Q ⟨l', K, m⟩) : BrG P ops G d n Q l H m i := by
  unfold BrG wb
  rw [ho]
  refine Or.inl ⟨hw, v, H', hs, hG, ?_⟩
  rw [yI hp m]
  exact hk.out
theorem kQ {i : Nat} {v : V} [hT : TabC P T] (ho : ops[i]? = some o) (hw : zw ops ⟨l, H, m⟩ o = some true) (h : wq T l H o.op = some (v, H')) (hG : G H') (hp : xg l H' o.dst v = some (l', K)) (hk : APerG P ops G (i :: d) n Q ⟨l', K, m⟩) : BrG P ops G d n Q l H m i := kq ho hw (yx hT.ok h) hG hp hk
theorem ur (i : Nat) (hr : (Region.ready .any ops (mkL ops.size d) == [i]) = true) (h : BrG P ops G d n Q l H m i) : APerG P ops G d (n + 1) Q ⟨l, H, m⟩ := by
  have hr' : Region.ready .any ops (mkL ops.size d) = [i] := by simpa using hr
  refine ⟨⟨fun h0 => (by rw [h0] at hr'; cases hr'), fun x hx => ?_⟩⟩
  rw [hr'] at hx
  simp at hx
  subst hx
  exact h
end
section
variable {P : Program} {l : List V} {H : List Reg}
end
section
variable {P : Program} {T : Tab} {ops : Array Oper} {Q : Exit → St → Prop} {l : List V} {H : List Reg} {m : Nat} {o : Oper} {ρ : Operand → V}
theorem ww {t : TypeId} {x : Operand} {h off n : Nat} {r : Reg} {v : V} [ht : Ag P t n] (ho : o.op = .load t x) (hx : ρ x = .ptr h off) (hr : H[h]? = some r) (hm : Nat.ble r.mode 1 = true) (hn : Nat.ble (off + n) r.cells.length = true) (hv : V.agg ((r.cells.drop off).take n) = v) : zh P o ρ H v H := by
  subst hv
  exact xZ ho hx hr (Nat.le_of_ble_eq_true hm) (Nat.le_of_ble_eq_true hn)
theorem rd_sc {t : TypeId} {x : Operand} {h off : Nat} {r : Reg} {c : V} [ht : Sc P t] (ho : o.op = .load t x) (hx : ρ x = .ptr h off) (hr : H[h]? = some r) (hm : Nat.ble r.mode 1 = true) (hc : r.cells[off]? = some c) : zh P o ρ H c H := xl ho hx hr (Nat.le_of_ble_eq_true hm) hc
end
end Go.Proofs.Ytkcicbigpbdjpaa.Ab
namespace Go.Proofs.Ytkcicbigpbdjpaa.Ab
open Go.RowKit
def uV (k : IntKind) (a b : Int) : Int := k.wrap ((BitVec.ofInt k.bits a &&& BitVec.ofInt k.bits b).toNat : Nat)
def ku (k : IntKind) (a b : Int) : Int := k.wrap ((BitVec.ofInt k.bits a ^^^ BitVec.ofInt k.bits b).toNat : Nat)
def lI (k : IntKind) (a : Int) (n : Nat) : Int := a.fdiv (2 ^ (min n k.bits))
section
variable {P : Program} {o : Oper} {ρ : Operand → V} {H : List Reg}
theorem vn {t t' : TypeId} {x y : Operand} {k : IntKind} {a b : Int} (ho : o.op = .binOp .and t x y t') (hx : ρ x = .k (.int k a)) (hy : ρ y = .k (.int k b)) : zh P o ρ H (.k (.int k (uV k a b))) H :=
  yA ho hx hy fun w => by rw [Sem.run_bind, yF]; simp [binOp, Op.intBits, uV]
theorem pW {t t' : TypeId} {x y : Operand} {k : IntKind} {a b : Int} (ho : o.op = .binOp .xor t x y t') (hx : ρ x = .k (.int k a)) (hy : ρ y = .k (.int k b)) : zh P o ρ H (.k (.int k (ku k a b))) H :=
  yA ho hx hy fun w => by rw [Sem.run_bind, yF]; simp [binOp, Op.intBits, ku]
theorem tM {t t' : TypeId} {x y : Operand} {k k' : IntKind} {a : Int} {n : Nat} (ho : o.op = .binOp .shr t x y t') (hx : ρ x = .k (.int k a)) (hy : ρ y = .k (.int k' n)) : zh P o ρ H (.k (.int k (lI k a n))) H :=
  yA ho hx hy fun w => by rw [Sem.run_bind, yF]; simp [binOp, Op.shift, lI, show ¬ ((n : Int) < 0) by omega]
end
theorem t8 (a : Int) : 0 ≤ uV .i64 a 255 ∧ uV .i64 a 255 ≤ 255 := by
  have h : (BitVec.ofInt 64 a &&& BitVec.ofInt 64 255).toNat ≤ 255 := by
    rw [BitVec.toNat_and]
    exact Nat.le_trans Nat.and_le_right (by decide)
  have h' : (BitVec.ofInt IntKind.i64.bits a &&& BitVec.ofInt IntKind.i64.bits 255).toNat ≤ 255 := h
  unfold uV
  rw [IntKind.wrap_i64]
  omega
end Go.Proofs.Ytkcicbigpbdjpaa.Ab
namespace Go.Proofs.Ytkcicbigpbdjpaa.Ab
open Go.RowKit
section
variable {P : Program} {o : Oper} {ρ : Operand → V} {H : List Reg} {C : Cx} {A : Nat → Prop} {φ : List Hd} {w : World}
theorem mB (w : World) (c : Array Value) (e : TypeId) (i : Nat) : ((w.drewN 0).alloc (.cells c e)).cell? ⟨w.heap.size, i, none⟩ = c[i]? := by
  have h : ((w.drewN 0).alloc (.cells c e)).heap[w.heap.size]? = some (.cells c e (0, 0)) := Go.heap_alloc_new (w.drewN 0) _
  unfold World.cell?
  rw [h]
  rfl
theorem InvA.alloc_read (hA : InvA C A φ H w) (ob : Obj) : InvA C (fun b => A b ∨ b = w.heap.size) φ H ((w.drewN 0).alloc ob) := by
  have hheap : ∀ b, b < w.heap.size → ((w.drewN 0).alloc ob).heap[b]? = w.heap[b]? := fun b hb => Below.heap_alloc (w.drewN 0) ob b hb
  have hsz : ((w.drewN 0).alloc ob).heap.size = w.heap.size + 1 := by show (Array.push _ _).size = _; rw [Array.size_push]; rfl
  have hlow : ∀ h b, za φ H h b → b < w.heap.size := fun h b ⟨hd, r, h1, h2, h3, h4⟩ => xd hA.ok h1 h2 (by omega) h4
  refine ⟨⟨hA.ok.len, fun h hd r h1 h2 h3 => ?_, hA.ok.inj, fun h b h1 hb => ?_, fun h hd r b h1 h2 h3 h4 => Or.inl (hA.ok.frz h hd r b h1 h2 h3 h4), fun b hb => ?_⟩, fun b hb => ?_, hA.own, ?_, hA.pre⟩
  · obtain ⟨e1, e2⟩ := hA.ok.regs h hd r h1 h2 h3
    refine ⟨e1, ?_⟩
    cases hk : hd.blk with
    | none => rw [hk] at e2; exact e2
    | some b =>
      rw [hk] at e2
      obtain ⟨c, k1, k2, k3, k4⟩ := e2
      exact ⟨c, (hheap b (Array.getElem?_eq_some_iff.1 k1).1).trans k1, k2, k3, zZ.mono (fun b hb => ⟨Or.inl hb, hheap b (hA.ok.low b hb)⟩) (fun _ _ h => h) k4⟩
  · rcases hb with hb | rfl
    · exact hA.ok.apart _ _ h1 hb
    · exact absurd (hlow _ _ h1) (Nat.lt_irrefl _)
  · rcases hb with hb | rfl
    · rw [hsz]; exact Nat.lt_succ_of_lt (hA.ok.low b hb)
    · rw [hsz]; exact Nat.lt_succ_self _
  · rcases hb with hb | rfl
    · exact hA.old b hb
    · exact Or.inr hA.frame.size
  · obtain ⟨f1, f2, f3, f4, f5⟩ := hA.frame
    exact ⟨f1, f2, f3, by rw [hsz]; omega, fun i hi hno => (hheap i (by omega)).trans (f5 i hi hno)⟩
theorem pg {t e n b len : Nat} {ps : List (Nat × Operand)} {cs : List V} [ht : Sl P t e n b] (ho : o.op = .buildSlice t len ps.toArray) (hlen : len * n ≤ 16777216)
    (hf : we (fun i => some (i * n, n)) (List.replicate (len * n) V.any) (ps.map fun p => (p.1, ρ p.2)) = some cs) (hcs : cs.length = len * n) (hN : NoH cs) : zh P o ρ H (.lst len cs) H := y7 fun C A φ a w hA hh => by
  have hx : ∀ p ∈ ps, Rel A w φ (ρ p.2) (a.eval p.2) := fun p hm => hh p.2 (by simp only [ho, Op.operands]; simpa using ⟨p.1, hm⟩)
  obtain ⟨i, z, i1, i2, i3, i4, i5⟩ := ht.i
  have hpos := ht.pos
  have e1 : (List.map (fun p : Nat × Operand => (p.1, a.eval p.2)) ps) = (ps.toArray.map fun (i, x) => (i, a.eval x)).toList := by simp
  have key : ∀ c0 : Array Value, c0.size = len * n → ∃ c', Instr.fill (fun i => some (i * n, n)) c0 (ps.toArray.map fun (i, x) => (i, a.eval x)).toList = some c' ∧ c'.size = cs.length ∧ zZ A w φ cs (fun i => c'[i]?) := fun c0 h0 => by
    rw [← e1]
    exact w3 hx hf (by simp [h0]) (ui _ c0 h0)
  have hle : ¬ (len * n > 2 ^ 24) := by omega
  have fin : ∀ c' : Array Value, c'.size = cs.length → zZ A w φ cs (fun i => c'[i]?) → ((execOp a.eval o).run P w = .ok (.value (.slice (some ⟨w.heap.size, 0, none⟩) len len)) (w.alloc (.cells c' e))) → _ := fun c' k2 k3 hrun =>
    (⟨.slice (some ⟨w.heap.size, 0, none⟩) len len, (w.drewN 0).alloc (.cells c' e), (fun b => A b ∨ b = w.heap.size), φ, Or.inl hrun, hA.alloc_read _, fun b hb => ⟨Or.inl hb, (xV hA _ 0 b hb).2⟩, fun h hd hh => hh, by
      rw [Rel]
      refine ⟨_, len, rfl, Nat.le_refl _, by rw [hcs]; exact Nat.le_mul_of_pos_right len hpos, Or.inr ⟨w.heap.size, 0, rfl, Or.inr rfl, ?_⟩⟩
      refine z7 (zZ.mono (fun b hb => ⟨Or.inl hb, (xV hA (.cells c' e) 0 b hb).2⟩) (fun _ _ h => h) (yy (φ' := []) hN k3)) fun i hi => ?_
      rw [Nat.zero_add]
      exact mB w c' e i⟩ : ∃ x w' A' φ', ((execOp a.eval o).run P w = .ok (.value x) w' ∨ ((execOp a.eval o).run P w = .ok .skip w' ∧ x = undef)) ∧ InvA C A' φ' H w' ∧ (∀ b, A b → A' b ∧ w'.heap[b]? = w.heap[b]?) ∧ (∀ (h : Nat) (hd : Hd), φ[h]? = some hd → φ'[h]? = some hd) ∧ Rel A' w' φ' (.lst len cs) x)
  by_cases h0 : len * n = 0
  · obtain ⟨c', k1, k2, k3⟩ := key ((Array.range (len * n)).map (fun i => (#[] : Array Value)[i % (#[] : Array Value).size]!)) (by simp)
    refine fin c' k2 k3 ?_
    simp only [execOp, ho, Instr.buildSlice, Sem.run_bind, run_underlying ht.u, Result.andThen_ok, sizeOf, typeInfo, run_program, i1, Sem.run_pure, i2, if_neg hle]
    rw [if_pos h0]
    rw [Sem.run_bind, Sem.run_pure, Result.andThen_ok, k1]
    simp [newRow]
  · obtain ⟨c', k1, k2, k3⟩ := key ((Array.range (len * n)).map (fun i => z.cells[i % z.cells.size]!)) (by simp)
    refine fin c' k2 k3 ?_
    simp only [execOp, ho, Instr.buildSlice, Sem.run_bind, run_underlying ht.u, Result.andThen_ok, sizeOf, typeInfo, run_program, i1, Sem.run_pure, i2, if_neg hle]
    rw [if_neg h0]
    simp only [zeroValue, Sem.run_bind, typeInfo, run_program, i1, i4, Sem.run_pure, Result.andThen_ok, k1]
    simp [newRow]
theorem yh {t e n b len : Nat} {ps : List (Nat × Operand)} {cs : List V} [ht : Sl P t e n b] (ho : o.op = .buildSlice t len ps.toArray) (hlen : Nat.ble (len * n) 16777216 = true)
    (hf : we (fun i => some (i * n, n)) (List.replicate (len * n) V.any) (ps.map fun p => (p.1, ρ p.2)) = some cs) (hcs : Nat.beq cs.length (len * n) = true) (hN : noHs cs = true) : zh P o ρ H (.lst len cs) H :=
  pg ho (Nat.le_of_ble_eq_true hlen) hf (Nat.eq_of_beq_eq_true hcs) (wx hN)
end
end Go.Proofs.Ytkcicbigpbdjpaa.Ab
namespace Go.Proofs.Ytkcicbigpbdjpaa.Ab
open Go.RowKit
section
variable {P : Program} {o : Oper} {ρ : Operand → V} {H : List Reg}
structure IntFs (P : Program) (t : TypeId) (fs : Array Field) : Prop where
  u : P.underlying t = some (.struct fs)
  held : P.stoodInHeld t = false
  guard : P.eqGuardType P.depth t = false
  fs : ∀ (i : Nat) (f : Field), fs.toList[i]? = some f → (f.name == "_") = false ∧ f.offset = i ∧ P.underlying f.type = some (.int .i64)
theorem tt {d : Nat} {xs ys : Array Value} {w : World} : ∀ (fs : List Field) (us bs : List Int), us.length = fs.length → bs.length = fs.length →
    (∀ (j : Nat) (f : Field) (a b : Int), fs[j]? = some f → us[j]? = some a → bs[j]? = some b → (f.name == "_") = false ∧ P.underlying f.type = some (.int .i64) ∧ xs[f.offset]? = some (.int .i64 a) ∧ ys[f.offset]? = some (.int .i64 b)) → (Op.eqFields (d + 1) xs ys fs).run P w = .ok (decide (us = bs)) w
  | [], [], [], _, _, _ => by simp [Op.eqFields]
  | f :: fs, a :: us, b :: bs, h1, h2, h => by
    obtain ⟨g1, g2, g3, g4⟩ := h 0 f a b rfl rfl rfl
    have hn' : f.name ≠ "_" := by simpa using g1
    have ha : (part f.type xs f.offset).run P w = .ok (.int .i64 a) w := by simp [part, isAgg, run_underlying g2, g3]
    have hb : (part f.type ys f.offset).run P w = .ok (.int .i64 b) w := by simp [part, isAgg, run_underlying g2, g4]
    have ih := tt (d := d) (xs := xs) (ys := ys) (w := w) fs us bs (by simpa using h1) (by simpa using h2) (fun j f' a' b' q1 q2 q3 => h (j + 1) f' a' b' q1 q2 q3)
    rw [Op.eqFields]
    simp only [if_pos hn', Sem.run_bind, ha, hb, run_equalIn_int w d f.type .i64 .i64 a b g2, Result.andThen_ok]
    by_cases hab : a = b
    · subst hab
      simpa using ih
    · simp [hab]
  | [], _ :: _, _, h1, _, _ => by simp at h1
  | [], [], _ :: _, _, h2, _ => by simp at h2
  | _ :: _, [], _, h1, _, _ => by simp at h1
  | _ :: _, _ :: _, [], _, h2, _ => by simp at h2
theorem sv {A : Nat → Prop} {w : World} {φ : List Hd} {us : List Int} {xs : Array Value} (h : zZ A w φ (us.map I) (fun i => xs[i]?)) {j : Nat} {a : Int} (ha : us[j]? = some a) : xs[j]? = some (.int .i64 a) := by
  obtain ⟨y, h1, h2⟩ := zz h (i := j) (c := I a) (by rw [List.getElem?_map, ha]; rfl)
  simp only [Rel] at h2
  subst h2
  exact h1
theorem sh {fs : Array Field} {t : TypeId} (hf : IntFs P t fs) {A : Nat → Prop} {w : World} {φ : List Hd} {us bs : List Int} {xs ys : Array Value} (ha : us.length = fs.size) (hb : bs.length = fs.size) (hx : zZ A w φ (us.map I) (fun i => xs[i]?)) (hy : zZ A w φ (bs.map I) (fun i => ys[i]?)) :
    (Op.equalIn 10000 t (.agg xs) (.agg ys)).run P w = .ok (decide (us = bs)) w := by
  have he : P.fieldsOf t = fs := by simp [Program.fieldsOf, hf.u]
  rw [show (10000 : Nat) = 9999 + 1 from rfl, run_equalIn_struct (P := P) w 9999 t xs ys (by rw [he]; exact hf.u) hf.held, he]
  refine tt (d := 9998) fs.toList us bs (by simpa using ha) (by simpa using hb) fun j f a b q1 q2 q3 => ?_
  obtain ⟨g1, g2, g3⟩ := hf.fs j f q1
  rw [g2]
  exact ⟨g1, g3, sv hx q2, sv hy q3⟩
theorem qj {t t' : TypeId} {x y : Operand} {us bs : List Int} (fs : Array Field) (hf : IntFs P t fs) (ho : o.op = .binOp .neq t x y t') (hx : ρ x = .agg (us.map I)) (hy : ρ y = .agg (bs.map I)) (ha : us.length = fs.size) (hb : bs.length = fs.size) : zh P o ρ H (.k (.bool (!decide (us = bs)))) H := zl fun A φ a w _ h => by
  have h1 := h x (by simp [ho, Op.operands])
  have h2 := h y (by simp [ho, Op.operands])
  rw [hx, Rel] at h1
  rw [hy, Rel] at h2
  obtain ⟨xs, e1, _, r1⟩ := h1
  obtain ⟨ys, e2, _, r2⟩ := h2
  refine ⟨.bool (!decide (us = bs)), ?_, by simp [Rel]⟩
  have hr : ((do eqGuard .neq t x y (.agg xs) (.agg ys); binOp .neq t (.agg xs) (.agg ys) : Sem Value)).run P w = .ok (.bool (!decide (us = bs))) w := by
    rw [Sem.run_bind, run_eqGuard_agg w .neq t x y xs ys hf.guard]
    simp only [Result.andThen_ok, run_neq_struct, sh hf ha hb r1 r2]
  simp only [execOp, ho, e1, e2]
  rw [Sem.run_bind, hr]
  rfl
theorem qm {t t' : TypeId} {x y : Operand} {us bs : List Int} (fs : Array Field) (hf : IntFs P t fs) (ho : o.op = .binOp .eql t x y t') (hx : ρ x = .agg (us.map I)) (hy : ρ y = .agg (bs.map I)) (ha : us.length = fs.size) (hb : bs.length = fs.size) : zh P o ρ H (.k (.bool (decide (us = bs)))) H := zl fun A φ a w _ h => by
  have h1 := h x (by simp [ho, Op.operands])
  have h2 := h y (by simp [ho, Op.operands])
  rw [hx, Rel] at h1
  rw [hy, Rel] at h2
  obtain ⟨xs, e1, _, r1⟩ := h1
  obtain ⟨ys, e2, _, r2⟩ := h2
  refine ⟨.bool (decide (us = bs)), ?_, by simp [Rel]⟩
  have hr : ((do eqGuard .eql t x y (.agg xs) (.agg ys); binOp .eql t (.agg xs) (.agg ys) : Sem Value)).run P w = .ok (.bool (decide (us = bs))) w := by
    rw [Sem.run_bind, run_eqGuard_agg w .eql t x y xs ys hf.guard]
    simp only [Result.andThen_ok, run_eql_struct, sh hf ha hb r1 r2]
  simp only [execOp, ho, e1, e2]
  rw [Sem.run_bind, hr]
  rfl
end
end Go.Proofs.Ytkcicbigpbdjpaa.Ab
namespace Go.Proofs.Ytkcicbigpbdjpaa.Ab
open Go.RowKit
section
variable {C : Cx} {A A' : Nat → Prop} {φ φ' : List Hd} {H : List Reg} {w w' : World} {P : Program} {o : Oper} {ρ : Operand → V}
end
end Go.Proofs.Ytkcicbigpbdjpaa.Ab
