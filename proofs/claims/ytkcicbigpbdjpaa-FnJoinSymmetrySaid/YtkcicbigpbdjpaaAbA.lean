/-
  ABSTRACT VALUES: what a walk says of Go's values without memory.
-/
import Derived.WalkKit
import Derived.Laws.Rows
import Derived.RowKit
import Derived.OrdersHeld
import Derived.Deep.RegionHeld3
namespace Go.Proofs.Ytkcicbigpbdjpaa.Ab
open Go.RowKit
set_option linter.unusedVariables false
set_option linter.unusedSimpArgs false

/-- A value as the walk sees it: 'k' a value that holds no memory; 'lst n cs' a slice that is only read, its n elements' cells; 'sl h off len' a slice into the walk's own row number h; 'ptr h off' an address there; 'pref cs' an address of cells that are only read; 'agg' a struct; 'tup' several results; 'fn' a function value; 'any' nothing is known. -/
inductive V where
  | k (v : Value)
  | lst (n : Nat) (cs : List V)
  | sl (h off len : Nat)
  | ptr (h off : Nat)
  | pref (cs : List V)
  | agg (cs : List V)
  | tup (vs : List V)
  | fn (f : FuncId) (caps : List V)
  | any

instance : Inhabited V := ⟨.any⟩

/-- Where a row of the walk's own lies: its block (none: the nil slice), how many elements it has room for, how many cells an element has, an element's type. -/
structure Hd where
  blk : Option Nat
  cap : Nat
  esz : Nat
  e : TypeId

mutual
def Rel (A : Nat → Prop) (w : World) : List Hd → V → Value → Prop
  | _, .k v, x => x = v
  | _, .lst n cs, x => ∃ ad cap, x = .slice ad n cap ∧ n ≤ cap ∧ n ≤ cs.length ∧ (cs = [] ∨ ∃ b o, ad = some ⟨b, o, none⟩ ∧ A b ∧ Rels A w [] cs (fun i => w.cell? ⟨b, o + i, none⟩))
  | φ, .sl h off len, x => ∃ hd, φ[h]? = some hd ∧ ((x = .slice (hd.blk.map fun b => ⟨b, off * hd.esz, none⟩) len (hd.cap - off) ∧ off + len ≤ hd.cap) ∨ (0 < off ∧ len = 0 ∧ ∃ ad, x = .slice ad 0 0))
  | φ, .ptr h off, x => ∃ hd b, φ[h]? = some hd ∧ hd.blk = some b ∧ x = .pointer (some ⟨b, off, none⟩)
  | _, .pref cs, x => ∃ b o, x = .pointer (some ⟨b, o, none⟩) ∧ A b ∧ Rels A w [] cs (fun i => w.cell? ⟨b, o + i, none⟩)
  | φ, .agg cs, x => ∃ xs : Array Value, x = .agg xs ∧ xs.size = cs.length ∧ Rels A w φ cs (fun i => xs[i]?)
  | φ, .tup cs, x => ∃ xs : Array Value, x = .tuple xs ∧ xs.size = cs.length ∧ Rels A w φ cs (fun i => xs[i]?)
  | φ, .fn f cs, x => ∃ xs : Array Value, x = .func (.func f) #[] xs ∧ xs.size = cs.length ∧ Rels A w φ cs (fun i => xs[i]?)
  | _, .any, _ => True
def Rels (A : Nat → Prop) (w : World) : List Hd → List V → (Nat → Option Value) → Prop
  | _, [], _ => True
  | φ, c :: cs, g => (∃ y, g 0 = some y ∧ Rel A w φ c y) ∧ Rels A w φ cs (fun i => g (i + 1))
end

section
variable {A A' : Nat → Prop} {w w' : World} {φ φ' : List Hd}

theorem rels_iff : ∀ {cs : List V} {g : Nat → Option Value}, Rels A w φ cs g ↔ ∀ (i : Nat) (c : V), cs[i]? = some c → ∃ y, g i = some y ∧ Rel A w φ c y
  | [], g => by simp [Rels]
  | c :: cs, g => by
    rw [Rels, rels_iff (cs := cs)]
    constructor
    · rintro ⟨h0, h⟩ i c' hc
      cases i with
      | zero => simp only [List.getElem?_cons_zero, Option.some.injEq] at hc; subst hc; exact h0
      | succ i => exact h i c' (by simpa using hc)
    · intro h
      exact ⟨h 0 c rfl, fun i c' hc => h (i + 1) c' (by simpa using hc)⟩

theorem rels_get {cs : List V} {g : Nat → Option Value} (h : Rels A w φ cs g) {i : Nat} {c : V} (hc : cs[i]? = some c) : ∃ y, g i = some y ∧ Rel A w φ c y := rels_iff.1 h i c hc

theorem rels_congr {cs : List V} {g g' : Nat → Option Value} (h : Rels A w φ cs g) (hg : ∀ i, i < cs.length → g' i = g i) : Rels A w φ cs g' :=
  rels_iff.2 fun i c hc => by rw [hg i (List.getElem?_eq_some_iff.1 hc).1]; exact rels_iff.1 h i c hc

theorem rels_drop {cs : List V} {g : Nat → Option Value} (h : Rels A w φ cs g) (n : Nat) : Rels A w φ (cs.drop n) (fun i => g (n + i)) :=
  rels_iff.2 fun i c hc => rels_iff.1 h (n + i) c (by simpa using hc)

theorem rels_take {cs : List V} {g : Nat → Option Value} (h : Rels A w φ cs g) (n : Nat) : Rels A w φ (cs.take n) g :=
  rels_iff.2 fun i c hc => rels_iff.1 h i c (by
    rw [List.getElem?_take] at hc
    split at hc
    · exact hc
    · cases hc)

theorem rels_append {cs ds : List V} {g : Nat → Option Value} (h : Rels A w φ cs g) (h' : Rels A w φ ds (fun i => g (cs.length + i))) : Rels A w φ (cs ++ ds) g :=
  rels_iff.2 fun i c hc => by
    rcases Nat.lt_or_ge i cs.length with hi | hi
    · rw [List.getElem?_append_left hi] at hc; exact rels_iff.1 h i c hc
    · rw [List.getElem?_append_right hi] at hc
      have := rels_iff.1 h' (i - cs.length) c hc
      simpa [Nat.add_sub_cancel' hi] using this

mutual
/-- What is said stays true: the blocks that are read are as they were, what was allowed is allowed, the rows' places are kept. -/
theorem Rel.mono (hb : ∀ b, A b → A' b ∧ w'.heap[b]? = w.heap[b]?) : ∀ {φ φ' : List Hd} {v : V} {x : Value}, (∀ (h : Nat) (hd : Hd), φ[h]? = some hd → φ'[h]? = some hd) → Rel A w φ v x → Rel A' w' φ' v x
  | φ, φ', .k v, x, hp, h => h
  | φ, φ', .lst n cs, x, hp, h => by
    rw [Rel] at h ⊢
    obtain ⟨ad, cap, e1, e2, e3, h⟩ := h
    refine ⟨ad, cap, e1, e2, e3, ?_⟩
    rcases h with h | ⟨b, o, ea, ha, hr⟩
    · exact Or.inl h
    · refine Or.inr ⟨b, o, ea, (hb b ha).1, ?_⟩
      have hg : (fun i => w'.cell? ⟨b, o + i, none⟩) = (fun i => w.cell? ⟨b, o + i, none⟩) := funext fun i => World.cell?_of_block (hb b ha).2
      rw [hg]
      exact Rels.mono hb (fun _ _ h => h) hr
  | φ, φ', .sl h off len, x, hp, hh => by
    rw [Rel] at hh ⊢
    obtain ⟨hd, h1, h2⟩ := hh
    exact ⟨hd, hp _ _ h1, h2⟩
  | φ, φ', .ptr h off, x, hp, hh => by
    rw [Rel] at hh ⊢
    obtain ⟨hd, b, h1, h2⟩ := hh
    exact ⟨hd, b, hp _ _ h1, h2⟩
  | φ, φ', .pref cs, x, hp, h => by
    rw [Rel] at h ⊢
    obtain ⟨b, o, ea, ha, hr⟩ := h
    refine ⟨b, o, ea, (hb b ha).1, ?_⟩
    have hg : (fun i => w'.cell? ⟨b, o + i, none⟩) = (fun i => w.cell? ⟨b, o + i, none⟩) := funext fun i => World.cell?_of_block (hb b ha).2
    rw [hg]
    exact Rels.mono hb (fun _ _ h => h) hr
  | φ, φ', .agg cs, x, hp, h => by
    rw [Rel] at h ⊢
    obtain ⟨xs, e1, e2, hr⟩ := h
    exact ⟨xs, e1, e2, Rels.mono hb hp hr⟩
  | φ, φ', .tup cs, x, hp, h => by
    rw [Rel] at h ⊢
    obtain ⟨xs, e1, e2, hr⟩ := h
    exact ⟨xs, e1, e2, Rels.mono hb hp hr⟩
  | φ, φ', .fn f cs, x, hp, h => by
    rw [Rel] at h ⊢
    obtain ⟨xs, e1, e2, hr⟩ := h
    exact ⟨xs, e1, e2, Rels.mono hb hp hr⟩
  | φ, φ', .any, x, hp, h => by rw [Rel]; trivial
theorem Rels.mono (hb : ∀ b, A b → A' b ∧ w'.heap[b]? = w.heap[b]?) : ∀ {φ φ' : List Hd} {cs : List V} {g : Nat → Option Value}, (∀ (h : Nat) (hd : Hd), φ[h]? = some hd → φ'[h]? = some hd) → Rels A w φ cs g → Rels A' w' φ' cs g
  | φ, φ', [], g, hp, h => by rw [Rels]; trivial
  | φ, φ', c :: cs, g, hp, h => by
    rw [Rels] at h ⊢
    obtain ⟨⟨y, h1, h2⟩, h3⟩ := h
    exact ⟨⟨y, h1, Rel.mono hb hp h2⟩, Rels.mono hb hp h3⟩
end
end

end Go.Proofs.Ytkcicbigpbdjpaa.Ab
