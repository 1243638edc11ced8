/-
  FROM THE FORM's READING OF THE ARGUMENTS TO THE WALK's.
-/
import Derived.Test.YtkcicbigpbdjpaaAbN
import Derived.Deep.Slices
import Derived.ChangeArms
import Derived.ChangeShapes
import Derived.WideShapes
namespace Go.Proofs.Ytkcicbigpbdjpaa.Ab
open Go.RowKit Go.ChangeShapes Go.WideShapes
set_option linter.unusedVariables false
set_option linter.unusedSimpArgs false

/-- Every reading of a value of type t is a datum with these cells. -/
def Opens {α : Type} (P : Program) (t : TypeId) (enc : α → List V) (ok : α → Prop) : Prop :=
  ∀ (H : Type) (en : TypeId × Value → H) (W : World) (base : Nat) (spare : Nat → Bool) (held : Bool) (fuel : Nat) (cs : List Value) (x : DataW H × List MemPlace),
    DataW.trod en P W base spare held fuel t cs = some x → ∃ a, cs.length = (enc a).length ∧ Rels (fun b => b < W.heap.size) W [] (enc a) (fun i => cs[i]?) ∧ ok a
def okI (k : IntKind) (a : Int) : Prop := (Lit.int k a).wf = true
def okL {α : Type} (ok : α → Prop) (l : List α) : Prop := l.length ≤ 9223372036854775807 ∧ ∀ x ∈ l, ok x

section
variable {P : Program} {t : TypeId}
theorem opens_one {A : Nat → Prop} {w : World} {u : Value} : Rels A w [] [V.k u] (fun i => [u][i]?) := by
  simp only [Rels]; exact ⟨⟨u, rfl, by simp only [Rel]⟩, trivial⟩

theorem opens_int {k : IntKind} (ht : P.underlying t = some (.int k)) : Opens P t (fun n : Int => [.k (.int k n)]) (okI k) := by
  intro H en W base spare held fuel cs x h
  obtain ⟨n, rfl, _, hw⟩ := DataW.trod_int ht h
  exact ⟨n, rfl, opens_one, hw⟩
theorem opens_bool (ht : P.underlying t = some .bool) : Opens P t (fun b : Bool => [.k (.bool b)]) (fun _ => True) := by
  intro H en W base spare held fuel cs x h
  obtain ⟨n, rfl, _⟩ := DataW.trod_bool ht h
  exact ⟨n, rfl, opens_one, trivial⟩
theorem opens_string (ht : P.underlying t = some .string) : Opens P t (fun s : ByteArray => [.k (.string s)]) (fun s => s.size ≤ maxLen) := by
  intro H en W base spare held fuel cs x h
  obtain ⟨n, rfl, _, hw⟩ := DataW.trod_string ht h
  exact ⟨n, rfl, opens_one, hw⟩

theorem list_of {α : Type} : ∀ (n : Nat) (p : Nat → α → Prop), (∀ i, i < n → ∃ x, p i x) → ∃ l : List α, l.length = n ∧ ∀ j x, l[j]? = some x → p j x
  | 0, _, _ => ⟨[], rfl, fun j x h => by simp at h⟩
  | n + 1, p, h => by
    obtain ⟨l, hl, hp⟩ := list_of n p (fun i hi => h i (by omega))
    obtain ⟨x, hx⟩ := h n (by omega)
    refine ⟨l ++ [x], by simp [hl], fun j y hy => ?_⟩
    rcases getElem?_app hy with hy | ⟨rfl, rfl⟩
    · exact hp j y hy
    · rw [hl]; exact hx

theorem flat_rels_of {α : Type} {T : Ty α} {A : Nat → Prop} {w : World} {b o : Nat} : ∀ {l : List α} {k : Nat}, (∀ j x, l[j]? = some x → Rels A w [] (T.enc x) (fun i => w.cell? ⟨b, o + ((k + j) * T.n + i), none⟩)) → Rels A w [] (T.flat l) (fun i => w.cell? ⟨b, o + (k * T.n + i), none⟩)
  | [], k, h => by simp [Ty.flat, Rels]
  | x :: l, k, h => by
    rw [flat_cons]
    refine rels_append (by simpa using h 0 x rfl) ?_
    have := flat_rels_of (l := l) (k := k + 1) (fun j y hy => by have := h (j + 1) y (by simpa using hy); rwa [show k + (j + 1) = k + 1 + j by omega] at this)
    rw [T.len]
    refine rels_congr this fun i hi => ?_
    rw [Nat.succ_mul, show k * T.n + (T.n + i) = k * T.n + T.n + i by omega]

theorem opens_slice {α : Type} {e : TypeId} {T : Ty α} {ok : α → Prop} (ht : P.underlying t = some (.slice e)) (hc : P.cellsOf e = T.n) (h : Opens P e T.enc ok) : Opens P t (fun l : List α => [lstOf T l]) (okL ok) := by
  intro H en W base spare held fuel cs x hx
  rcases Go.Deep.open_slice ht hx with ⟨rfl, _⟩ | ⟨a, len, cap, m, n, D, Pl, rfl, hb, hl, hm, hmm, _, hi⟩
  · refine ⟨[], rfl, ?_, by simp, fun x hx => by simp at hx⟩
    simp only [Rels, Rel]
    exact ⟨⟨_, rfl, none, 0, rfl, Nat.le_refl _, Nat.le_refl _, Or.inl rfl⟩, trivial⟩
  · have hlm : len ≤ m := by
      rw [hmm]
      split <;> omega
    unfold maxLen at hm
    have hpos := T.pos
    obtain ⟨l, hll, hp⟩ := list_of (α := α) len (fun i p => ok p ∧ ∃ c : List Value, c.length = T.n ∧ Rels (fun b => b < W.heap.size) W [] (T.enc p) (fun j => c[j]?) ∧ ∀ j u, c[j]? = some u → W.cell? (a.add (i * T.n + j)) = some u) (fun i hlt => by
      obtain ⟨c, h1, h2⟩ := hi i (by omega)
      obtain ⟨p, hk, hr, hok⟩ := h H en W base spare held n c _ h2
      obtain ⟨_, hlen, hcell⟩ := World.cells?_some h1
      refine ⟨p, hok, c, hk.trans (T.len p), hr, fun j u hu => ?_⟩
      have hj : j < c.length := (List.getElem?_eq_some_iff.1 hu).1
      rw [← Go.Deep.add_add, ← hc, hcell j (by omega)]
      exact hu)
    subst hll
    refine ⟨l, rfl, ?_, by omega, fun x hx => ?_⟩
    · simp only [Rels, Rel]
      refine ⟨⟨_, rfl, some a, cap, rfl, hl, ?_, ?_⟩, trivial⟩
      · rw [flat_length]; exact Nat.le_mul_of_pos_right _ hpos
      · cases l with
        | nil => left; rfl
        | cons z l =>
          right
          obtain ⟨_, c, h1, h2, h3⟩ := hp 0 z rfl
          have hc0 : 0 < c.length := by omega
          have hcell := h3 0 c[0] (by simp [hc0])
          simp only [Nat.zero_mul, Nat.zero_add] at hcell
          have ha0 : a.add 0 = a := by simp [Addr.add]
          rw [ha0] at hcell
          obtain ⟨bb, oo, sp⟩ := a
          have hsp : sp = none := by
            unfold World.cell? at hcell
            split at hcell
            · cases sp with
              | none => rfl
              | some _ => simp at hcell
            · cases hcell
          subst hsp
          refine ⟨bb, oo, rfl, World.block_lt_of_cell? W _ hcell, ?_⟩
          have := flat_rels_of (T := T) (A := fun b => b < W.heap.size) (w := W) (b := bb) (o := oo) (l := z :: l) (k := 0) (fun j y hy => by
            obtain ⟨_, c', g1, g2, g3⟩ := hp j y hy
            refine rels_iff.2 fun i v hv => ?_
            obtain ⟨u, q1, q2⟩ := rels_get g2 hv
            refine ⟨u, ?_, q2⟩
            have := g3 i u q1
            rw [Addr.plus] at this
            rw [Nat.zero_add]
            exact this)
          simpa using this
    · obtain ⟨j, hj⟩ := List.mem_iff_getElem?.1 hx
      exact (hp j x hj).1

/-- The fields from a place on. -/
def OpenFs {α : Type} (P : Program) (off : Nat) (fs : List Field) (enc : α → List V) (ok : α → Prop) (tot : Nat) : Prop :=
  ∀ (H : Type) (en : TypeId × Value → H) (W : World) (base : Nat) (spare : Nat → Bool) (held : Bool) (n : Nat) (cs : List Value),
    (∀ f ∈ fs, ∃ x, DataW.trod en P W base spare held n f.type ((cs.drop f.offset).take (P.cellsOf f.type)) = some x) → ∃ a, (enc a).length = tot ∧ Rels (fun b => b < W.heap.size) W [] (enc a) (fun i => cs[off + i]?) ∧ ok a

theorem fs_nil {off : Nat} : OpenFs P off [] (fun _ : Unit => []) (fun _ => True) 0 := fun H en W base spare held n cs _ => ⟨(), rfl, by simp [Rels], trivial⟩
theorem fs_cons {α β : Type} {off c tot : Nat} {f : Field} {fs : List Field} {ea : α → List V} {eb : β → List V} {oka : α → Prop} {okb : β → Prop} (ho : f.offset = off) (hc : P.cellsOf f.type = c) (hl : ∀ a, (ea a).length = c) (h : Opens P f.type ea oka) (hs : OpenFs P (off + c) fs eb okb tot) :
    OpenFs P off (f :: fs) (fun p : α × β => ea p.1 ++ eb p.2) (fun p => oka p.1 ∧ okb p.2) (c + tot) := fun H en W base spare held n cs hall => by
  obtain ⟨x, hx⟩ := hall f (List.mem_cons_self ..)
  obtain ⟨a, h1, h2, h3⟩ := h H en W base spare held n _ _ hx
  obtain ⟨b, k1, k2, k3⟩ := hs H en W base spare held n cs (fun g hg => hall g (List.mem_cons_of_mem _ hg))
  refine ⟨(a, b), by rw [List.length_append, hl, k1], rels_append (rels_congr h2 fun i hi => ?_) (rels_congr k2 fun i hi => ?_), h3, k3⟩
  · rw [hl] at hi
    rw [hc, ho, List.getElem?_take, if_pos hi, List.getElem?_drop]
  · rw [hl, Nat.add_assoc]

theorem opens_struct {α : Type} {fs : Array Field} {enc : α → List V} {ok : α → Prop} {tot : Nat} (ht : P.underlying t = some (.struct fs)) (hc : P.cellsOf t = tot) (h : OpenFs P 0 fs.toList enc ok tot) : Opens P t enc ok := by
  intro H en W base spare held fuel cs x hx
  obtain ⟨xs, n, _, _, hl, hxl, hall⟩ := DataW.trod_struct ht hx
  obtain ⟨a, h1, h2, h3⟩ := h H en W base spare held n cs (fun f hf => by
    obtain ⟨i, hi⟩ := List.mem_iff_getElem?.1 hf
    rw [Array.getElem?_toList] at hi
    have := hall i f hi
    have hlt : i < xs.length := by rw [hxl]; exact (Array.getElem?_eq_some_iff.1 hi).1
    exact ⟨xs[i], by rw [this, List.getElem?_eq_getElem hlt]⟩)
  exact ⟨a, by rw [hl, hc, h1], by simpa using h2, h3⟩

theorem opens_map {α β : Type} {ea : α → List V} {eb : β → List V} {oka : α → Prop} {okb : β → Prop} (f : α → β) (he : ∀ a, eb (f a) = ea a) (ho : ∀ a, oka a → okb (f a)) (h : Opens P t ea oka) : Opens P t eb okb := by
  intro H en W base spare held fuel cs x hx
  obtain ⟨a, h1, h2, h3⟩ := h H en W base spare held fuel cs x hx
  exact ⟨f a, by rw [he]; exact h1, by rw [he]; exact h2, ho a h3⟩

/-- A law's walk, as its row asks for it. -/
theorem law_calls {f : FuncId} {cargs : List V} {r : Value} {al : Bool} {K : List Reg} (h : Meets P f cargs [] (.k r) K al) (W : World) (xs : Array Value) (hr : Rels (fun b => b < W.heap.size) W [] cargs (fun i => xs[i]?)) (hl : xs.size = cargs.length) :
    Calls P f xs W fun e W' => e = .returned r ∧ Below W.heap.size W W' := by
  refine (h (fun b => b < W.heap.size) [] W xs ⟨rfl, fun h hd r h1 => by simp at h1, fun h h' b ⟨hd, r, h1, _⟩ => by simp at h1, fun h b ⟨hd, r, h1, _⟩ => by simp at h1, fun h hd r b h1 => by simp at h1, fun b hb => hb⟩ hr hl).mono ?_
  rintro e w' ⟨x, φ', A', rfl, k1, k2, k3, k4, k5, k6⟩
  simp only [Rel] at k2
  subst k2
  exact ⟨rfl, ⟨k5.os, k5.tape, k5.output, k5.size, fun b hb => k5.block b hb (fun h ⟨hd, r, h1, _⟩ => by simp at h1)⟩⟩
end
end Go.Proofs.Ytkcicbigpbdjpaa.Ab
