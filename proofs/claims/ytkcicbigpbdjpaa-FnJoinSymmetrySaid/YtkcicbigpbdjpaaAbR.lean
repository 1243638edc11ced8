/-
  ARGUMENTS AS A LAW's ROW HOLDS THEM.
-/
import Derived.Test.YtkcicbigpbdjpaaAbQ
import Derived.Test.YtkcicbigpbdjpaaAbO
namespace Go.Proofs.Ytkcicbigpbdjpaa.Ab
open Go.RowKit
set_option linter.unusedVariables false

section
variable {A : Nat → Prop} {W : World}
theorem arg_struct {cs : Array Value} {e : List V} (h1 : (Value.agg cs).cells.toList.length = e.length) (h2 : Rels A W [] e (fun i => (Value.agg cs).cells.toList[i]?)) : Rel A W [] (.agg e) (.agg cs) := by
  rw [Rel]
  refine ⟨cs, rfl, by simpa [Value.cells] using h1, rels_congr h2 fun i hi => ?_⟩
  simp [Value.cells]
theorem arg_slice {a : Option Addr} {len cap : Nat} {e : V} (h2 : Rels A W [] [e] (fun i => (Value.slice a len cap).cells.toList[i]?)) : Rel A W [] e (.slice a len cap) := by
  obtain ⟨y, h3, h4⟩ := rels_get h2 (i := 0) (c := e) rfl
  have : y = .slice a len cap := by simpa [Value.cells] using h3.symm
  subst this
  exact h4
end
section
variable {P : Program} {β : Type} {off tot : Nat} {f : Field} {fs : List Field} {eb : β → List V} {okb : β → Prop}
theorem opens_via {α γ : Type} {t : TypeId} {ea : α → List V} {ec : γ → List V} {oka : α → Prop} {okc : γ → Prop} (h : Opens P t ea oka) (f : α → γ) (he : ∀ a, ec (f a) = ea a) (ho : ∀ a, oka a → okc (f a)) : Opens P t ec okc := opens_map f he ho h
theorem fs_int {k : IntKind} (ho : f.offset = off) (hc : P.cellsOf f.type = 1) (ht : P.underlying f.type = some (.int k)) (hs : OpenFs P (off + 1) fs eb okb tot) : OpenFs P off (f :: fs) (fun p : Int × β => .k (.int k p.1) :: eb p.2) (fun p => okI k p.1 ∧ okb p.2) (1 + tot) :=
  fs_cons (c := 1) (ea := fun n : Int => [.k (.int k n)]) ho hc (fun _ => rfl) (opens_int ht) hs
theorem fs_bool (ho : f.offset = off) (hc : P.cellsOf f.type = 1) (ht : P.underlying f.type = some .bool) (hs : OpenFs P (off + 1) fs eb okb tot) : OpenFs P off (f :: fs) (fun p : Bool × β => .k (.bool p.1) :: eb p.2) (fun p => True ∧ okb p.2) (1 + tot) :=
  fs_cons (c := 1) (ea := fun n : Bool => [.k (.bool n)]) ho hc (fun _ => rfl) (opens_bool ht) hs
theorem fs_str (ho : f.offset = off) (hc : P.cellsOf f.type = 1) (ht : P.underlying f.type = some .string) (hs : OpenFs P (off + 1) fs eb okb tot) : OpenFs P off (f :: fs) (fun p : ByteArray × β => .k (.string p.1) :: eb p.2) (fun p => p.1.size ≤ maxLen ∧ okb p.2) (1 + tot) :=
  fs_cons (c := 1) (ea := fun n : ByteArray => [.k (.string n)]) ho hc (fun _ => rfl) (opens_string ht) hs
theorem fs_sl {α : Type} {T : Ty α} {ok : α → Prop} {e : TypeId} (ho : f.offset = off) (hc : P.cellsOf f.type = 1) (ht : P.underlying f.type = some (.slice e)) (hn : P.cellsOf e = T.n) (h : Opens P e T.enc ok) (hs : OpenFs P (off + 1) fs eb okb tot) :
    OpenFs P off (f :: fs) (fun p : List α × β => lstOf T p.1 :: eb p.2) (fun p => okL ok p.1 ∧ okb p.2) (1 + tot) :=
  fs_cons (c := 1) (ea := fun l : List α => [lstOf T l]) ho hc (fun _ => rfl) (opens_slice ht hn h) hs
end
section
variable {A : Nat → Prop} {W : World}
theorem arg_k {v : Value} : Rel A W [] (.k v) v := by simp only [Rel]
end
end Go.Proofs.Ytkcicbigpbdjpaa.Ab
