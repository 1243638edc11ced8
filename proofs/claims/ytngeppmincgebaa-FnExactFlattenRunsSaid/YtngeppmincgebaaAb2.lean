/-
  MORE ON COMPARISONS; results that bear one another.
-/
import Derived.Test.YtngeppmincgebaaAb1
namespace Go.Proofs.Ytngeppmincgebaa.Ab
open Go.RowKit
set_option linter.unusedVariables false
set_option linter.unusedSimpArgs false

section
variable {P : Program} {o : Oper} {ρ : Operand → V} {H : List Reg} {l : List V}

theorem intFs_of {t : TypeId} {fs : Array Field} (hu : P.underlying t = some (.struct fs)) (hh : P.stoodInHeld t = false) (hg : P.eqGuardType P.depth t = false)
    (h : fs.toList.zipIdx.all (fun p => !(p.1.name == "_") && Nat.beq p.1.offset p.2 && (match P.underlying p.1.type with | some (.int .i64) => true | _ => false)) = true) : IntFs P t fs := ⟨hu, hh, hg, fun i f hf => by
  rw [List.all_eq_true] at h
  have := h (f, i) (List.mem_of_getElem? (i := i) (by rw [List.getElem?_zipIdx, hf]; simp))
  simp only [Bool.and_eq_true, Bool.not_eq_true', Nat.beq_eq] at this
  refine ⟨this.1.1, this.1.2, ?_⟩
  have h2 := this.2
  split at h2
  · assumption
  · cases h2⟩

theorem neqB_same {t t' : TypeId} {x y : Operand} {b : Bool} (ho : o.op = .binOp .neq t x y t') (hx : ρ x = B b) (hy : ρ y = B b) (ht : P.underlying t = some .bool) : Step P o ρ H (B false) H := by
  have := step_neqb (P := P) (H := H) ho hx hy ht
  simpa using this
theorem neqI_same {t t' : TypeId} {x y : Operand} {k : IntKind} {a : Int} (ho : o.op = .binOp .neq t x y t') (hx : ρ x = .k (.int k a)) (hy : ρ y = .k (.int k a)) : Step P o ρ H (B false) H := by
  have := step_neq (P := P) (H := H) ho hx hy
  simpa using this
theorem neqA_same {t t' : TypeId} {x y : Operand} (zs : List Int) (fs : Array Field) (hf : IntFs P t fs) (hl : zs.length = fs.size) (ho : o.op = .binOp .neq t x y t') (hx : ρ x = .agg (zs.map I)) (hy : ρ y = .agg (zs.map I)) : Step P o ρ H (B false) H := by
  have := step_neqA (P := P) (H := H) fs hf ho hx hy hl hl
  simpa using this
theorem eqlA_same {t t' : TypeId} {x y : Operand} (zs : List Int) (fs : Array Field) (hf : IntFs P t fs) (hl : zs.length = fs.size) (ho : o.op = .binOp .eql t x y t') (hx : ρ x = .agg (zs.map I)) (hy : ρ y = .agg (zs.map I)) : Step P o ρ H (B true) H := by
  have := step_eqlA (P := P) (H := H) fs hf ho hx hy hl hl
  simpa using this
end
end Go.Proofs.Ytngeppmincgebaa.Ab
