/-
  WHAT THE WALK ASKS OF TYPES, OUT OF THE PROGRAM's TABLES.
-/
import Derived.Test.YtkcicbigpbdjpaaAbJ
import Derived.KernelRfl
namespace Go.Proofs.Ytkcicbigpbdjpaa.Ab
open Go.RowKit
set_option linter.unusedVariables false
set_option linter.unusedSimpArgs false
def aggD : TypeDesc → Bool
  | .struct _ | .array _ _ => true
  | _ => false

section
variable {P : Program} {t : TypeId}

theorem info_of {α : Type} {f : TypeInfo → α} {a : α} (h : (P.info? t).map f = some a) : ∃ i, P.info? t = some i ∧ f i = a := by
  cases hi : P.info? t with
  | none => rw [hi] at h; cases h
  | some i => rw [hi] at h; exact ⟨i, rfl, by simpa using h⟩

theorem sl_of {e n b : Nat} {z : Value} (hu : P.underlying t = some (.slice e)) (hi : (P.info? e).map (fun i => (i.zero, i.size, i.bytes)) = some (some z, n, b)) (hz : z.cells.size = n) (hp : 0 < n) : Sl P t e n b := by
  obtain ⟨i, h1, h2⟩ := info_of hi
  simp only [Prod.mk.injEq] at h2
  exact ⟨hu, ⟨i, z, h1, h2.2.1, h2.2.2, h2.1, hz⟩, hp⟩

theorem size_run {n : Nat} (hi : (P.info? t).map (·.size) = some n) (w : World) : (sizeOf t).run P w = .ok n w := by
  obtain ⟨i, h1, h2⟩ := info_of hi
  simp [sizeOf, typeInfo, h1, h2]
theorem agg_run {d : TypeDesc} (hu : P.underlying t = some d) (w : World) : (isAgg t).run P w = .ok (aggD d) w := by
  simp only [isAgg, Sem.run_bind, run_underlying hu, Result.andThen_ok]
  cases d <;> rfl

theorem ag_of {n : Nat} {fs : Array Field} (hu : P.underlying t = some (.struct fs)) (hi : (P.info? t).map (·.size) = some n) : Ag P t n := ⟨fun w => agg_run hu w, size_run hi⟩
theorem sc_of {d : TypeDesc} (hu : P.underlying t = some d) (hd : (aggD d) = false) (hi : (P.info? t).map (·.size) = some 1) : Sc P t := ⟨fun w => by rw [agg_run hu w, hd], size_run hi⟩
theorem fd_of {f n off ft : Nat} {ag : Bool} {fs : Array Field} {d : TypeDesc} (hu : P.underlying t = some (.struct fs)) (hf : (fs[f]?).map (fun x => (x.offset, x.type)) = some (off, ft)) (hd : P.underlying ft = some d) (hi : (P.info? ft).map (·.size) = some n) (ha : (aggD d) = ag) (hp : 0 < n) : Fd P t f off n ag := by
  cases hx : fs[f]? with
  | none => rw [hx] at hf; cases hf
  | some fd =>
    rw [hx] at hf
    simp only [Option.map_some, Option.some.injEq, Prod.mk.injEq] at hf
    obtain ⟨rfl, rfl⟩ := hf
    exact ⟨⟨fs, hu, fd, hx, rfl, size_run hi, fun w => by rw [agg_run hd w, ha]⟩, hp⟩
theorem ze_of {z : Value} {zs : List Value} (hi : (P.info? t).map (·.zero) = some (some z)) (h : z.cells.toList = zs) : Ze P t zs := by
  obtain ⟨i, h1, h2⟩ := info_of hi
  exact ⟨i, z, h1, h2, h⟩
theorem places_run (w : World) : ∀ (l : List Field) (ps : List (Nat × Nat)), l.map (fun f => (P.info? f.type).map fun i => (f.offset, i.size)) = ps.map some →
    (List.mapM (fun f : Field => (do pure (f.offset, ← sizeOf f.type) : Sem (Nat × Nat))) l).run P w = .ok ps w
  | [], [], _ => rfl
  | [], p :: ps, h => by simp at h
  | f :: l, [], h => by simp at h
  | f :: l, p :: ps, h => by
    simp only [List.map_cons, List.cons.injEq] at h
    obtain ⟨i, h1, h2⟩ := info_of h.1
    rw [List.mapM_cons]
    simp only [Sem.run_bind, size_run (show (P.info? f.type).map (·.size) = some i.size by rw [h1]; rfl), Result.andThen_ok, Sem.run_pure, places_run w l ps h.2, h2]
theorem pl_of {fs : Array Field} {ps : List (Nat × Nat)} (hu : P.underlying t = some (.struct fs)) (h : fs.toList.map (fun f => (P.info? f.type).map fun i => (f.offset, i.size)) = ps.map some) : Pl P t ps := ⟨⟨fs, hu, fun w => by
  obtain ⟨l⟩ := fs
  simp only [List.mapM_toArray, Sem.run_map]
  rw [places_run w l ps h]
  rfl⟩⟩
end
end Go.Proofs.Ytkcicbigpbdjpaa.Ab
