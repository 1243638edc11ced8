/-
  LITERALS THAT ARE ONLY READ.
-/
import Derived.Test.YtkcicbigpbdjpaaAbW
namespace Go.Proofs.Ytkcicbigpbdjpaa.Ab
open Go.RowKit
set_option linter.unusedVariables false
set_option linter.unusedSimpArgs false

section
variable {P : Program} {o : Oper} {ρ : Operand → V} {H : List Reg} {C : Cx} {A : Nat → Prop} {φ : List Hd} {w : World}

theorem cell_new (w : World) (c : Array Value) (e : TypeId) (i : Nat) : ((w.drewN 0).alloc (.cells c e)).cell? ⟨w.heap.size, i, none⟩ = c[i]? := by
  have h : ((w.drewN 0).alloc (.cells c e)).heap[w.heap.size]? = some (.cells c e (0, 0)) := Go.heap_alloc_new (w.drewN 0) _
  unfold World.cell?
  rw [h]
  rfl

theorem InvA.alloc_read (hA : InvA C A φ H w) (ob : Obj) : InvA C (fun b => A b ∨ b = w.heap.size) φ H ((w.drewN 0).alloc ob) := by
  have hheap : ∀ b, b < w.heap.size → ((w.drewN 0).alloc ob).heap[b]? = w.heap[b]? := fun b hb => Below.heap_alloc (w.drewN 0) ob b hb
  have hsz : ((w.drewN 0).alloc ob).heap.size = w.heap.size + 1 := by show (Array.push _ _).size = _; rw [Array.size_push]; rfl
  have hlow : ∀ h b, LiveAt φ H h b → b < w.heap.size := fun h b ⟨hd, r, h1, h2, h3, h4⟩ => blk_of hA.ok h1 h2 (by omega) h4
  refine ⟨⟨hA.ok.len, fun h hd r h1 h2 h3 => ?_, hA.ok.inj, fun h b h1 hb => ?_, fun h hd r b h1 h2 h3 h4 => Or.inl (hA.ok.frz h hd r b h1 h2 h3 h4), fun b hb => ?_⟩, fun b hb => ?_, hA.own, ?_, hA.pre⟩
  · obtain ⟨e1, e2⟩ := hA.ok.regs h hd r h1 h2 h3
    refine ⟨e1, ?_⟩
    cases hk : hd.blk with
    | none => rw [hk] at e2; exact e2
    | some b =>
      rw [hk] at e2
      obtain ⟨c, k1, k2, k3, k4⟩ := e2
      exact ⟨c, (hheap b (Array.getElem?_eq_some_iff.1 k1).1).trans k1, k2, k3, Rels.mono (fun b hb => ⟨Or.inl hb, hheap b (hA.ok.low b hb)⟩) (fun _ _ h => h) k4⟩
  · rcases hb with hb | rfl
    · exact hA.ok.apart _ _ h1 hb
    · exact absurd (hlow _ _ h1) (Nat.lt_irrefl _)
  · rcases hb with hb | rfl
    · rw [hsz]; exact Nat.lt_succ_of_lt (hA.ok.low b hb)
    · rw [hsz]; exact Nat.lt_succ_self _
  · rcases hb with hb | rfl
    · exact hA.old b hb
    · exact Or.inr hA.frame.size
  · obtain ⟨f1, f2, f3, f4, f5⟩ := hA.frame
    exact ⟨f1, f2, f3, by rw [hsz]; omega, fun i hi hno => (hheap i (by omega)).trans (f5 i hi hno)⟩

/-- A slice of what is written there, that is only read from here on: no row of the walk's own. -/
theorem step_lit {t e n b len : Nat} {ps : List (Nat × Operand)} {cs : List V} [ht : Sl P t e n b] (ho : o.op = .buildSlice t len ps.toArray) (hlen : len * n ≤ 16777216)
    (hf : fillV (fun i => some (i * n, n)) (List.replicate (len * n) V.any) (ps.map fun p => (p.1, ρ p.2)) = some cs) (hcs : cs.length = len * n) (hN : NoH cs) : Step P o ρ H (.lst len cs) H := step_frame fun C A φ a w hA hh => by
  have hx : ∀ p ∈ ps, Rel A w φ (ρ p.2) (a.eval p.2) := fun p hm => hh p.2 (by simp only [ho, Op.operands]; simpa using ⟨p.1, hm⟩)
  obtain ⟨i, z, i1, i2, i3, i4, i5⟩ := ht.i
  have hpos := ht.pos
  have e1 : (List.map (fun p : Nat × Operand => (p.1, a.eval p.2)) ps) = (ps.toArray.map fun (i, x) => (i, a.eval x)).toList := by simp
  have key : ∀ c0 : Array Value, c0.size = len * n → ∃ c', Instr.fill (fun i => some (i * n, n)) c0 (ps.toArray.map fun (i, x) => (i, a.eval x)).toList = some c' ∧ c'.size = cs.length ∧ Rels A w φ cs (fun i => c'[i]?) := fun c0 h0 => by
    rw [← e1]
    exact fill_rel hx hf (by simp [h0]) (anys_rels _ c0 h0)
  have hle : ¬ (len * n > 2 ^ 24) := by omega
  have fin : ∀ c' : Array Value, c'.size = cs.length → Rels A w φ cs (fun i => c'[i]?) → ((execOp a.eval o).run P w = .ok (.value (.slice (some ⟨w.heap.size, 0, none⟩) len len)) (w.alloc (.cells c' e))) → _ := fun c' k2 k3 hrun =>
    (⟨.slice (some ⟨w.heap.size, 0, none⟩) len len, (w.drewN 0).alloc (.cells c' e), (fun b => A b ∨ b = w.heap.size), φ, Or.inl hrun, hA.alloc_read _, fun b hb => ⟨Or.inl hb, (alloc_old hA _ 0 b hb).2⟩, fun h hd hh => hh, by
      rw [Rel]
      refine ⟨_, len, rfl, Nat.le_refl _, by rw [hcs]; exact Nat.le_mul_of_pos_right len hpos, Or.inr ⟨w.heap.size, 0, rfl, Or.inr rfl, ?_⟩⟩
      refine rels_congr (Rels.mono (fun b hb => ⟨Or.inl hb, (alloc_old hA (.cells c' e) 0 b hb).2⟩) (fun _ _ h => h) (rels_noH (φ' := []) hN k3)) fun i hi => ?_
      rw [Nat.zero_add]
      exact cell_new w c' e i⟩ : ∃ x w' A' φ', ((execOp a.eval o).run P w = .ok (.value x) w' ∨ ((execOp a.eval o).run P w = .ok .skip w' ∧ x = undef)) ∧ InvA C A' φ' H w' ∧ (∀ b, A b → A' b ∧ w'.heap[b]? = w.heap[b]?) ∧ (∀ (h : Nat) (hd : Hd), φ[h]? = some hd → φ'[h]? = some hd) ∧ Rel A' w' φ' (.lst len cs) x)
  by_cases h0 : len * n = 0
  · obtain ⟨c', k1, k2, k3⟩ := key ((Array.range (len * n)).map (fun i => (#[] : Array Value)[i % (#[] : Array Value).size]!)) (by simp)
    refine fin c' k2 k3 ?_
    simp only [execOp, ho, Instr.buildSlice, Sem.run_bind, run_underlying ht.u, Result.andThen_ok, sizeOf, typeInfo, run_program, i1, Sem.run_pure, i2, if_neg hle]
    rw [if_pos h0]
    rw [Sem.run_bind, Sem.run_pure, Result.andThen_ok, k1]
    simp [newRow]
  · obtain ⟨c', k1, k2, k3⟩ := key ((Array.range (len * n)).map (fun i => z.cells[i % z.cells.size]!)) (by simp)
    refine fin c' k2 k3 ?_
    simp only [execOp, ho, Instr.buildSlice, Sem.run_bind, run_underlying ht.u, Result.andThen_ok, sizeOf, typeInfo, run_program, i1, Sem.run_pure, i2, if_neg hle]
    rw [if_neg h0]
    simp only [zeroValue, Sem.run_bind, typeInfo, run_program, i1, i4, Sem.run_pure, Result.andThen_ok, k1]
    simp [newRow]

theorem lit_of {t e n b len : Nat} {ps : List (Nat × Operand)} {cs : List V} [ht : Sl P t e n b] (ho : o.op = .buildSlice t len ps.toArray) (hlen : Nat.ble (len * n) 16777216 = true)
    (hf : fillV (fun i => some (i * n, n)) (List.replicate (len * n) V.any) (ps.map fun p => (p.1, ρ p.2)) = some cs) (hcs : Nat.beq cs.length (len * n) = true) (hN : noHs cs = true) : Step P o ρ H (.lst len cs) H :=
  step_lit ho (Nat.le_of_ble_eq_true hlen) hf (Nat.eq_of_beq_eq_true hcs) (noHs_mem hN)
end
end Go.Proofs.Ytkcicbigpbdjpaa.Ab
