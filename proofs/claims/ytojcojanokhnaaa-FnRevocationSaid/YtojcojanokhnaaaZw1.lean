/- What the row FnRevocation leans on, part 2: a walk over abstract values, and contracts proved with it. -/
import Derived.WalkKit
import Derived.Laws.Rows
import Derived.RowKit
import Derived.OrdersHeld
import Derived.Deep.RegionHeld3
import Derived.Deep.Draws
import Derived.BigCall
import Derived.KernelRfl
import Derived.Deep.Slices
import Derived.ChangeArms
import Derived.ChangeShapes
import Derived.WideShapes
import Derived.Test.YtojcojanokhnaaaProg
import Derived.Laws.StructEq
import Derived.Lib.Overlaps
import Derived.Test.YtojcojanokhnaaaZw0
set_option linter.unusedVariables false
set_option linter.unusedSimpArgs false
set_option maxRecDepth 20000
set_option maxHeartbeats 8000000
namespace Go.Proofs.Ytojcojanokhnaaa.Ab
open Go.RowKit
section
variable {P : Program} {o : Oper} {ρ : Operand → V} {H : List Reg} {C : Cx} {A : Nat → Prop} {φ : List Hd} {w : World}
theorem jj (w : World) (c : Array Value) (e : TypeId) (i : Nat) : ((w.drewN 0).alloc (.cells c e)).cell? ⟨w.heap.size, i, none⟩ = c[i]? := by
  have h : ((w.drewN 0).alloc (.cells c e)).heap[w.heap.size]? = some (.cells c e (0, 0)) := Go.heap_alloc_new (w.drewN 0) _
  unfold World.cell?
  rw [h]
  rfl
theorem InvA.alloc_read (hA : InvA C A φ H w) (ob : Obj) : InvA C (fun b => A b ∨ b = w.heap.size) φ H ((w.drewN 0).alloc ob) := by
  have hheap : ∀ b, b < w.heap.size → ((w.drewN 0).alloc ob).heap[b]? = w.heap[b]? := fun b hb => Below.heap_alloc (w.drewN 0) ob b hb
  have hsz : ((w.drewN 0).alloc ob).heap.size = w.heap.size + 1 := by show (Array.push _ _).size = _; rw [Array.size_push]; rfl
  have hlow : ∀ h b, zz φ H h b → b < w.heap.size := fun h b ⟨hd, r, h1, h2, h3, h4⟩ => xi hA.ok h1 h2 (by omega) h4
  refine ⟨⟨hA.ok.len, fun h hd r h1 h2 h3 => ?_, hA.ok.inj, fun h b h1 hb => ?_, fun h hd r b h1 h2 h3 h4 => Or.inl (hA.ok.frz h hd r b h1 h2 h3 h4), fun b hb => ?_⟩, fun b hb => ?_, hA.own, ?_, hA.pre⟩
  · obtain ⟨e1, e2⟩ := hA.ok.regs h hd r h1 h2 h3
    refine ⟨e1, ?_⟩
    cases hk : hd.blk with
    | none => rw [hk] at e2; exact e2
    | some b =>
      rw [hk] at e2
      obtain ⟨c, k1, k2, k3, k4⟩ := e2
      exact ⟨c, (hheap b (Array.getElem?_eq_some_iff.1 k1).1).trans k1, k2, k3, zx.mono (fun b hb => ⟨Or.inl hb, hheap b (hA.ok.low b hb)⟩) (fun _ _ h => h) k4⟩
  · rcases hb with hb | rfl
    · exact hA.ok.apart _ _ h1 hb
    · exact absurd (hlow _ _ h1) (Nat.lt_irrefl _)
  · rcases hb with hb | rfl
    · rw [hsz]; exact Nat.lt_succ_of_lt (hA.ok.low b hb)
    · rw [hsz]; exact Nat.lt_succ_self _
  · rcases hb with hb | rfl
    · exact hA.old b hb
    · exact Or.inr hA.frame.size
  · obtain ⟨f1, f2, f3, f4, f5⟩ := hA.frame
    exact ⟨f1, f2, f3, by rw [hsz]; omega, fun i hi hno => (hheap i (by omega)).trans (f5 i hi hno)⟩
theorem lV {t e n b len : Nat} {ps : List (Nat × Operand)} {cs : List V} [ht : Sl P t e n b] (ho : o.op = .buildSlice t len ps.toArray) (hlen : len * n ≤ 16777216)
    (hf : uK (fun i => some (i * n, n)) (List.replicate (len * n) V.any) (ps.map fun p => (p.1, ρ p.2)) = some cs) (hcs : cs.length = len * n) (hN : NoH cs) : z7 P o ρ H (.lst len cs) H := xh fun C A φ a w hA hh => by
  have hx : ∀ p ∈ ps, Rel A w φ (ρ p.2) (a.eval p.2) := fun p hm => hh p.2 (by simp only [ho, Op.operands]; simpa using ⟨p.1, hm⟩)
  obtain ⟨i, z, i1, i2, i3, i4, i5⟩ := ht.i
  have hpos := ht.pos
  have e1 : (List.map (fun p : Nat × Operand => (p.1, a.eval p.2)) ps) = (ps.toArray.map fun (i, x) => (i, a.eval x)).toList := by simp
  have key : ∀ c0 : Array Value, c0.size = len * n → ∃ c', Instr.fill (fun i => some (i * n, n)) c0 (ps.toArray.map fun (i, x) => (i, a.eval x)).toList = some c' ∧ c'.size = cs.length ∧ zx A w φ cs (fun i => c'[i]?) := fun c0 h0 => by
    rw [← e1]
    exact un hx hf (by simp [h0]) (qC _ c0 h0)
  have hle : ¬ (len * n > 2 ^ 24) := by omega
  have fin : ∀ c' : Array Value, c'.size = cs.length → zx A w φ cs (fun i => c'[i]?) → ((execOp a.eval o).run P w = .ok (.value (.slice (some ⟨w.heap.size, 0, none⟩) len len)) (w.alloc (.cells c' e))) → _ := fun c' k2 k3 hrun =>
    (⟨.slice (some ⟨w.heap.size, 0, none⟩) len len, (w.drewN 0).alloc (.cells c' e), (fun b => A b ∨ b = w.heap.size), φ, Or.inl hrun, hA.alloc_read _, fun b hb => ⟨Or.inl hb, (wJ hA _ 0 b hb).2⟩, fun h hd hh => hh, by
      rw [Rel]
      refine ⟨_, len, rfl, Nat.le_refl _, by rw [hcs]; exact Nat.le_mul_of_pos_right len hpos, Or.inr ⟨w.heap.size, 0, rfl, Or.inr rfl, ?_⟩⟩
      refine yM (zx.mono (fun b hb => ⟨Or.inl hb, (wJ hA (.cells c' e) 0 b hb).2⟩) (fun _ _ h => h) (xd (φ' := []) hN k3)) fun i hi => ?_
      rw [Nat.zero_add]
      exact jj w c' e i⟩ : ∃ x w' A' φ', ((execOp a.eval o).run P w = .ok (.value x) w' ∨ ((execOp a.eval o).run P w = .ok .skip w' ∧ x = undef)) ∧ InvA C A' φ' H w' ∧ (∀ b, A b → A' b ∧ w'.heap[b]? = w.heap[b]?) ∧ (∀ (h : Nat) (hd : Hd), φ[h]? = some hd → φ'[h]? = some hd) ∧ Rel A' w' φ' (.lst len cs) x)
  by_cases h0 : len * n = 0
  · obtain ⟨c', k1, k2, k3⟩ := key ((Array.range (len * n)).map (fun i => (#[] : Array Value)[i % (#[] : Array Value).size]!)) (by simp)
    refine fin c' k2 k3 ?_
    simp only [execOp, ho, Instr.buildSlice, Sem.run_bind, run_underlying ht.u, Result.andThen_ok, sizeOf, typeInfo, run_program, i1, Sem.run_pure, i2, if_neg hle]
    rw [if_pos h0]
    rw [Sem.run_bind, Sem.run_pure, Result.andThen_ok, k1]
    simp [newRow]
  · obtain ⟨c', k1, k2, k3⟩ := key ((Array.range (len * n)).map (fun i => z.cells[i % z.cells.size]!)) (by simp)
    refine fin c' k2 k3 ?_
    simp only [execOp, ho, Instr.buildSlice, Sem.run_bind, run_underlying ht.u, Result.andThen_ok, sizeOf, typeInfo, run_program, i1, Sem.run_pure, i2, if_neg hle]
    rw [if_neg h0]
    simp only [zeroValue, Sem.run_bind, typeInfo, run_program, i1, i4, Sem.run_pure, Result.andThen_ok, k1]
    simp [newRow]
theorem yN {t e n b len : Nat} {ps : List (Nat × Operand)} {cs : List V} [ht : Sl P t e n b] (ho : o.op = .buildSlice t len ps.toArray) (hlen : Nat.ble (len * n) 16777216 = true)
    (hf : uK (fun i => some (i * n, n)) (List.replicate (len * n) V.any) (ps.map fun p => (p.1, ρ p.2)) = some cs) (hcs : Nat.beq cs.length (len * n) = true) (hN : noHs cs = true) : z7 P o ρ H (.lst len cs) H :=
  lV ho (Nat.le_of_ble_eq_true hlen) hf (Nat.eq_of_beq_eq_true hcs) (sG hN)
end
end Go.Proofs.Ytojcojanokhnaaa.Ab
namespace Go.Proofs.Ytojcojanokhnaaa.Ab
theorem sc2 : Sc Go.Proofs.Try.prog 2 := xw Go.Proofs.Try.underlying2 rfl (by kernel_rfl)
instance : Sc Go.Proofs.Try.prog 2 := sc2
theorem ze2 : Ze Go.Proofs.Try.prog 2 [.int .i64 (0)] := ym (z := .int .i64 (0)) (by kernel_rfl) rfl
instance : Ze Go.Proofs.Try.prog 2 [.int .i64 (0)] := ze2
theorem ik2 : Ik Go.Proofs.Try.prog 2 .i64 := ⟨Go.Proofs.Try.underlying2⟩
instance : Ik Go.Proofs.Try.prog 2 .i64 := ik2
theorem sc3 : Sc Go.Proofs.Try.prog 3 := xw Go.Proofs.Try.underlying3 rfl (by kernel_rfl)
instance : Sc Go.Proofs.Try.prog 3 := sc3
theorem ze3 : Ze Go.Proofs.Try.prog 3 [.int .i64 (0)] := ym (z := .int .i64 (0)) (by kernel_rfl) rfl
instance : Ze Go.Proofs.Try.prog 3 [.int .i64 (0)] := ze3
theorem ik3 : Ik Go.Proofs.Try.prog 3 .i64 := ⟨Go.Proofs.Try.underlying3⟩
instance : Ik Go.Proofs.Try.prog 3 .i64 := ik3
theorem sc4 : Sc Go.Proofs.Try.prog 4 := xw Go.Proofs.Try.underlying4 rfl (by kernel_rfl)
instance : Sc Go.Proofs.Try.prog 4 := sc4
theorem ze4 : Ze Go.Proofs.Try.prog 4 [.bool false] := ym (z := .bool false) (by kernel_rfl) rfl
instance : Ze Go.Proofs.Try.prog 4 [.bool false] := ze4
theorem bl4 : Go.Proofs.Try.prog.underlying 4 = some .bool := Go.Proofs.Try.underlying4
theorem sc5 : Sc Go.Proofs.Try.prog 5 := xw Go.Proofs.Try.underlying5 rfl (by kernel_rfl)
instance : Sc Go.Proofs.Try.prog 5 := sc5
theorem ze5 : Ze Go.Proofs.Try.prog 5 [.int .u8 (0)] := ym (z := .int .u8 (0)) (by kernel_rfl) rfl
instance : Ze Go.Proofs.Try.prog 5 [.int .u8 (0)] := ze5
theorem ik5 : Ik Go.Proofs.Try.prog 5 .u8 := ⟨Go.Proofs.Try.underlying5⟩
instance : Ik Go.Proofs.Try.prog 5 .u8 := ik5
theorem sc9 : Sc Go.Proofs.Try.prog 9 := xw Go.Proofs.Try.underlying9 rfl (by kernel_rfl)
instance : Sc Go.Proofs.Try.prog 9 := sc9
theorem ze9 : Ze Go.Proofs.Try.prog 9 [.string .empty] := ym (z := .string .empty) (by kernel_rfl) rfl
instance : Ze Go.Proofs.Try.prog 9 [.string .empty] := ze9
theorem str9 : Str Go.Proofs.Try.prog 9 := ⟨Go.Proofs.Try.underlying9⟩
instance : Str Go.Proofs.Try.prog 9 := str9
theorem sc12 : Sc Go.Proofs.Try.prog 12 := xw Go.Proofs.Try.underlying12 rfl (by kernel_rfl)
instance : Sc Go.Proofs.Try.prog 12 := sc12
theorem ze12 : Ze Go.Proofs.Try.prog 12 [.int .u64 (0)] := ym (z := .int .u64 (0)) (by kernel_rfl) rfl
instance : Ze Go.Proofs.Try.prog 12 [.int .u64 (0)] := ze12
theorem ik12 : Ik Go.Proofs.Try.prog 12 .u64 := ⟨Go.Proofs.Try.underlying12⟩
instance : Ik Go.Proofs.Try.prog 12 .u64 := ik12
theorem ag13 : Ag Go.Proofs.Try.prog 13 2 := wa Go.Proofs.Try.underlying13 (by kernel_rfl)
instance : Ag Go.Proofs.Try.prog 13 2 := ag13
theorem jc : Fd Go.Proofs.Try.prog 13 0 0 1 false := yD Go.Proofs.Try.underlying13 (off := 0) (ft := 9) rfl Go.Proofs.Try.underlying9 (n := 1) (by kernel_rfl) rfl (by decide)
instance : Fd Go.Proofs.Try.prog 13 0 0 1 false := jc
theorem jb : Fd Go.Proofs.Try.prog 13 1 1 1 false := yD Go.Proofs.Try.underlying13 (off := 1) (ft := 12) rfl Go.Proofs.Try.underlying12 (n := 1) (by kernel_rfl) rfl (by decide)
instance : Fd Go.Proofs.Try.prog 13 1 1 1 false := jb
theorem pl13 : Pl Go.Proofs.Try.prog 13 [(0, 1), (1, 1)] := wZ Go.Proofs.Try.underlying13 (by kernel_rfl)
instance : Pl Go.Proofs.Try.prog 13 [(0, 1), (1, 1)] := pl13
theorem ze13 : Ze Go.Proofs.Try.prog 13 [.string .empty, .int .u64 (0)] := ym (z := .agg #[.string .empty, .int .u64 (0)]) (by kernel_rfl) rfl
instance : Ze Go.Proofs.Try.prog 13 [.string .empty, .int .u64 (0)] := ze13
theorem sc21 : Sc Go.Proofs.Try.prog 21 := xw Go.Proofs.Try.underlying21 rfl (by kernel_rfl)
instance : Sc Go.Proofs.Try.prog 21 := sc21
theorem ze21 : Ze Go.Proofs.Try.prog 21 [.int .i32 (0)] := ym (z := .int .i32 (0)) (by kernel_rfl) rfl
instance : Ze Go.Proofs.Try.prog 21 [.int .i32 (0)] := ze21
theorem ik21 : Ik Go.Proofs.Try.prog 21 .i32 := ⟨Go.Proofs.Try.underlying21⟩
instance : Ik Go.Proofs.Try.prog 21 .i32 := ik21
theorem sc22 : Sc Go.Proofs.Try.prog 22 := xw Go.Proofs.Try.underlying22 rfl (by kernel_rfl)
instance : Sc Go.Proofs.Try.prog 22 := sc22
theorem ze22 : Ze Go.Proofs.Try.prog 22 [.slice none 0 0] := ym (z := .slice none 0 0) (by kernel_rfl) rfl
instance : Ze Go.Proofs.Try.prog 22 [.slice none 0 0] := ze22
theorem sl22 : Sl Go.Proofs.Try.prog 22 5 1 1 := t5 (z := .int .u8 (0)) Go.Proofs.Try.underlying22 (by kernel_rfl) rfl (by decide)
instance : Sl Go.Proofs.Try.prog 22 5 1 1 := sl22
theorem sc24 : Sc Go.Proofs.Try.prog 24 := xw Go.Proofs.Try.underlying24 rfl (by kernel_rfl)
instance : Sc Go.Proofs.Try.prog 24 := sc24
theorem ze24 : Ze Go.Proofs.Try.prog 24 [.slice none 0 0] := ym (z := .slice none 0 0) (by kernel_rfl) rfl
instance : Ze Go.Proofs.Try.prog 24 [.slice none 0 0] := ze24
theorem sl24 : Sl Go.Proofs.Try.prog 24 78 3 24 := t5 (z := .agg #[.int .i64 (0), .int .i64 (0), .int .i64 (0)]) Go.Proofs.Try.underlying24 (by kernel_rfl) rfl (by decide)
instance : Sl Go.Proofs.Try.prog 24 78 3 24 := sl24
theorem sc25 : Sc Go.Proofs.Try.prog 25 := xw Go.Proofs.Try.underlying25 rfl (by kernel_rfl)
instance : Sc Go.Proofs.Try.prog 25 := sc25
theorem ze25 : Ze Go.Proofs.Try.prog 25 [.slice none 0 0] := ym (z := .slice none 0 0) (by kernel_rfl) rfl
instance : Ze Go.Proofs.Try.prog 25 [.slice none 0 0] := ze25
theorem sl25 : Sl Go.Proofs.Try.prog 25 84 1 24 := t5 (z := .agg #[.slice none 0 0]) Go.Proofs.Try.underlying25 (by kernel_rfl) rfl (by decide)
instance : Sl Go.Proofs.Try.prog 25 84 1 24 := sl25
theorem ag26 : Ag Go.Proofs.Try.prog 26 10 := wa Go.Proofs.Try.underlying26 (by kernel_rfl)
instance : Ag Go.Proofs.Try.prog 26 10 := ag26
theorem ja : Fd Go.Proofs.Try.prog 26 0 0 1 false := yD Go.Proofs.Try.underlying26 (off := 0) (ft := 24) rfl Go.Proofs.Try.underlying24 (n := 1) (by kernel_rfl) rfl (by decide)
instance : Fd Go.Proofs.Try.prog 26 0 0 1 false := ja
theorem jZ : Fd Go.Proofs.Try.prog 26 1 1 1 false := yD Go.Proofs.Try.underlying26 (off := 1) (ft := 3) rfl Go.Proofs.Try.underlying3 (n := 1) (by kernel_rfl) rfl (by decide)
instance : Fd Go.Proofs.Try.prog 26 1 1 1 false := jZ
theorem jY : Fd Go.Proofs.Try.prog 26 2 2 1 false := yD Go.Proofs.Try.underlying26 (off := 2) (ft := 24) rfl Go.Proofs.Try.underlying24 (n := 1) (by kernel_rfl) rfl (by decide)
instance : Fd Go.Proofs.Try.prog 26 2 2 1 false := jY
theorem jX : Fd Go.Proofs.Try.prog 26 3 3 1 false := yD Go.Proofs.Try.underlying26 (off := 3) (ft := 24) rfl Go.Proofs.Try.underlying24 (n := 1) (by kernel_rfl) rfl (by decide)
instance : Fd Go.Proofs.Try.prog 26 3 3 1 false := jX
theorem jW : Fd Go.Proofs.Try.prog 26 4 4 1 false := yD Go.Proofs.Try.underlying26 (off := 4) (ft := 24) rfl Go.Proofs.Try.underlying24 (n := 1) (by kernel_rfl) rfl (by decide)
instance : Fd Go.Proofs.Try.prog 26 4 4 1 false := jW
theorem jV : Fd Go.Proofs.Try.prog 26 5 5 1 false := yD Go.Proofs.Try.underlying26 (off := 5) (ft := 25) rfl Go.Proofs.Try.underlying25 (n := 1) (by kernel_rfl) rfl (by decide)
instance : Fd Go.Proofs.Try.prog 26 5 5 1 false := jV
theorem jU : Fd Go.Proofs.Try.prog 26 6 6 1 false := yD Go.Proofs.Try.underlying26 (off := 6) (ft := 3) rfl Go.Proofs.Try.underlying3 (n := 1) (by kernel_rfl) rfl (by decide)
instance : Fd Go.Proofs.Try.prog 26 6 6 1 false := jU
theorem jT : Fd Go.Proofs.Try.prog 26 7 7 1 false := yD Go.Proofs.Try.underlying26 (off := 7) (ft := 3) rfl Go.Proofs.Try.underlying3 (n := 1) (by kernel_rfl) rfl (by decide)
instance : Fd Go.Proofs.Try.prog 26 7 7 1 false := jT
theorem jS : Fd Go.Proofs.Try.prog 26 8 8 1 false := yD Go.Proofs.Try.underlying26 (off := 8) (ft := 3) rfl Go.Proofs.Try.underlying3 (n := 1) (by kernel_rfl) rfl (by decide)
instance : Fd Go.Proofs.Try.prog 26 8 8 1 false := jS
theorem jR : Fd Go.Proofs.Try.prog 26 9 9 1 false := yD Go.Proofs.Try.underlying26 (off := 9) (ft := 3) rfl Go.Proofs.Try.underlying3 (n := 1) (by kernel_rfl) rfl (by decide)
instance : Fd Go.Proofs.Try.prog 26 9 9 1 false := jR
theorem pl26 : Pl Go.Proofs.Try.prog 26 [(0, 1), (1, 1), (2, 1), (3, 1), (4, 1), (5, 1), (6, 1), (7, 1), (8, 1), (9, 1)] := wZ Go.Proofs.Try.underlying26 (by kernel_rfl)
instance : Pl Go.Proofs.Try.prog 26 [(0, 1), (1, 1), (2, 1), (3, 1), (4, 1), (5, 1), (6, 1), (7, 1), (8, 1), (9, 1)] := pl26
theorem ze26 : Ze Go.Proofs.Try.prog 26 [.slice none 0 0, .int .i64 (0), .slice none 0 0, .slice none 0 0, .slice none 0 0, .slice none 0 0, .int .i64 (0), .int .i64 (0), .int .i64 (0), .int .i64 (0)] := ym (z := .agg #[.slice none 0 0, .int .i64 (0), .slice none 0 0, .slice none 0 0, .slice none 0 0, .slice none 0 0, .int .i64 (0), .int .i64 (0), .int .i64 (0), .int .i64 (0)]) (by kernel_rfl) rfl
instance : Ze Go.Proofs.Try.prog 26 [.slice none 0 0, .int .i64 (0), .slice none 0 0, .slice none 0 0, .slice none 0 0, .slice none 0 0, .int .i64 (0), .int .i64 (0), .int .i64 (0), .int .i64 (0)] := ze26
theorem ag27 : Ag Go.Proofs.Try.prog 27 10 := wa Go.Proofs.Try.underlying27 (by kernel_rfl)
instance : Ag Go.Proofs.Try.prog 27 10 := ag27
theorem jQ : Fd Go.Proofs.Try.prog 27 0 0 1 false := yD Go.Proofs.Try.underlying27 (off := 0) (ft := 24) rfl Go.Proofs.Try.underlying24 (n := 1) (by kernel_rfl) rfl (by decide)
instance : Fd Go.Proofs.Try.prog 27 0 0 1 false := jQ
theorem jP : Fd Go.Proofs.Try.prog 27 1 1 1 false := yD Go.Proofs.Try.underlying27 (off := 1) (ft := 3) rfl Go.Proofs.Try.underlying3 (n := 1) (by kernel_rfl) rfl (by decide)
instance : Fd Go.Proofs.Try.prog 27 1 1 1 false := jP
theorem jO : Fd Go.Proofs.Try.prog 27 2 2 1 false := yD Go.Proofs.Try.underlying27 (off := 2) (ft := 24) rfl Go.Proofs.Try.underlying24 (n := 1) (by kernel_rfl) rfl (by decide)
instance : Fd Go.Proofs.Try.prog 27 2 2 1 false := jO
theorem jN : Fd Go.Proofs.Try.prog 27 3 3 1 false := yD Go.Proofs.Try.underlying27 (off := 3) (ft := 24) rfl Go.Proofs.Try.underlying24 (n := 1) (by kernel_rfl) rfl (by decide)
instance : Fd Go.Proofs.Try.prog 27 3 3 1 false := jN
theorem jM : Fd Go.Proofs.Try.prog 27 4 4 1 false := yD Go.Proofs.Try.underlying27 (off := 4) (ft := 24) rfl Go.Proofs.Try.underlying24 (n := 1) (by kernel_rfl) rfl (by decide)
instance : Fd Go.Proofs.Try.prog 27 4 4 1 false := jM
theorem jL : Fd Go.Proofs.Try.prog 27 5 5 1 false := yD Go.Proofs.Try.underlying27 (off := 5) (ft := 25) rfl Go.Proofs.Try.underlying25 (n := 1) (by kernel_rfl) rfl (by decide)
instance : Fd Go.Proofs.Try.prog 27 5 5 1 false := jL
theorem jK : Fd Go.Proofs.Try.prog 27 6 6 1 false := yD Go.Proofs.Try.underlying27 (off := 6) (ft := 3) rfl Go.Proofs.Try.underlying3 (n := 1) (by kernel_rfl) rfl (by decide)
instance : Fd Go.Proofs.Try.prog 27 6 6 1 false := jK
theorem jJ : Fd Go.Proofs.Try.prog 27 7 7 1 false := yD Go.Proofs.Try.underlying27 (off := 7) (ft := 3) rfl Go.Proofs.Try.underlying3 (n := 1) (by kernel_rfl) rfl (by decide)
instance : Fd Go.Proofs.Try.prog 27 7 7 1 false := jJ
theorem jI : Fd Go.Proofs.Try.prog 27 8 8 1 false := yD Go.Proofs.Try.underlying27 (off := 8) (ft := 3) rfl Go.Proofs.Try.underlying3 (n := 1) (by kernel_rfl) rfl (by decide)
instance : Fd Go.Proofs.Try.prog 27 8 8 1 false := jI
theorem jH : Fd Go.Proofs.Try.prog 27 9 9 1 false := yD Go.Proofs.Try.underlying27 (off := 9) (ft := 3) rfl Go.Proofs.Try.underlying3 (n := 1) (by kernel_rfl) rfl (by decide)
instance : Fd Go.Proofs.Try.prog 27 9 9 1 false := jH
theorem pl27 : Pl Go.Proofs.Try.prog 27 [(0, 1), (1, 1), (2, 1), (3, 1), (4, 1), (5, 1), (6, 1), (7, 1), (8, 1), (9, 1)] := wZ Go.Proofs.Try.underlying27 (by kernel_rfl)
instance : Pl Go.Proofs.Try.prog 27 [(0, 1), (1, 1), (2, 1), (3, 1), (4, 1), (5, 1), (6, 1), (7, 1), (8, 1), (9, 1)] := pl27
theorem ze27 : Ze Go.Proofs.Try.prog 27 [.slice none 0 0, .int .i64 (0), .slice none 0 0, .slice none 0 0, .slice none 0 0, .slice none 0 0, .int .i64 (0), .int .i64 (0), .int .i64 (0), .int .i64 (0)] := ym (z := .agg #[.slice none 0 0, .int .i64 (0), .slice none 0 0, .slice none 0 0, .slice none 0 0, .slice none 0 0, .int .i64 (0), .int .i64 (0), .int .i64 (0), .int .i64 (0)]) (by kernel_rfl) rfl
instance : Ze Go.Proofs.Try.prog 27 [.slice none 0 0, .int .i64 (0), .slice none 0 0, .slice none 0 0, .slice none 0 0, .slice none 0 0, .int .i64 (0), .int .i64 (0), .int .i64 (0), .int .i64 (0)] := ze27
theorem sc36 : Sc Go.Proofs.Try.prog 36 := xw Go.Proofs.Try.underlying36 rfl (by kernel_rfl)
instance : Sc Go.Proofs.Try.prog 36 := sc36
theorem ze36 : Ze Go.Proofs.Try.prog 36 [.slice none 0 0] := ym (z := .slice none 0 0) (by kernel_rfl) rfl
instance : Ze Go.Proofs.Try.prog 36 [.slice none 0 0] := ze36
theorem sl36 : Sl Go.Proofs.Try.prog 36 3 1 8 := t5 (z := .int .i64 (0)) Go.Proofs.Try.underlying36 (by kernel_rfl) rfl (by decide)
instance : Sl Go.Proofs.Try.prog 36 3 1 8 := sl36
theorem ag39 : Ag Go.Proofs.Try.prog 39 4 := wa Go.Proofs.Try.underlying39 (by kernel_rfl)
instance : Ag Go.Proofs.Try.prog 39 4 := ag39
theorem jG : Fd Go.Proofs.Try.prog 39 0 0 1 false := yD Go.Proofs.Try.underlying39 (off := 0) (ft := 24) rfl Go.Proofs.Try.underlying24 (n := 1) (by kernel_rfl) rfl (by decide)
instance : Fd Go.Proofs.Try.prog 39 0 0 1 false := jG
theorem jF : Fd Go.Proofs.Try.prog 39 1 1 1 false := yD Go.Proofs.Try.underlying39 (off := 1) (ft := 3) rfl Go.Proofs.Try.underlying3 (n := 1) (by kernel_rfl) rfl (by decide)
instance : Fd Go.Proofs.Try.prog 39 1 1 1 false := jF
theorem jE : Fd Go.Proofs.Try.prog 39 2 2 1 false := yD Go.Proofs.Try.underlying39 (off := 2) (ft := 3) rfl Go.Proofs.Try.underlying3 (n := 1) (by kernel_rfl) rfl (by decide)
instance : Fd Go.Proofs.Try.prog 39 2 2 1 false := jE
theorem jD : Fd Go.Proofs.Try.prog 39 3 3 1 false := yD Go.Proofs.Try.underlying39 (off := 3) (ft := 3) rfl Go.Proofs.Try.underlying3 (n := 1) (by kernel_rfl) rfl (by decide)
instance : Fd Go.Proofs.Try.prog 39 3 3 1 false := jD
theorem pl39 : Pl Go.Proofs.Try.prog 39 [(0, 1), (1, 1), (2, 1), (3, 1)] := wZ Go.Proofs.Try.underlying39 (by kernel_rfl)
instance : Pl Go.Proofs.Try.prog 39 [(0, 1), (1, 1), (2, 1), (3, 1)] := pl39
theorem ze39 : Ze Go.Proofs.Try.prog 39 [.slice none 0 0, .int .i64 (0), .int .i64 (0), .int .i64 (0)] := ym (z := .agg #[.slice none 0 0, .int .i64 (0), .int .i64 (0), .int .i64 (0)]) (by kernel_rfl) rfl
instance : Ze Go.Proofs.Try.prog 39 [.slice none 0 0, .int .i64 (0), .int .i64 (0), .int .i64 (0)] := ze39
theorem ag40 : Ag Go.Proofs.Try.prog 40 4 := wa Go.Proofs.Try.underlying40 (by kernel_rfl)
instance : Ag Go.Proofs.Try.prog 40 4 := ag40
theorem jC : Fd Go.Proofs.Try.prog 40 0 0 1 false := yD Go.Proofs.Try.underlying40 (off := 0) (ft := 24) rfl Go.Proofs.Try.underlying24 (n := 1) (by kernel_rfl) rfl (by decide)
instance : Fd Go.Proofs.Try.prog 40 0 0 1 false := jC
theorem jB : Fd Go.Proofs.Try.prog 40 1 1 1 false := yD Go.Proofs.Try.underlying40 (off := 1) (ft := 3) rfl Go.Proofs.Try.underlying3 (n := 1) (by kernel_rfl) rfl (by decide)
instance : Fd Go.Proofs.Try.prog 40 1 1 1 false := jB
theorem jA : Fd Go.Proofs.Try.prog 40 2 2 1 false := yD Go.Proofs.Try.underlying40 (off := 2) (ft := 3) rfl Go.Proofs.Try.underlying3 (n := 1) (by kernel_rfl) rfl (by decide)
instance : Fd Go.Proofs.Try.prog 40 2 2 1 false := jA
theorem k9 : Fd Go.Proofs.Try.prog 40 3 3 1 false := yD Go.Proofs.Try.underlying40 (off := 3) (ft := 3) rfl Go.Proofs.Try.underlying3 (n := 1) (by kernel_rfl) rfl (by decide)
instance : Fd Go.Proofs.Try.prog 40 3 3 1 false := k9
theorem pl40 : Pl Go.Proofs.Try.prog 40 [(0, 1), (1, 1), (2, 1), (3, 1)] := wZ Go.Proofs.Try.underlying40 (by kernel_rfl)
instance : Pl Go.Proofs.Try.prog 40 [(0, 1), (1, 1), (2, 1), (3, 1)] := pl40
theorem ze40 : Ze Go.Proofs.Try.prog 40 [.slice none 0 0, .int .i64 (0), .int .i64 (0), .int .i64 (0)] := ym (z := .agg #[.slice none 0 0, .int .i64 (0), .int .i64 (0), .int .i64 (0)]) (by kernel_rfl) rfl
instance : Ze Go.Proofs.Try.prog 40 [.slice none 0 0, .int .i64 (0), .int .i64 (0), .int .i64 (0)] := ze40
theorem sc50 : Sc Go.Proofs.Try.prog 50 := xw Go.Proofs.Try.underlying50 rfl (by kernel_rfl)
instance : Sc Go.Proofs.Try.prog 50 := sc50
theorem ze50 : Ze Go.Proofs.Try.prog 50 [.slice none 0 0] := ym (z := .slice none 0 0) (by kernel_rfl) rfl
instance : Ze Go.Proofs.Try.prog 50 [.slice none 0 0] := ze50
theorem sl50 : Sl Go.Proofs.Try.prog 50 105 3 24 := t5 (z := .agg #[.int .i64 (0), .int .i64 (0), .int .i64 (0)]) Go.Proofs.Try.underlying50 (by kernel_rfl) rfl (by decide)
instance : Sl Go.Proofs.Try.prog 50 105 3 24 := sl50
theorem sc51 : Sc Go.Proofs.Try.prog 51 := xw Go.Proofs.Try.underlying51 rfl (by kernel_rfl)
instance : Sc Go.Proofs.Try.prog 51 := sc51
theorem ze51 : Ze Go.Proofs.Try.prog 51 [.slice none 0 0] := ym (z := .slice none 0 0) (by kernel_rfl) rfl
instance : Ze Go.Proofs.Try.prog 51 [.slice none 0 0] := ze51
theorem sl51 : Sl Go.Proofs.Try.prog 51 119 1 24 := t5 (z := .agg #[.slice none 0 0]) Go.Proofs.Try.underlying51 (by kernel_rfl) rfl (by decide)
instance : Sl Go.Proofs.Try.prog 51 119 1 24 := sl51
theorem ag52 : Ag Go.Proofs.Try.prog 52 10 := wa Go.Proofs.Try.underlying52 (by kernel_rfl)
instance : Ag Go.Proofs.Try.prog 52 10 := ag52
theorem k8 : Fd Go.Proofs.Try.prog 52 0 0 1 false := yD Go.Proofs.Try.underlying52 (off := 0) (ft := 50) rfl Go.Proofs.Try.underlying50 (n := 1) (by kernel_rfl) rfl (by decide)
instance : Fd Go.Proofs.Try.prog 52 0 0 1 false := k8
theorem k7 : Fd Go.Proofs.Try.prog 52 1 1 1 false := yD Go.Proofs.Try.underlying52 (off := 1) (ft := 3) rfl Go.Proofs.Try.underlying3 (n := 1) (by kernel_rfl) rfl (by decide)
instance : Fd Go.Proofs.Try.prog 52 1 1 1 false := k7
theorem kz : Fd Go.Proofs.Try.prog 52 2 2 1 false := yD Go.Proofs.Try.underlying52 (off := 2) (ft := 50) rfl Go.Proofs.Try.underlying50 (n := 1) (by kernel_rfl) rfl (by decide)
instance : Fd Go.Proofs.Try.prog 52 2 2 1 false := kz
theorem ky : Fd Go.Proofs.Try.prog 52 3 3 1 false := yD Go.Proofs.Try.underlying52 (off := 3) (ft := 50) rfl Go.Proofs.Try.underlying50 (n := 1) (by kernel_rfl) rfl (by decide)
instance : Fd Go.Proofs.Try.prog 52 3 3 1 false := ky
theorem kx : Fd Go.Proofs.Try.prog 52 4 4 1 false := yD Go.Proofs.Try.underlying52 (off := 4) (ft := 50) rfl Go.Proofs.Try.underlying50 (n := 1) (by kernel_rfl) rfl (by decide)
instance : Fd Go.Proofs.Try.prog 52 4 4 1 false := kx
theorem kw : Fd Go.Proofs.Try.prog 52 5 5 1 false := yD Go.Proofs.Try.underlying52 (off := 5) (ft := 51) rfl Go.Proofs.Try.underlying51 (n := 1) (by kernel_rfl) rfl (by decide)
instance : Fd Go.Proofs.Try.prog 52 5 5 1 false := kw
theorem kv : Fd Go.Proofs.Try.prog 52 6 6 1 false := yD Go.Proofs.Try.underlying52 (off := 6) (ft := 3) rfl Go.Proofs.Try.underlying3 (n := 1) (by kernel_rfl) rfl (by decide)
instance : Fd Go.Proofs.Try.prog 52 6 6 1 false := kv
theorem ku : Fd Go.Proofs.Try.prog 52 7 7 1 false := yD Go.Proofs.Try.underlying52 (off := 7) (ft := 3) rfl Go.Proofs.Try.underlying3 (n := 1) (by kernel_rfl) rfl (by decide)
instance : Fd Go.Proofs.Try.prog 52 7 7 1 false := ku
theorem kt : Fd Go.Proofs.Try.prog 52 8 8 1 false := yD Go.Proofs.Try.underlying52 (off := 8) (ft := 3) rfl Go.Proofs.Try.underlying3 (n := 1) (by kernel_rfl) rfl (by decide)
instance : Fd Go.Proofs.Try.prog 52 8 8 1 false := kt
theorem kq : Fd Go.Proofs.Try.prog 52 9 9 1 false := yD Go.Proofs.Try.underlying52 (off := 9) (ft := 3) rfl Go.Proofs.Try.underlying3 (n := 1) (by kernel_rfl) rfl (by decide)
instance : Fd Go.Proofs.Try.prog 52 9 9 1 false := kq
theorem pl52 : Pl Go.Proofs.Try.prog 52 [(0, 1), (1, 1), (2, 1), (3, 1), (4, 1), (5, 1), (6, 1), (7, 1), (8, 1), (9, 1)] := wZ Go.Proofs.Try.underlying52 (by kernel_rfl)
instance : Pl Go.Proofs.Try.prog 52 [(0, 1), (1, 1), (2, 1), (3, 1), (4, 1), (5, 1), (6, 1), (7, 1), (8, 1), (9, 1)] := pl52
theorem ze52 : Ze Go.Proofs.Try.prog 52 [.slice none 0 0, .int .i64 (0), .slice none 0 0, .slice none 0 0, .slice none 0 0, .slice none 0 0, .int .i64 (0), .int .i64 (0), .int .i64 (0), .int .i64 (0)] := ym (z := .agg #[.slice none 0 0, .int .i64 (0), .slice none 0 0, .slice none 0 0, .slice none 0 0, .slice none 0 0, .int .i64 (0), .int .i64 (0), .int .i64 (0), .int .i64 (0)]) (by kernel_rfl) rfl
instance : Ze Go.Proofs.Try.prog 52 [.slice none 0 0, .int .i64 (0), .slice none 0 0, .slice none 0 0, .slice none 0 0, .slice none 0 0, .int .i64 (0), .int .i64 (0), .int .i64 (0), .int .i64 (0)] := ze52
theorem ag53 : Ag Go.Proofs.Try.prog 53 10 := wa Go.Proofs.Try.underlying53 (by kernel_rfl)
instance : Ag Go.Proofs.Try.prog 53 10 := ag53
theorem kp : Fd Go.Proofs.Try.prog 53 0 0 1 false := yD Go.Proofs.Try.underlying53 (off := 0) (ft := 50) rfl Go.Proofs.Try.underlying50 (n := 1) (by kernel_rfl) rfl (by decide)
instance : Fd Go.Proofs.Try.prog 53 0 0 1 false := kp
theorem ko : Fd Go.Proofs.Try.prog 53 1 1 1 false := yD Go.Proofs.Try.underlying53 (off := 1) (ft := 3) rfl Go.Proofs.Try.underlying3 (n := 1) (by kernel_rfl) rfl (by decide)
instance : Fd Go.Proofs.Try.prog 53 1 1 1 false := ko
theorem kn : Fd Go.Proofs.Try.prog 53 2 2 1 false := yD Go.Proofs.Try.underlying53 (off := 2) (ft := 50) rfl Go.Proofs.Try.underlying50 (n := 1) (by kernel_rfl) rfl (by decide)
instance : Fd Go.Proofs.Try.prog 53 2 2 1 false := kn
theorem km : Fd Go.Proofs.Try.prog 53 3 3 1 false := yD Go.Proofs.Try.underlying53 (off := 3) (ft := 50) rfl Go.Proofs.Try.underlying50 (n := 1) (by kernel_rfl) rfl (by decide)
instance : Fd Go.Proofs.Try.prog 53 3 3 1 false := km
theorem kj : Fd Go.Proofs.Try.prog 53 4 4 1 false := yD Go.Proofs.Try.underlying53 (off := 4) (ft := 50) rfl Go.Proofs.Try.underlying50 (n := 1) (by kernel_rfl) rfl (by decide)
instance : Fd Go.Proofs.Try.prog 53 4 4 1 false := kj
theorem ki : Fd Go.Proofs.Try.prog 53 5 5 1 false := yD Go.Proofs.Try.underlying53 (off := 5) (ft := 51) rfl Go.Proofs.Try.underlying51 (n := 1) (by kernel_rfl) rfl (by decide)
instance : Fd Go.Proofs.Try.prog 53 5 5 1 false := ki
theorem kh : Fd Go.Proofs.Try.prog 53 6 6 1 false := yD Go.Proofs.Try.underlying53 (off := 6) (ft := 3) rfl Go.Proofs.Try.underlying3 (n := 1) (by kernel_rfl) rfl (by decide)
instance : Fd Go.Proofs.Try.prog 53 6 6 1 false := kh
theorem kg : Fd Go.Proofs.Try.prog 53 7 7 1 false := yD Go.Proofs.Try.underlying53 (off := 7) (ft := 3) rfl Go.Proofs.Try.underlying3 (n := 1) (by kernel_rfl) rfl (by decide)
instance : Fd Go.Proofs.Try.prog 53 7 7 1 false := kg
theorem kf : Fd Go.Proofs.Try.prog 53 8 8 1 false := yD Go.Proofs.Try.underlying53 (off := 8) (ft := 3) rfl Go.Proofs.Try.underlying3 (n := 1) (by kernel_rfl) rfl (by decide)
instance : Fd Go.Proofs.Try.prog 53 8 8 1 false := kf
theorem ke : Fd Go.Proofs.Try.prog 53 9 9 1 false := yD Go.Proofs.Try.underlying53 (off := 9) (ft := 3) rfl Go.Proofs.Try.underlying3 (n := 1) (by kernel_rfl) rfl (by decide)
instance : Fd Go.Proofs.Try.prog 53 9 9 1 false := ke
theorem pl53 : Pl Go.Proofs.Try.prog 53 [(0, 1), (1, 1), (2, 1), (3, 1), (4, 1), (5, 1), (6, 1), (7, 1), (8, 1), (9, 1)] := wZ Go.Proofs.Try.underlying53 (by kernel_rfl)
instance : Pl Go.Proofs.Try.prog 53 [(0, 1), (1, 1), (2, 1), (3, 1), (4, 1), (5, 1), (6, 1), (7, 1), (8, 1), (9, 1)] := pl53
theorem ze53 : Ze Go.Proofs.Try.prog 53 [.slice none 0 0, .int .i64 (0), .slice none 0 0, .slice none 0 0, .slice none 0 0, .slice none 0 0, .int .i64 (0), .int .i64 (0), .int .i64 (0), .int .i64 (0)] := ym (z := .agg #[.slice none 0 0, .int .i64 (0), .slice none 0 0, .slice none 0 0, .slice none 0 0, .slice none 0 0, .int .i64 (0), .int .i64 (0), .int .i64 (0), .int .i64 (0)]) (by kernel_rfl) rfl
instance : Ze Go.Proofs.Try.prog 53 [.slice none 0 0, .int .i64 (0), .slice none 0 0, .slice none 0 0, .slice none 0 0, .slice none 0 0, .int .i64 (0), .int .i64 (0), .int .i64 (0), .int .i64 (0)] := ze53
theorem sc70 : Sc Go.Proofs.Try.prog 70 := xw Go.Proofs.Try.underlying70 rfl (by kernel_rfl)
instance : Sc Go.Proofs.Try.prog 70 := sc70
theorem ze70 : Ze Go.Proofs.Try.prog 70 [.pointer none] := ym (z := .pointer none) (by kernel_rfl) rfl
instance : Ze Go.Proofs.Try.prog 70 [.pointer none] := ze70
theorem ag77 : Ag Go.Proofs.Try.prog 77 3 := wa Go.Proofs.Try.underlying77 (by kernel_rfl)
instance : Ag Go.Proofs.Try.prog 77 3 := ag77
theorem kb : Fd Go.Proofs.Try.prog 77 0 0 1 false := yD Go.Proofs.Try.underlying77 (off := 0) (ft := 3) rfl Go.Proofs.Try.underlying3 (n := 1) (by kernel_rfl) rfl (by decide)
instance : Fd Go.Proofs.Try.prog 77 0 0 1 false := kb
theorem ka : Fd Go.Proofs.Try.prog 77 1 1 1 false := yD Go.Proofs.Try.underlying77 (off := 1) (ft := 3) rfl Go.Proofs.Try.underlying3 (n := 1) (by kernel_rfl) rfl (by decide)
instance : Fd Go.Proofs.Try.prog 77 1 1 1 false := ka
theorem kZ : Fd Go.Proofs.Try.prog 77 2 2 1 false := yD Go.Proofs.Try.underlying77 (off := 2) (ft := 3) rfl Go.Proofs.Try.underlying3 (n := 1) (by kernel_rfl) rfl (by decide)
instance : Fd Go.Proofs.Try.prog 77 2 2 1 false := kZ
theorem pl77 : Pl Go.Proofs.Try.prog 77 [(0, 1), (1, 1), (2, 1)] := wZ Go.Proofs.Try.underlying77 (by kernel_rfl)
instance : Pl Go.Proofs.Try.prog 77 [(0, 1), (1, 1), (2, 1)] := pl77
theorem ze77 : Ze Go.Proofs.Try.prog 77 [.int .i64 (0), .int .i64 (0), .int .i64 (0)] := ym (z := .agg #[.int .i64 (0), .int .i64 (0), .int .i64 (0)]) (by kernel_rfl) rfl
instance : Ze Go.Proofs.Try.prog 77 [.int .i64 (0), .int .i64 (0), .int .i64 (0)] := ze77
theorem ag78 : Ag Go.Proofs.Try.prog 78 3 := wa Go.Proofs.Try.underlying78 (by kernel_rfl)
instance : Ag Go.Proofs.Try.prog 78 3 := ag78
theorem kY : Fd Go.Proofs.Try.prog 78 0 0 1 false := yD Go.Proofs.Try.underlying78 (off := 0) (ft := 3) rfl Go.Proofs.Try.underlying3 (n := 1) (by kernel_rfl) rfl (by decide)
instance : Fd Go.Proofs.Try.prog 78 0 0 1 false := kY
theorem kX : Fd Go.Proofs.Try.prog 78 1 1 1 false := yD Go.Proofs.Try.underlying78 (off := 1) (ft := 3) rfl Go.Proofs.Try.underlying3 (n := 1) (by kernel_rfl) rfl (by decide)
instance : Fd Go.Proofs.Try.prog 78 1 1 1 false := kX
theorem kW : Fd Go.Proofs.Try.prog 78 2 2 1 false := yD Go.Proofs.Try.underlying78 (off := 2) (ft := 3) rfl Go.Proofs.Try.underlying3 (n := 1) (by kernel_rfl) rfl (by decide)
instance : Fd Go.Proofs.Try.prog 78 2 2 1 false := kW
theorem pl78 : Pl Go.Proofs.Try.prog 78 [(0, 1), (1, 1), (2, 1)] := wZ Go.Proofs.Try.underlying78 (by kernel_rfl)
instance : Pl Go.Proofs.Try.prog 78 [(0, 1), (1, 1), (2, 1)] := pl78
theorem ze78 : Ze Go.Proofs.Try.prog 78 [.int .i64 (0), .int .i64 (0), .int .i64 (0)] := ym (z := .agg #[.int .i64 (0), .int .i64 (0), .int .i64 (0)]) (by kernel_rfl) rfl
instance : Ze Go.Proofs.Try.prog 78 [.int .i64 (0), .int .i64 (0), .int .i64 (0)] := ze78
theorem sc81 : Sc Go.Proofs.Try.prog 81 := xw Go.Proofs.Try.underlying81 rfl (by kernel_rfl)
instance : Sc Go.Proofs.Try.prog 81 := sc81
theorem ze81 : Ze Go.Proofs.Try.prog 81 [.pointer none] := ym (z := .pointer none) (by kernel_rfl) rfl
instance : Ze Go.Proofs.Try.prog 81 [.pointer none] := ze81
theorem ag83 : Ag Go.Proofs.Try.prog 83 1 := wa Go.Proofs.Try.underlying83 (by kernel_rfl)
instance : Ag Go.Proofs.Try.prog 83 1 := ag83
theorem kV : Fd Go.Proofs.Try.prog 83 0 0 1 false := yD Go.Proofs.Try.underlying83 (off := 0) (ft := 24) rfl Go.Proofs.Try.underlying24 (n := 1) (by kernel_rfl) rfl (by decide)
instance : Fd Go.Proofs.Try.prog 83 0 0 1 false := kV
theorem pl83 : Pl Go.Proofs.Try.prog 83 [(0, 1)] := wZ Go.Proofs.Try.underlying83 (by kernel_rfl)
instance : Pl Go.Proofs.Try.prog 83 [(0, 1)] := pl83
theorem ze83 : Ze Go.Proofs.Try.prog 83 [.slice none 0 0] := ym (z := .agg #[.slice none 0 0]) (by kernel_rfl) rfl
instance : Ze Go.Proofs.Try.prog 83 [.slice none 0 0] := ze83
theorem ag84 : Ag Go.Proofs.Try.prog 84 1 := wa Go.Proofs.Try.underlying84 (by kernel_rfl)
instance : Ag Go.Proofs.Try.prog 84 1 := ag84
theorem kU : Fd Go.Proofs.Try.prog 84 0 0 1 false := yD Go.Proofs.Try.underlying84 (off := 0) (ft := 24) rfl Go.Proofs.Try.underlying24 (n := 1) (by kernel_rfl) rfl (by decide)
instance : Fd Go.Proofs.Try.prog 84 0 0 1 false := kU
theorem pl84 : Pl Go.Proofs.Try.prog 84 [(0, 1)] := wZ Go.Proofs.Try.underlying84 (by kernel_rfl)
instance : Pl Go.Proofs.Try.prog 84 [(0, 1)] := pl84
theorem ze84 : Ze Go.Proofs.Try.prog 84 [.slice none 0 0] := ym (z := .agg #[.slice none 0 0]) (by kernel_rfl) rfl
instance : Ze Go.Proofs.Try.prog 84 [.slice none 0 0] := ze84
theorem f9 : Ag Go.Proofs.Try.prog 105 3 := wa Go.Proofs.Try.underlying105 (by kernel_rfl)
instance : Ag Go.Proofs.Try.prog 105 3 := f9
theorem mF : Fd Go.Proofs.Try.prog 105 0 0 1 false := yD Go.Proofs.Try.underlying105 (off := 0) (ft := 3) rfl Go.Proofs.Try.underlying3 (n := 1) (by kernel_rfl) rfl (by decide)
instance : Fd Go.Proofs.Try.prog 105 0 0 1 false := mF
theorem mE : Fd Go.Proofs.Try.prog 105 1 1 1 false := yD Go.Proofs.Try.underlying105 (off := 1) (ft := 3) rfl Go.Proofs.Try.underlying3 (n := 1) (by kernel_rfl) rfl (by decide)
instance : Fd Go.Proofs.Try.prog 105 1 1 1 false := mE
theorem mD : Fd Go.Proofs.Try.prog 105 2 2 1 false := yD Go.Proofs.Try.underlying105 (off := 2) (ft := 3) rfl Go.Proofs.Try.underlying3 (n := 1) (by kernel_rfl) rfl (by decide)
instance : Fd Go.Proofs.Try.prog 105 2 2 1 false := mD
theorem fb : Pl Go.Proofs.Try.prog 105 [(0, 1), (1, 1), (2, 1)] := wZ Go.Proofs.Try.underlying105 (by kernel_rfl)
instance : Pl Go.Proofs.Try.prog 105 [(0, 1), (1, 1), (2, 1)] := fb
theorem fP : Ze Go.Proofs.Try.prog 105 [.int .i64 (0), .int .i64 (0), .int .i64 (0)] := ym (z := .agg #[.int .i64 (0), .int .i64 (0), .int .i64 (0)]) (by kernel_rfl) rfl
instance : Ze Go.Proofs.Try.prog 105 [.int .i64 (0), .int .i64 (0), .int .i64 (0)] := fP
theorem f8 : Ag Go.Proofs.Try.prog 108 3 := wa Go.Proofs.Try.underlying108 (by kernel_rfl)
instance : Ag Go.Proofs.Try.prog 108 3 := f8
theorem mC : Fd Go.Proofs.Try.prog 108 0 0 1 false := yD Go.Proofs.Try.underlying108 (off := 0) (ft := 22) rfl Go.Proofs.Try.underlying22 (n := 1) (by kernel_rfl) rfl (by decide)
instance : Fd Go.Proofs.Try.prog 108 0 0 1 false := mC
theorem mB : Fd Go.Proofs.Try.prog 108 1 1 1 false := yD Go.Proofs.Try.underlying108 (off := 1) (ft := 3) rfl Go.Proofs.Try.underlying3 (n := 1) (by kernel_rfl) rfl (by decide)
instance : Fd Go.Proofs.Try.prog 108 1 1 1 false := mB
theorem mA : Fd Go.Proofs.Try.prog 108 2 2 1 false := yD Go.Proofs.Try.underlying108 (off := 2) (ft := 3) rfl Go.Proofs.Try.underlying3 (n := 1) (by kernel_rfl) rfl (by decide)
instance : Fd Go.Proofs.Try.prog 108 2 2 1 false := mA
theorem fa : Pl Go.Proofs.Try.prog 108 [(0, 1), (1, 1), (2, 1)] := wZ Go.Proofs.Try.underlying108 (by kernel_rfl)
instance : Pl Go.Proofs.Try.prog 108 [(0, 1), (1, 1), (2, 1)] := fa
theorem fO : Ze Go.Proofs.Try.prog 108 [.slice none 0 0, .int .i64 (0), .int .i64 (0)] := ym (z := .agg #[.slice none 0 0, .int .i64 (0), .int .i64 (0)]) (by kernel_rfl) rfl
instance : Ze Go.Proofs.Try.prog 108 [.slice none 0 0, .int .i64 (0), .int .i64 (0)] := fO
theorem f6 : Ag Go.Proofs.Try.prog 109 3 := wa Go.Proofs.Try.underlying109 (by kernel_rfl)
instance : Ag Go.Proofs.Try.prog 109 3 := f6
theorem n9 : Fd Go.Proofs.Try.prog 109 0 0 1 false := yD Go.Proofs.Try.underlying109 (off := 0) (ft := 22) rfl Go.Proofs.Try.underlying22 (n := 1) (by kernel_rfl) rfl (by decide)
instance : Fd Go.Proofs.Try.prog 109 0 0 1 false := n9
theorem n8 : Fd Go.Proofs.Try.prog 109 1 1 1 false := yD Go.Proofs.Try.underlying109 (off := 1) (ft := 3) rfl Go.Proofs.Try.underlying3 (n := 1) (by kernel_rfl) rfl (by decide)
instance : Fd Go.Proofs.Try.prog 109 1 1 1 false := n8
theorem n7 : Fd Go.Proofs.Try.prog 109 2 2 1 false := yD Go.Proofs.Try.underlying109 (off := 2) (ft := 3) rfl Go.Proofs.Try.underlying3 (n := 1) (by kernel_rfl) rfl (by decide)
instance : Fd Go.Proofs.Try.prog 109 2 2 1 false := n7
theorem fZ : Pl Go.Proofs.Try.prog 109 [(0, 1), (1, 1), (2, 1)] := wZ Go.Proofs.Try.underlying109 (by kernel_rfl)
instance : Pl Go.Proofs.Try.prog 109 [(0, 1), (1, 1), (2, 1)] := fZ
theorem fN : Ze Go.Proofs.Try.prog 109 [.slice none 0 0, .int .i64 (0), .int .i64 (0)] := ym (z := .agg #[.slice none 0 0, .int .i64 (0), .int .i64 (0)]) (by kernel_rfl) rfl
instance : Ze Go.Proofs.Try.prog 109 [.slice none 0 0, .int .i64 (0), .int .i64 (0)] := fN
theorem fW : Sc Go.Proofs.Try.prog 115 := xw Go.Proofs.Try.underlying115 rfl (by kernel_rfl)
instance : Sc Go.Proofs.Try.prog 115 := fW
theorem fM : Ze Go.Proofs.Try.prog 115 [.slice none 0 0] := ym (z := .slice none 0 0) (by kernel_rfl) rfl
instance : Ze Go.Proofs.Try.prog 115 [.slice none 0 0] := fM
theorem fS : Sl Go.Proofs.Try.prog 115 24 1 24 := t5 (z := .slice none 0 0) Go.Proofs.Try.underlying115 (by kernel_rfl) rfl (by decide)
instance : Sl Go.Proofs.Try.prog 115 24 1 24 := fS
theorem f0 : Ag Go.Proofs.Try.prog 118 1 := wa Go.Proofs.Try.underlying118 (by kernel_rfl)
instance : Ag Go.Proofs.Try.prog 118 1 := f0
theorem n6 : Fd Go.Proofs.Try.prog 118 0 0 1 false := yD Go.Proofs.Try.underlying118 (off := 0) (ft := 50) rfl Go.Proofs.Try.underlying50 (n := 1) (by kernel_rfl) rfl (by decide)
instance : Fd Go.Proofs.Try.prog 118 0 0 1 false := n6
theorem fY : Pl Go.Proofs.Try.prog 118 [(0, 1)] := wZ Go.Proofs.Try.underlying118 (by kernel_rfl)
instance : Pl Go.Proofs.Try.prog 118 [(0, 1)] := fY
theorem fL : Ze Go.Proofs.Try.prog 118 [.slice none 0 0] := ym (z := .agg #[.slice none 0 0]) (by kernel_rfl) rfl
instance : Ze Go.Proofs.Try.prog 118 [.slice none 0 0] := fL
theorem fz : Ag Go.Proofs.Try.prog 119 1 := wa Go.Proofs.Try.underlying119 (by kernel_rfl)
instance : Ag Go.Proofs.Try.prog 119 1 := fz
theorem nz : Fd Go.Proofs.Try.prog 119 0 0 1 false := yD Go.Proofs.Try.underlying119 (off := 0) (ft := 50) rfl Go.Proofs.Try.underlying50 (n := 1) (by kernel_rfl) rfl (by decide)
instance : Fd Go.Proofs.Try.prog 119 0 0 1 false := nz
theorem fX : Pl Go.Proofs.Try.prog 119 [(0, 1)] := wZ Go.Proofs.Try.underlying119 (by kernel_rfl)
instance : Pl Go.Proofs.Try.prog 119 [(0, 1)] := fX
theorem fK : Ze Go.Proofs.Try.prog 119 [.slice none 0 0] := ym (z := .agg #[.slice none 0 0]) (by kernel_rfl) rfl
instance : Ze Go.Proofs.Try.prog 119 [.slice none 0 0] := fK
theorem fV : Sc Go.Proofs.Try.prog 123 := xw Go.Proofs.Try.underlying123 rfl (by kernel_rfl)
instance : Sc Go.Proofs.Try.prog 123 := fV
theorem fJ : Ze Go.Proofs.Try.prog 123 [.int .u64 (0)] := ym (z := .int .u64 (0)) (by kernel_rfl) rfl
instance : Ze Go.Proofs.Try.prog 123 [.int .u64 (0)] := fJ
theorem fp : Ik Go.Proofs.Try.prog 123 .u64 := ⟨Go.Proofs.Try.underlying123⟩
instance : Ik Go.Proofs.Try.prog 123 .u64 := fp
theorem fU : Sc Go.Proofs.Try.prog 134 := xw Go.Proofs.Try.underlying134 rfl (by kernel_rfl)
instance : Sc Go.Proofs.Try.prog 134 := fU
theorem fI : Ze Go.Proofs.Try.prog 134 [.int .u32 (0)] := ym (z := .int .u32 (0)) (by kernel_rfl) rfl
instance : Ze Go.Proofs.Try.prog 134 [.int .u32 (0)] := fI
theorem fm : Ik Go.Proofs.Try.prog 134 .u32 := ⟨Go.Proofs.Try.underlying134⟩
instance : Ik Go.Proofs.Try.prog 134 .u32 := fm
theorem fT : Sc Go.Proofs.Try.prog 138 := xw Go.Proofs.Try.underlying138 rfl (by kernel_rfl)
instance : Sc Go.Proofs.Try.prog 138 := fT
theorem fH : Ze Go.Proofs.Try.prog 138 [.pointer none] := ym (z := .pointer none) (by kernel_rfl) rfl
instance : Ze Go.Proofs.Try.prog 138 [.pointer none] := fH
def tab : Tab where
  ag := [(13, 2), (26, 10), (27, 10), (39, 4), (40, 4), (52, 10), (53, 10), (77, 3), (78, 3), (83, 1), (84, 1), (105, 3), (108, 3), (109, 3), (118, 1), (119, 1)]
  sc := [2, 3, 4, 5, 9, 12, 21, 22, 24, 25, 36, 50, 51, 70, 81, 115, 123, 134, 138]
  fd := [((13, 0), (0, 1, false)), ((13, 1), (1, 1, false)), ((26, 0), (0, 1, false)), ((26, 1), (1, 1, false)), ((26, 2), (2, 1, false)), ((26, 3), (3, 1, false)), ((26, 4), (4, 1, false)), ((26, 5), (5, 1, false)), ((26, 6), (6, 1, false)), ((26, 7), (7, 1, false)), ((26, 8), (8, 1, false)), ((26, 9), (9, 1, false)), ((27, 0), (0, 1, false)), ((27, 1), (1, 1, false)), ((27, 2), (2, 1, false)), ((27, 3), (3, 1, false)), ((27, 4), (4, 1, false)), ((27, 5), (5, 1, false)), ((27, 6), (6, 1, false)), ((27, 7), (7, 1, false)), ((27, 8), (8, 1, false)), ((27, 9), (9, 1, false)), ((39, 0), (0, 1, false)), ((39, 1), (1, 1, false)), ((39, 2), (2, 1, false)), ((39, 3), (3, 1, false)), ((40, 0), (0, 1, false)), ((40, 1), (1, 1, false)), ((40, 2), (2, 1, false)), ((40, 3), (3, 1, false)), ((52, 0), (0, 1, false)), ((52, 1), (1, 1, false)), ((52, 2), (2, 1, false)), ((52, 3), (3, 1, false)), ((52, 4), (4, 1, false)), ((52, 5), (5, 1, false)), ((52, 6), (6, 1, false)), ((52, 7), (7, 1, false)), ((52, 8), (8, 1, false)), ((52, 9), (9, 1, false)), ((53, 0), (0, 1, false)), ((53, 1), (1, 1, false)), ((53, 2), (2, 1, false)), ((53, 3), (3, 1, false)), ((53, 4), (4, 1, false)), ((53, 5), (5, 1, false)), ((53, 6), (6, 1, false)), ((53, 7), (7, 1, false)), ((53, 8), (8, 1, false)), ((53, 9), (9, 1, false)), ((77, 0), (0, 1, false)), ((77, 1), (1, 1, false)), ((77, 2), (2, 1, false)), ((78, 0), (0, 1, false)), ((78, 1), (1, 1, false)), ((78, 2), (2, 1, false)), ((83, 0), (0, 1, false)), ((84, 0), (0, 1, false)), ((105, 0), (0, 1, false)), ((105, 1), (1, 1, false)), ((105, 2), (2, 1, false)), ((108, 0), (0, 1, false)), ((108, 1), (1, 1, false)), ((108, 2), (2, 1, false)), ((109, 0), (0, 1, false)), ((109, 1), (1, 1, false)), ((109, 2), (2, 1, false)), ((118, 0), (0, 1, false)), ((119, 0), (0, 1, false))]
  ze := [(2, [.int .i64 (0)]), (3, [.int .i64 (0)]), (4, [.bool false]), (5, [.int .u8 (0)]), (9, [.string .empty]), (12, [.int .u64 (0)]), (13, [.string .empty, .int .u64 (0)]), (21, [.int .i32 (0)]), (22, [.slice none 0 0]), (24, [.slice none 0 0]), (25, [.slice none 0 0]), (26, [.slice none 0 0, .int .i64 (0), .slice none 0 0, .slice none 0 0, .slice none 0 0, .slice none 0 0, .int .i64 (0), .int .i64 (0), .int .i64 (0), .int .i64 (0)]), (27, [.slice none 0 0, .int .i64 (0), .slice none 0 0, .slice none 0 0, .slice none 0 0, .slice none 0 0, .int .i64 (0), .int .i64 (0), .int .i64 (0), .int .i64 (0)]), (36, [.slice none 0 0]), (39, [.slice none 0 0, .int .i64 (0), .int .i64 (0), .int .i64 (0)]), (40, [.slice none 0 0, .int .i64 (0), .int .i64 (0), .int .i64 (0)]), (50, [.slice none 0 0]), (51, [.slice none 0 0]), (52, [.slice none 0 0, .int .i64 (0), .slice none 0 0, .slice none 0 0, .slice none 0 0, .slice none 0 0, .int .i64 (0), .int .i64 (0), .int .i64 (0), .int .i64 (0)]), (53, [.slice none 0 0, .int .i64 (0), .slice none 0 0, .slice none 0 0, .slice none 0 0, .slice none 0 0, .int .i64 (0), .int .i64 (0), .int .i64 (0), .int .i64 (0)]), (70, [.pointer none]), (77, [.int .i64 (0), .int .i64 (0), .int .i64 (0)]), (78, [.int .i64 (0), .int .i64 (0), .int .i64 (0)]), (81, [.pointer none]), (83, [.slice none 0 0]), (84, [.slice none 0 0]), (105, [.int .i64 (0), .int .i64 (0), .int .i64 (0)]), (108, [.slice none 0 0, .int .i64 (0), .int .i64 (0)]), (109, [.slice none 0 0, .int .i64 (0), .int .i64 (0)]), (115, [.slice none 0 0]), (118, [.slice none 0 0]), (119, [.slice none 0 0]), (123, [.int .u64 (0)]), (134, [.int .u32 (0)]), (138, [.pointer none])]
  pl := [(13, [(0, 1), (1, 1)]), (26, [(0, 1), (1, 1), (2, 1), (3, 1), (4, 1), (5, 1), (6, 1), (7, 1), (8, 1), (9, 1)]), (27, [(0, 1), (1, 1), (2, 1), (3, 1), (4, 1), (5, 1), (6, 1), (7, 1), (8, 1), (9, 1)]), (39, [(0, 1), (1, 1), (2, 1), (3, 1)]), (40, [(0, 1), (1, 1), (2, 1), (3, 1)]), (52, [(0, 1), (1, 1), (2, 1), (3, 1), (4, 1), (5, 1), (6, 1), (7, 1), (8, 1), (9, 1)]), (53, [(0, 1), (1, 1), (2, 1), (3, 1), (4, 1), (5, 1), (6, 1), (7, 1), (8, 1), (9, 1)]), (77, [(0, 1), (1, 1), (2, 1)]), (78, [(0, 1), (1, 1), (2, 1)]), (83, [(0, 1)]), (84, [(0, 1)]), (105, [(0, 1), (1, 1), (2, 1)]), (108, [(0, 1), (1, 1), (2, 1)]), (109, [(0, 1), (1, 1), (2, 1)]), (118, [(0, 1)]), (119, [(0, 1)])]
  sl := [(22, (5, 1, 1)), (24, (78, 3, 24)), (25, (84, 1, 24)), (36, (3, 1, 8)), (50, (105, 3, 24)), (51, (119, 1, 24)), (115, (24, 1, 24))]
  ik := [(2, .i64), (3, .i64), (5, .u8), (12, .u64), (21, .i32), (123, .u64), (134, .u32)]
  str := [9]
  bl := [4]
instance : TabC Go.Proofs.Try.prog tab := ⟨{ ag := za ag13 (za ag26 (za ag27 (za ag39 (za ag40 (za ag52 (za ag53 (za ag77 (za ag78 (za ag83 (za ag84 (za f9 (za f8 (za f6 (za f0 (za fz (wh)))))))))))))))), sc := za sc2 (za sc3 (za sc4 (za sc5 (za sc9 (za sc12 (za sc21 (za sc22 (za sc24 (za sc25 (za sc36 (za sc50 (za sc51 (za sc70 (za sc81 (za fW (za fV (za fU (za fT (wh))))))))))))))))))), fd := za jc (za jb (za ja (za jZ (za jY (za jX (za jW (za jV (za jU (za jT (za jS (za jR (za jQ (za jP (za jO (za jN (za jM (za jL (za jK (za jJ (za jI (za jH (za jG (za jF (za jE (za jD (za jC (za jB (za jA (za k9 (za k8 (za k7 (za kz (za ky (za kx (za kw (za kv (za ku (za kt (za kq (za kp (za ko (za kn (za km (za kj (za ki (za kh (za kg (za kf (za ke (za kb (za ka (za kZ (za kY (za kX (za kW (za kV (za kU (za mF (za mE (za mD (za mC (za mB (za mA (za n9 (za n8 (za n7 (za n6 (za nz (wh))))))))))))))))))))))))))))))))))))))))))))))))))))))))))))))))))))), ze := za ze2 (za ze3 (za ze4 (za ze5 (za ze9 (za ze12 (za ze13 (za ze21 (za ze22 (za ze24 (za ze25 (za ze26 (za ze27 (za ze36 (za ze39 (za ze40 (za ze50 (za ze51 (za ze52 (za ze53 (za ze70 (za ze77 (za ze78 (za ze81 (za ze83 (za ze84 (za fP (za fO (za fN (za fM (za fL (za fK (za fJ (za fI (za fH (wh))))))))))))))))))))))))))))))))))), pl := za pl13 (za pl26 (za pl27 (za pl39 (za pl40 (za pl52 (za pl53 (za pl77 (za pl78 (za pl83 (za pl84 (za fb (za fa (za fZ (za fY (za fX (wh)))))))))))))))), sl := za sl22 (za sl24 (za sl25 (za sl36 (za sl50 (za sl51 (za fS (wh))))))), ik := za ik2 (za ik3 (za ik5 (za ik12 (za ik21 (za fp (za fm (wh))))))), str := za str9 (wh), bl := za bl4 (wh) }, by kernel_rfl⟩
instance : Ent Go.Proofs.Try.prog 3 := zr Go.Proofs.Try.func3 rfl (by decide)
instance : Ent Go.Proofs.Try.prog 4 := zr Go.Proofs.Try.func4 rfl (by decide)
instance : Ent Go.Proofs.Try.prog 5 := zr Go.Proofs.Try.func5 rfl (by decide)
instance : Ent Go.Proofs.Try.prog 6 := zr Go.Proofs.Try.func6 rfl (by decide)
instance : Ent Go.Proofs.Try.prog 7 := zr Go.Proofs.Try.func7 rfl (by decide)
instance : Ent Go.Proofs.Try.prog 8 := zr Go.Proofs.Try.func8 rfl (by decide)
instance : Ent Go.Proofs.Try.prog 9 := zr Go.Proofs.Try.func9 rfl (by decide)
instance : Ent Go.Proofs.Try.prog 10 := zr Go.Proofs.Try.func10 rfl (by decide)
instance : Ent Go.Proofs.Try.prog 11 := zr Go.Proofs.Try.func11 rfl (by decide)
instance : Ent Go.Proofs.Try.prog 12 := zr Go.Proofs.Try.func12 rfl (by decide)
instance : Ent Go.Proofs.Try.prog 13 := zr Go.Proofs.Try.func13 rfl (by decide)
instance : Ent Go.Proofs.Try.prog 14 := zr Go.Proofs.Try.func14 rfl (by decide)
instance : Ent Go.Proofs.Try.prog 15 := zr Go.Proofs.Try.func15 rfl (by decide)
instance : Ent Go.Proofs.Try.prog 16 := zr Go.Proofs.Try.func16 rfl (by decide)
instance : Ent Go.Proofs.Try.prog 17 := zr Go.Proofs.Try.func17 rfl (by decide)
instance : Ent Go.Proofs.Try.prog 18 := zr Go.Proofs.Try.func18 rfl (by decide)
instance : Ent Go.Proofs.Try.prog 19 := zr Go.Proofs.Try.func19 rfl (by decide)
instance : Ent Go.Proofs.Try.prog 20 := zr Go.Proofs.Try.func20 rfl (by decide)
instance : Ent Go.Proofs.Try.prog 21 := zr Go.Proofs.Try.func21 rfl (by decide)
instance : Ent Go.Proofs.Try.prog 22 := zr Go.Proofs.Try.func22 rfl (by decide)
instance : Ent Go.Proofs.Try.prog 23 := zr Go.Proofs.Try.func23 rfl (by decide)
instance : Ent Go.Proofs.Try.prog 24 := zr Go.Proofs.Try.func24 rfl (by decide)
instance : Ent Go.Proofs.Try.prog 25 := zr Go.Proofs.Try.func25 rfl (by decide)
instance : Ent Go.Proofs.Try.prog 26 := zr Go.Proofs.Try.func26 rfl (by decide)
instance : Ent Go.Proofs.Try.prog 27 := zr Go.Proofs.Try.func27 rfl (by decide)
instance : Ent Go.Proofs.Try.prog 28 := zr Go.Proofs.Try.func28 rfl (by decide)
instance : Ent Go.Proofs.Try.prog 29 := zr Go.Proofs.Try.func29 rfl (by decide)
instance : Ent Go.Proofs.Try.prog 30 := zr Go.Proofs.Try.func30 rfl (by decide)
instance : Ent Go.Proofs.Try.prog 31 := zr Go.Proofs.Try.func31 rfl (by decide)
instance : Ent Go.Proofs.Try.prog 32 := zr Go.Proofs.Try.func32 rfl (by decide)
instance : Ent Go.Proofs.Try.prog 33 := zr Go.Proofs.Try.func33 rfl (by decide)
instance : Ent Go.Proofs.Try.prog 34 := zr Go.Proofs.Try.func34 rfl (by decide)
instance : Ent Go.Proofs.Try.prog 35 := zr Go.Proofs.Try.func35 rfl (by decide)
instance : Ent Go.Proofs.Try.prog 36 := zr Go.Proofs.Try.func36 rfl (by decide)
instance : Ent Go.Proofs.Try.prog 37 := zr Go.Proofs.Try.func37 rfl (by decide)
instance : Ent Go.Proofs.Try.prog 38 := zr Go.Proofs.Try.func38 rfl (by decide)
instance : Ent Go.Proofs.Try.prog 39 := zr Go.Proofs.Try.func39 rfl (by decide)
instance : Ent Go.Proofs.Try.prog 40 := zr Go.Proofs.Try.func40 rfl (by decide)
instance : Ent Go.Proofs.Try.prog 41 := zr Go.Proofs.Try.func41 rfl (by decide)
instance : Ent Go.Proofs.Try.prog 42 := zr Go.Proofs.Try.func42 rfl (by decide)
instance : Ent Go.Proofs.Try.prog 43 := zr Go.Proofs.Try.func43 rfl (by decide)
instance : Ent Go.Proofs.Try.prog 44 := zr Go.Proofs.Try.func44 rfl (by decide)
instance : Ent Go.Proofs.Try.prog 45 := zr Go.Proofs.Try.func45 rfl (by decide)
instance : Ent Go.Proofs.Try.prog 46 := zr Go.Proofs.Try.func46 rfl (by decide)
instance : Ent Go.Proofs.Try.prog 47 := zr Go.Proofs.Try.func47 rfl (by decide)
instance : Ent Go.Proofs.Try.prog 48 := zr Go.Proofs.Try.func48 rfl (by decide)
instance : Ent Go.Proofs.Try.prog 49 := zr Go.Proofs.Try.func49 rfl (by decide)
instance : Ent Go.Proofs.Try.prog 50 := zr Go.Proofs.Try.func50 rfl (by decide)
instance : Ent Go.Proofs.Try.prog 51 := zr Go.Proofs.Try.func51 rfl (by decide)
instance : Ent Go.Proofs.Try.prog 52 := zr Go.Proofs.Try.func52 rfl (by decide)
instance : Ent Go.Proofs.Try.prog 53 := zr Go.Proofs.Try.func53 rfl (by decide)
instance : Ent Go.Proofs.Try.prog 54 := zr Go.Proofs.Try.func54 rfl (by decide)
instance : Ent Go.Proofs.Try.prog 55 := zr Go.Proofs.Try.func55 rfl (by decide)
instance : Ent Go.Proofs.Try.prog 56 := zr Go.Proofs.Try.func56 rfl (by decide)
instance : Ent Go.Proofs.Try.prog 57 := zr Go.Proofs.Try.func57 rfl (by decide)
instance : Ent Go.Proofs.Try.prog 58 := zr Go.Proofs.Try.func58 rfl (by decide)
instance : Ent Go.Proofs.Try.prog 59 := zr Go.Proofs.Try.func59 rfl (by decide)
instance : Ent Go.Proofs.Try.prog 60 := zr Go.Proofs.Try.func60 rfl (by decide)
instance : Ent Go.Proofs.Try.prog 61 := zr Go.Proofs.Try.func61 rfl (by decide)
instance : Ent Go.Proofs.Try.prog 62 := zr Go.Proofs.Try.func62 rfl (by decide)
instance : Ent Go.Proofs.Try.prog 63 := zr Go.Proofs.Try.func63 rfl (by decide)
instance : Ent Go.Proofs.Try.prog 64 := zr Go.Proofs.Try.func64 rfl (by decide)
instance : Ent Go.Proofs.Try.prog 65 := zr Go.Proofs.Try.func65 rfl (by decide)
instance : Ent Go.Proofs.Try.prog 66 := zr Go.Proofs.Try.func66 rfl (by decide)
instance : Ent Go.Proofs.Try.prog 67 := zr Go.Proofs.Try.func67 rfl (by decide)
instance : Ent Go.Proofs.Try.prog 68 := zr Go.Proofs.Try.func68 rfl (by decide)
instance : Ent Go.Proofs.Try.prog 69 := zr Go.Proofs.Try.func69 rfl (by decide)
instance : Ent Go.Proofs.Try.prog 70 := zr Go.Proofs.Try.func70 rfl (by decide)
instance : Ent Go.Proofs.Try.prog 71 := zr Go.Proofs.Try.func71 rfl (by decide)
instance : Ent Go.Proofs.Try.prog 72 := zr Go.Proofs.Try.func72 rfl (by decide)
instance : Ent Go.Proofs.Try.prog 73 := zr Go.Proofs.Try.func73 rfl (by decide)
instance : Ent Go.Proofs.Try.prog 74 := zr Go.Proofs.Try.func74 rfl (by decide)
instance : Ent Go.Proofs.Try.prog 75 := zr Go.Proofs.Try.func75 rfl (by decide)
instance : Ent Go.Proofs.Try.prog 76 := zr Go.Proofs.Try.func76 rfl (by decide)
instance : Ent Go.Proofs.Try.prog 77 := zr Go.Proofs.Try.func77 rfl (by decide)
instance : Ent Go.Proofs.Try.prog 78 := zr Go.Proofs.Try.func78 rfl (by decide)
instance : Ent Go.Proofs.Try.prog 79 := zr Go.Proofs.Try.func79 rfl (by decide)
instance : Ent Go.Proofs.Try.prog 80 := zr Go.Proofs.Try.func80 rfl (by decide)
instance : Ent Go.Proofs.Try.prog 81 := zr Go.Proofs.Try.func81 rfl (by decide)
instance : Ent Go.Proofs.Try.prog 82 := zr Go.Proofs.Try.func82 rfl (by decide)
instance : Ent Go.Proofs.Try.prog 83 := zr Go.Proofs.Try.func83 rfl (by decide)
instance : Ent Go.Proofs.Try.prog 84 := zr Go.Proofs.Try.func84 rfl (by decide)
instance : Ent Go.Proofs.Try.prog 85 := zr Go.Proofs.Try.func85 rfl (by decide)
instance : Ent Go.Proofs.Try.prog 86 := zr Go.Proofs.Try.func86 rfl (by decide)
instance : Ent Go.Proofs.Try.prog 87 := zr Go.Proofs.Try.func87 rfl (by decide)
instance : Ent Go.Proofs.Try.prog 88 := zr Go.Proofs.Try.func88 rfl (by decide)
instance : Ent Go.Proofs.Try.prog 89 := zr Go.Proofs.Try.func89 rfl (by decide)
instance : Ent Go.Proofs.Try.prog 90 := zr Go.Proofs.Try.func90 rfl (by decide)
instance : Ent Go.Proofs.Try.prog 91 := zr Go.Proofs.Try.func91 rfl (by decide)
instance : Ent Go.Proofs.Try.prog 92 := zr Go.Proofs.Try.func92 rfl (by decide)
instance : Ent Go.Proofs.Try.prog 93 := zr Go.Proofs.Try.func93 rfl (by decide)
instance : Ent Go.Proofs.Try.prog 94 := zr Go.Proofs.Try.func94 rfl (by decide)
instance : Ent Go.Proofs.Try.prog 95 := zr Go.Proofs.Try.func95 rfl (by decide)
instance : Ent Go.Proofs.Try.prog 96 := zr Go.Proofs.Try.func96 rfl (by decide)
instance : Ent Go.Proofs.Try.prog 97 := zr Go.Proofs.Try.func97 rfl (by decide)
instance : Ent Go.Proofs.Try.prog 98 := zr Go.Proofs.Try.func98 rfl (by decide)
instance : Ent Go.Proofs.Try.prog 99 := zr Go.Proofs.Try.func99 rfl (by decide)
instance : Ent Go.Proofs.Try.prog 100 := zr Go.Proofs.Try.func100 rfl (by decide)
instance : Ent Go.Proofs.Try.prog 101 := zr Go.Proofs.Try.func101 rfl (by decide)
instance : Ent Go.Proofs.Try.prog 102 := zr Go.Proofs.Try.func102 rfl (by decide)
instance : Ent Go.Proofs.Try.prog 103 := zr Go.Proofs.Try.func103 rfl (by decide)
instance : Ent Go.Proofs.Try.prog 104 := zr Go.Proofs.Try.func104 rfl (by decide)
instance : Ent Go.Proofs.Try.prog 105 := zr Go.Proofs.Try.func105 rfl (by decide)
instance : Ent Go.Proofs.Try.prog 106 := zr Go.Proofs.Try.func106 rfl (by decide)
instance : Ent Go.Proofs.Try.prog 107 := zr Go.Proofs.Try.func107 rfl (by decide)
instance : Ent Go.Proofs.Try.prog 108 := zr Go.Proofs.Try.func108 rfl (by decide)
instance : Ent Go.Proofs.Try.prog 109 := zr Go.Proofs.Try.func109 rfl (by decide)
instance : Ent Go.Proofs.Try.prog 110 := zr Go.Proofs.Try.func110 rfl (by decide)
instance : Ent Go.Proofs.Try.prog 111 := zr Go.Proofs.Try.func111 rfl (by decide)
instance : Ent Go.Proofs.Try.prog 112 := zr Go.Proofs.Try.func112 rfl (by decide)
instance : Ent Go.Proofs.Try.prog 113 := zr Go.Proofs.Try.func113 rfl (by decide)
instance : Ent Go.Proofs.Try.prog 114 := zr Go.Proofs.Try.func114 rfl (by decide)
instance : Ent Go.Proofs.Try.prog 115 := zr Go.Proofs.Try.func115 rfl (by decide)
instance : Ent Go.Proofs.Try.prog 116 := zr Go.Proofs.Try.func116 rfl (by decide)
instance : Ent Go.Proofs.Try.prog 117 := zr Go.Proofs.Try.func117 rfl (by decide)
instance : Ent Go.Proofs.Try.prog 118 := zr Go.Proofs.Try.func118 rfl (by decide)
instance : Ent Go.Proofs.Try.prog 119 := zr Go.Proofs.Try.func119 rfl (by decide)
instance : Ent Go.Proofs.Try.prog 120 := zr Go.Proofs.Try.func120 rfl (by decide)
instance : Ent Go.Proofs.Try.prog 121 := zr Go.Proofs.Try.func121 rfl (by decide)
instance : Ent Go.Proofs.Try.prog 122 := zr Go.Proofs.Try.func122 rfl (by decide)
instance : Ent Go.Proofs.Try.prog 123 := zr Go.Proofs.Try.func123 rfl (by decide)
instance : Ent Go.Proofs.Try.prog 124 := zr Go.Proofs.Try.func124 rfl (by decide)
instance : Ent Go.Proofs.Try.prog 125 := zr Go.Proofs.Try.func125 rfl (by decide)
instance : Ent Go.Proofs.Try.prog 126 := zr Go.Proofs.Try.func126 rfl (by decide)
instance : Ent Go.Proofs.Try.prog 127 := zr Go.Proofs.Try.func127 rfl (by decide)
instance : Ent Go.Proofs.Try.prog 128 := zr Go.Proofs.Try.func128 rfl (by decide)
instance : Ent Go.Proofs.Try.prog 129 := zr Go.Proofs.Try.func129 rfl (by decide)
instance : Ent Go.Proofs.Try.prog 130 := zr Go.Proofs.Try.func130 rfl (by decide)
instance : Ent Go.Proofs.Try.prog 131 := zr Go.Proofs.Try.func131 rfl (by decide)
instance : Ent Go.Proofs.Try.prog 132 := zr Go.Proofs.Try.func132 rfl (by decide)
instance : Ent Go.Proofs.Try.prog 133 := zr Go.Proofs.Try.func133 rfl (by decide)
end Go.Proofs.Ytojcojanokhnaaa.Ab
namespace Go.Proofs.Ytojcojanokhnaaa.Ab
open Go.RowKit
def u8T : Ty Int := ⟨1, fun n => [.k (.int .u8 n)], fun _ => rfl, by decide, fun r c hc => by
  simp only [List.mem_cons, List.not_mem_nil, or_false] at hc
  subst hc
  exact ⟨rfl, rfl⟩⟩
structure Cur where
  code : List Int
  pos : Nat
  seed : Int
abbrev xT (c : Cur) : Reg := ⟨109, 3, [xp u8T c.code, I c.pos, I c.seed], 0⟩
def pB (s : Int) : Int := IntKind.i64.wrap (IntKind.i64.wrap (s * 6364136223846793005) + 1442695040888963407)
def gO (s : Int) : Int := sh .i64 (dC .i64 (vU .i64 (pB s) 33) (vU .i64 (pB s) 45)) 255
def vL (c : Cur) : Int := match c.code[c.pos]? with
  | some b => sh .i64 (IntKind.i64.wrap (gO c.seed + IntKind.i64.wrap b)) 255
  | none => gO c.seed
def xA (c : Cur) : Cur := ⟨c.code, match c.code[c.pos]? with | some _ => c.pos + 1 | none => c.pos, pB c.seed⟩
theorem wV (c : Cur) : 0 ≤ vL c ∧ vL c ≤ 255 := by
  unfold vL
  split
  · exact pm _
  · exact pm _
theorem tL (c : Cur) (hl : c.code.length ≤ 1000000000) : zy Go.Proofs.Try.prog 124 [.ptr 0 0] [xT c] (I (vL c)) [xT (xA c)] true := by
  refine zw [2] Go.Proofs.Try.func124 rfl rfl ?_
  simp only [Go.Proofs.Try.ntmps124, List.length_cons, List.length_nil, Nat.reduceAdd, Nat.reduceSub, List.replicate_succ, List.replicate_zero, List.cons_append, List.nil_append]
  repeat' first | refine zK ?_ | refine zA ?_ | refine zL [] ?_ | (refine isA ?_; refine zf rfl ?_) | (refine isL ?_; refine zU rfl (by kernel_rfl) rfl rfl ?_) | (refine zb rfl ?_; refine zT rfl (by kernel_rfl) rfl rfl ?_) | (refine isL ?_; refine zX rfl (by kernel_rfl) rfl (xc (n := 33) rfl rfl rfl) rfl ?_) | (refine isL ?_; refine zX rfl (by kernel_rfl) rfl (xc (n := 45) rfl rfl rfl) rfl ?_) | (refine isL ?_; refine zX rfl (by kernel_rfl) rfl (lL rfl rfl rfl) rfl ?_) | (refine isL ?_; refine zX rfl (by kernel_rfl) rfl (tv rfl rfl rfl) rfl ?_) | refine zD ?_ | refine zB _ rfl (by kernel_rfl) ?_ | refine zV rfl ?_ | refine zW rfl ?_ | refine zC ?_ | with_reducible refine zO ?_ | refine zH ?_ | refine zI ?_ | (with_reducible first | refine zM ?_ | refine zN ?_ | refine zE ?_ | refine zG ?_ | refine zF ?_) | refine zP ?_
  refine zd rfl (fun h => ?_) (fun h => ?_)
  · have hlt : c.pos < c.code.length := by have := of_decide_eq_true h; omega
    obtain ⟨z, hz⟩ : ∃ z, c.code[c.pos]? = some z := ⟨_, List.getElem?_eq_getElem hlt⟩
    have e1 : vL c = sh .i64 (IntKind.i64.wrap (gO c.seed + IntKind.i64.wrap z)) 255 := by rw [vL, hz]
    have e2 : xA c = ⟨c.code, c.pos + 1, pB c.seed⟩ := by rw [xA, hz]
    repeat' first | refine zK ?_ | refine zA ?_ | refine zL [] ?_ | (refine isA ?_; refine zf rfl ?_) | (refine isL ?_; refine zU rfl (by kernel_rfl) rfl rfl ?_) | (refine zb rfl ?_; refine zT rfl (by kernel_rfl) rfl rfl ?_) | (refine yG ?_; refine zc rfl (z5 (t := u8T) (z := z) rfl rfl rfl rfl (Int.natCast_nonneg c.pos) hz) rfl ?_) | (refine yF rfl ?_; refine zX rfl (by kernel_rfl) rfl (z5 (t := u8T) (z := z) rfl rfl rfl rfl (Int.natCast_nonneg c.pos) hz) rfl ?_) | (refine isL ?_; refine zX rfl (by kernel_rfl) rfl (tv rfl rfl rfl) rfl ?_) | exact (by rw [e1, e2]; exact tH 1 [0] yZ (by decide) rfl (le_refl rfl) (.cons rfl rfl rfl rfl (zZ (le_refl rfl) (zZ (xI hlt (by omega)) (zZ (le_refl rfl) zg))) .nil)) | refine zD ?_ | refine zB _ rfl (by kernel_rfl) ?_ | refine zV rfl ?_ | refine zW rfl ?_ | refine zC ?_ | with_reducible refine zO ?_ | refine zH ?_ | refine zI ?_ | (with_reducible first | refine zM ?_ | refine zN ?_ | refine zE ?_ | refine zG ?_ | refine zF ?_) | refine zP ?_
  · have hge : c.code.length ≤ c.pos := by have := of_decide_eq_false h; omega
    have hz : c.code[c.pos]? = none := List.getElem?_eq_none hge
    have e1 : vL c = gO c.seed := by rw [vL, hz]
    have e2 : xA c = ⟨c.code, c.pos, pB c.seed⟩ := by rw [xA, hz]
    repeat' first | refine zK ?_ | refine zA ?_ | refine zL [] ?_ | (refine isA ?_; refine zf rfl ?_) | (refine isL ?_; refine zU rfl (by kernel_rfl) rfl rfl ?_) | (refine zb rfl ?_; refine zT rfl (by kernel_rfl) rfl rfl ?_) | exact (by rw [e1, e2]; exact tH 1 [0] yZ (by decide) rfl (le_refl rfl) (.cons rfl rfl rfl rfl (by repeat' first | exact zg | refine zZ ?_ ?_ | exact zo | exact le_refl rfl | exact zj rfl rfl | exact zt rfl) .nil)) | refine zD ?_ | refine zB _ rfl (by kernel_rfl) ?_ | refine zV rfl ?_ | refine zW rfl ?_ | refine zC ?_ | with_reducible refine zO ?_ | refine zH ?_ | refine zI ?_ | (with_reducible first | refine zM ?_ | refine zN ?_ | refine zE ?_ | refine zG ?_ | refine zF ?_) | refine zP ?_
end Go.Proofs.Ytojcojanokhnaaa.Ab
namespace Go.Proofs.Ytojcojanokhnaaa.Ab
open Go.RowKit
theorem zk (c : Cur) : NoH (xT c).cells := sG rfl
def eM (a b c d : Int) : Int := IntKind.i64.wrap (IntKind.i64.wrap (IntKind.i64.wrap (IntKind.i64.wrap (a * 16777216) + IntKind.i64.wrap (b * 65536)) + IntKind.i64.wrap (c * 256)) + d)
theorem kP {a b c d : Int} (ha : 0 ≤ a ∧ a ≤ 255) (hb : 0 ≤ b ∧ b ≤ 255) (hc : 0 ≤ c ∧ c ≤ 255) (hd : 0 ≤ d ∧ d ≤ 255) : 0 ≤ eM a b c d := by
  have e1 : IntKind.i64.wrap (a * 16777216) = a * 16777216 := by rw [IntKind.wrap_i64]; omega
  have e2 : IntKind.i64.wrap (b * 65536) = b * 65536 := by rw [IntKind.wrap_i64]; omega
  have e3 : IntKind.i64.wrap (c * 256) = c * 256 := by rw [IntKind.wrap_i64]; omega
  have e4 : IntKind.i64.wrap (a * 16777216 + b * 65536) = a * 16777216 + b * 65536 := by rw [IntKind.wrap_i64]; omega
  have e5 : IntKind.i64.wrap (a * 16777216 + b * 65536 + c * 256) = a * 16777216 + b * 65536 + c * 256 := by rw [IntKind.wrap_i64]; omega
  have e6 : IntKind.i64.wrap (a * 16777216 + b * 65536 + c * 256 + d) = a * 16777216 + b * 65536 + c * 256 + d := by rw [IntKind.wrap_i64]; omega
  rw [eM, e1, e2, e4, e3, e5, e6]
  omega
def beV (n : Int) (c : Cur) : Int := cond (decide (n ≤ 0)) 0 (cond (decide (n ≤ 256)) ((vL c).tmod n) ((eM (vL c) (vL (xA c)) (vL (xA (xA c))) (vL (xA (xA (xA c))))).tmod n))
def beC (n : Int) (c : Cur) : Cur := cond (decide (n ≤ 0)) c (cond (decide (n ≤ 256)) (xA c) (xA (xA (xA (xA c)))))
theorem y5 (n : Int) (c : Cur) : (beC n c).code = c.code := by
  unfold beC
  cases decide (n ≤ 0) <;> cases decide (n ≤ 256) <;> rfl
theorem wl {n : Int} (h : 0 < n) (c : Cur) : 0 ≤ beV n c ∧ beV n c < n := by
  have h0 : decide (n ≤ 0) = false := decide_eq_false (by omega)
  unfold beV
  rw [h0, cond_false]
  cases decide (n ≤ 256) with
  | true => exact ⟨Int.tmod_nonneg _ (wV c).1, Int.tmod_lt_of_pos _ h⟩
  | false => exact ⟨Int.tmod_nonneg _ (kP (wV _) (wV _) (wV _) (wV _)), Int.tmod_lt_of_pos _ h⟩
theorem xK (n : Int) (c : Cur) (hl : c.code.length ≤ 1000000000) : zy Go.Proofs.Try.prog 100 [.ptr 0 0, I n] [xT c] (I (beV n c)) [xT (beC n c)] true := by
  refine zw [4] Go.Proofs.Try.func100 rfl rfl ?_
  simp only [Go.Proofs.Try.ntmps100, List.length_cons, List.length_nil, Nat.reduceAdd, Nat.reduceSub, List.replicate_succ, List.replicate_zero, List.cons_append, List.nil_append]
  repeat' first | refine zK ?_ | refine zA ?_ | refine zL [] ?_ | (refine isA ?_; refine zf rfl ?_) | (refine isL ?_; refine zU rfl (by kernel_rfl) rfl rfl ?_) | (refine zb rfl ?_; refine zT rfl (by kernel_rfl) rfl rfl ?_) | refine zD ?_ | refine zB _ rfl (by kernel_rfl) ?_ | refine zV rfl ?_ | refine zW rfl ?_ | refine zC ?_ | with_reducible refine zO ?_ | refine zH ?_ | refine zI ?_ | (with_reducible first | refine zM ?_ | refine zN ?_ | refine zE ?_ | refine zG ?_ | refine zF ?_) | refine zP ?_
  refine zd rfl (fun h => ?_) (fun h => ?_)
  · repeat' first | refine zK ?_ | refine zA ?_ | refine zL [] ?_ | (refine isA ?_; refine zf rfl ?_) | (refine isL ?_; refine zU rfl (by kernel_rfl) rfl rfl ?_) | (refine zb rfl ?_; refine zT rfl (by kernel_rfl) rfl rfl ?_) | exact (by rw [beV, beC, h]; exact tH 1 [0] yZ (by decide) rfl (le_refl rfl) (.cons rfl rfl rfl rfl (zY (zk c)) .nil)) | refine zD ?_ | refine zB _ rfl (by kernel_rfl) ?_ | refine zV rfl ?_ | refine zW rfl ?_ | refine zC ?_ | with_reducible refine zO ?_ | refine zH ?_ | refine zI ?_ | (with_reducible first | refine zM ?_ | refine zN ?_ | refine zE ?_ | refine zG ?_ | refine zF ?_) | refine zP ?_
  · have hn : n ≠ 0 := by have := of_decide_eq_false h; omega
    repeat' first | refine zK ?_ | refine zA ?_ | refine zL [] ?_ | (refine isA ?_; refine zf rfl ?_) | (refine isL ?_; refine zU rfl (by kernel_rfl) rfl rfl ?_) | (refine zb rfl ?_; refine zT rfl (by kernel_rfl) rfl rfl ?_) | refine zD ?_ | refine zB _ rfl (by kernel_rfl) ?_ | refine zV rfl ?_ | refine zW rfl ?_ | refine zC ?_ | with_reducible refine zO ?_ | refine zH ?_ | refine zI ?_ | (with_reducible first | refine zM ?_ | refine zN ?_ | refine zE ?_ | refine zG ?_ | refine zF ?_) | refine zP ?_
    refine zd rfl (fun h' => ?_) (fun h' => ?_)
    · repeat' first | refine zK ?_ | refine zA ?_ | refine zL [] ?_ | (refine isA ?_; refine zf rfl ?_) | (refine isL ?_; refine zU rfl (by kernel_rfl) rfl rfl ?_) | (refine zb rfl ?_; refine zT rfl (by kernel_rfl) rfl rfl ?_) | (refine zu 124 ?_; refine zc rfl (zn (K := []) (Rs' := [_]) [0] (by decide) rfl (tL c hl) (.cons rfl rfl rfl (zk _) (zk _) .nil) (.cons (.ptr rfl) .nil) (fun q hq => by cases hq) rfl) rfl ?_) | (refine zv 124 rfl ?_; refine zX rfl (by kernel_rfl) rfl (zn (K := []) (Rs' := [_]) [0] (by decide) rfl (tL c hl) (.cons rfl rfl rfl (zk _) (zk _) .nil) (.cons (.ptr rfl) .nil) (fun q hq => by cases hq) rfl) rfl ?_) | (refine isA ?_; refine zc rfl (tq rfl rfl rfl hn) rfl ?_) | exact (by rw [beV, beC, h, h']; exact tH 1 [0] yZ (by decide) rfl (le_refl rfl) (.cons rfl rfl rfl rfl (zY (zk (xA c))) .nil)) | refine zD ?_ | refine zB _ rfl (by kernel_rfl) ?_ | refine zV rfl ?_ | refine zW rfl ?_ | refine zC ?_ | with_reducible refine zO ?_ | refine zH ?_ | refine zI ?_ | (with_reducible first | refine zM ?_ | refine zN ?_ | refine zE ?_ | refine zG ?_ | refine zF ?_) | refine zP ?_
    · repeat' first | refine zK ?_ | refine zA ?_ | refine zL [] ?_ | (refine isA ?_; refine zf rfl ?_) | (refine isL ?_; refine zU rfl (by kernel_rfl) rfl rfl ?_) | (refine zb rfl ?_; refine zT rfl (by kernel_rfl) rfl rfl ?_) | (refine zu 124 (x := #[.tmp 17]) ?_; refine zc rfl (zn (K := []) (Rs' := [_]) [0] (by decide) rfl (tL c hl) (.cons rfl rfl rfl (zk _) (zk _) .nil) (.cons (.ptr rfl) .nil) (fun q hq => by cases hq) rfl) rfl ?_) | (refine zu 124 (x := #[.tmp 19]) ?_; refine zc rfl (zn (K := []) (Rs' := [_]) [0] (by decide) rfl (tL (xA c) hl) (.cons rfl rfl rfl (zk _) (zk _) .nil) (.cons (.ptr rfl) .nil) (fun q hq => by cases hq) rfl) rfl ?_) | (refine zu 124 (x := #[.tmp 21]) ?_; refine zc rfl (zn (K := []) (Rs' := [_]) [0] (by decide) rfl (tL (xA (xA c)) hl) (.cons rfl rfl rfl (zk _) (zk _) .nil) (.cons (.ptr rfl) .nil) (fun q hq => by cases hq) rfl) rfl ?_) | (refine zu 124 (x := #[.tmp 23]) ?_; refine zc rfl (zn (K := []) (Rs' := [_]) [0] (by decide) rfl (tL (xA (xA (xA c))) hl) (.cons rfl rfl rfl (zk _) (zk _) .nil) (.cons (.ptr rfl) .nil) (fun q hq => by cases hq) rfl) rfl ?_) | (refine isA ?_; refine zc rfl (tq rfl rfl rfl hn) rfl ?_) | exact (by rw [beV, beC, h, h']; exact tH 1 [0] yZ (by decide) rfl (le_refl rfl) (.cons rfl rfl rfl rfl (zY (zk (xA (xA (xA (xA c)))))) .nil)) | refine zD ?_ | refine zB _ rfl (by kernel_rfl) ?_ | refine zV rfl ?_ | refine zW rfl ?_ | refine zC ?_ | with_reducible refine zO ?_ | refine zH ?_ | refine zI ?_ | (with_reducible first | refine zM ?_ | refine zN ?_ | refine zE ?_ | refine zG ?_ | refine zF ?_) | refine zP ?_
theorem jr (n : Int) (c : Cur) (hl : c.code.length ≤ 1000000000) : zy Go.Proofs.Try.prog 113 [.ptr 0 0, I n] [xT c] (B (decide (beV n c = 0))) [xT (beC n c)] true := by
  refine zw [4] Go.Proofs.Try.func113 rfl rfl ?_
  simp only [Go.Proofs.Try.ntmps113, List.length_cons, List.length_nil, Nat.reduceAdd, Nat.reduceSub, List.replicate_succ, List.replicate_zero, List.cons_append, List.nil_append]
  repeat' first | refine zK ?_ | refine zA ?_ | refine zL [] ?_ | (refine isA ?_; refine zf rfl ?_) | (refine isL ?_; refine zU rfl (by kernel_rfl) rfl rfl ?_) | (refine zb rfl ?_; refine zT rfl (by kernel_rfl) rfl rfl ?_) | (refine zu 100 ?_; refine zc rfl (zn (K := []) (Rs' := [_]) [0] (by decide) rfl (xK n c hl) (.cons rfl rfl rfl (zk _) (zk _) .nil) (.cons (.ptr rfl) (.cons (.same rfl) .nil)) (fun q hq => by cases hq) rfl) rfl ?_) | (refine zv 100 rfl ?_; refine zX rfl (by kernel_rfl) rfl (zn (K := []) (Rs' := [_]) [0] (by decide) rfl (xK n c hl) (.cons rfl rfl rfl (zk _) (zk _) .nil) (.cons (.ptr rfl) (.cons (.same rfl) .nil)) (fun q hq => by cases hq) rfl) rfl ?_) | exact tH 1 [0] yZ (by decide) rfl (le_refl rfl) (.cons rfl rfl rfl rfl (zY (zk _)) .nil) | refine zD ?_ | refine zB _ rfl (by kernel_rfl) ?_ | refine zV rfl ?_ | refine zW rfl ?_ | refine zC ?_ | with_reducible refine zO ?_ | refine zH ?_ | refine zI ?_ | (with_reducible first | refine zM ?_ | refine zN ?_ | refine zE ?_ | refine zG ?_ | refine zF ?_) | refine zP ?_
theorem ld_at {P : Program} {o : Oper} {ρ : Operand → V} {H : List Reg} {t i : Nat} {x : Operand} {cs : List V} {v : V} [ht : Sc P t] (ho : o.op = .load t x) (hx : ρ x = .pref (cs.drop i)) (hz : cs[i]? = some v) : z7 P o ρ H v H := by
  have hlt := (List.getElem?_eq_some_iff.1 hz).1
  rw [List.drop_eq_getElem_cons hlt] at hx
  have hv : cs[i] = v := by rw [List.getElem?_eq_getElem hlt] at hz; exact Option.some.inj hz
  rw [hv] at hx
  exact vf ho hx
theorem er (xs : List V) (n : Nat) (z : Int) (c : Cur) (hl : c.code.length ≤ 1000000000) (h0 : 0 < n) (hz : xs[(beV n c).toNat]? = some (I z)) : zy Go.Proofs.Try.prog 111 [.ptr 0 0, .lst n xs] [xT c] (I z) [xT (beC n c)] true := by
  obtain ⟨r0, r1⟩ := wl (n := n) (by omega) c
  refine zw [4] Go.Proofs.Try.func111 rfl rfl ?_
  simp only [Go.Proofs.Try.ntmps111, List.length_cons, List.length_nil, Nat.reduceAdd, Nat.reduceSub, List.replicate_succ, List.replicate_zero, List.cons_append, List.nil_append]
  repeat' first | refine zK ?_ | refine zA ?_ | refine zL [] ?_ | (refine isA ?_; refine zf rfl ?_) | (refine isL ?_; refine zU rfl (by kernel_rfl) rfl rfl ?_) | (refine zb rfl ?_; refine zT rfl (by kernel_rfl) rfl rfl ?_) | (refine zu 100 ?_; refine zc rfl (zn (K := []) (Rs' := [_]) [0] (by decide) rfl (xK n c hl) (.cons rfl rfl rfl (zk _) (zk _) .nil) (.cons (.ptr rfl) (.cons (.same rfl) .nil)) (fun q hq => by cases hq) rfl) rfl ?_) | (refine zv 100 rfl ?_; refine zX rfl (by kernel_rfl) rfl (zn (K := []) (Rs' := [_]) [0] (by decide) rfl (xK n c hl) (.cons rfl rfl rfl (zk _) (zk _) .nil) (.cons (.ptr rfl) (.cons (.same rfl) .nil)) (fun q hq => by cases hq) rfl) rfl ?_) | (refine yG ?_; refine zc rfl (vg rfl rfl rfl r0 r1) rfl ?_) | (refine yF rfl ?_; refine zX rfl (by kernel_rfl) rfl (vg rfl rfl rfl r0 r1) rfl ?_) | (refine wT ?_; refine zc rfl (ld_at rfl rfl (by rw [Nat.mul_one]; exact hz)) rfl ?_) | exact tH 1 [0] yZ (by decide) rfl (le_refl rfl) (.cons rfl rfl rfl rfl (zY (zk _)) .nil) | refine zD ?_ | refine zB _ rfl (by kernel_rfl) ?_ | refine zV rfl ?_ | refine zW rfl ?_ | refine zC ?_ | with_reducible refine zO ?_ | refine zH ?_ | refine zI ?_ | (with_reducible first | refine zM ?_ | refine zN ?_ | refine zE ?_ | refine zG ?_ | refine zF ?_) | refine zP ?_
def pG (xs : List Int) : Nat → Int
  | 0 => IntKind.i64.wrap (10101 + xs.length)
  | i + 1 => match xs[i]? with
    | some b => sh .i64 (IntKind.i64.wrap (IntKind.i64.wrap (IntKind.i64.wrap (pG xs i * 131) + IntKind.i64.wrap b) + 7)) 1073741823
    | none => pG xs i
def ta (xs : List Int) : Cur := ⟨xs, 0, pG xs (min xs.length 4000)⟩
theorem fw (xs : List Int) (hl : xs.length ≤ 1000000000) : zy Go.Proofs.Try.prog 53 [xp u8T xs] [] (.ptr 0 0) [xT (ta xs)] true := by
  refine zw [2] Go.Proofs.Try.func53 rfl rfl ?_
  simp only [Go.Proofs.Try.ntmps53, List.length_cons, List.length_nil, Nat.reduceAdd, Nat.reduceSub, List.replicate_succ, List.replicate_zero, List.cons_append, List.nil_append]
  repeat' first | refine zK ?_ | refine zA ?_ | refine zL [] ?_ | (refine isA ?_; refine zf rfl ?_) | (refine isL ?_; refine zU rfl (by kernel_rfl) rfl rfl ?_) | (refine zb rfl ?_; refine zT rfl (by kernel_rfl) rfl rfl ?_) | refine zD ?_ | refine zB _ rfl (by kernel_rfl) ?_ | refine zV rfl ?_ | refine zW rfl ?_ | refine zC ?_ | with_reducible refine zO ?_ | refine zH ?_ | refine zI ?_ | (with_reducible first | refine zM ?_ | refine zN ?_ | refine zE ?_ | refine zG ?_ | refine zF ?_) | refine zP ?_
  refine z9 (α := { i : Nat // i ≤ min xs.length 4000 }) (fun i => ⟨[xp u8T xs, .any, .any, I (pG xs i.1), I i.1, .any, .any, .any, .any, .any, .any, .any, .any, .any, .any, .any, .any, .any, .any, .any, .any, .any, .any, .any, .any, .any, .any, .any, .any, .any, .any, .any], [], 0⟩) (fun i => xs.length - i.1) ⟨0, Nat.zero_le _⟩ ?_ ?_
  · exact yb [] rfl rfl (by decide) .nil (by repeat' first | exact zg | refine zZ ?_ ?_ | exact zo | exact le_refl rfl | exact zj rfl rfl | exact zt rfl)
  · rintro ⟨i, hi⟩
    have hdone : i = min xs.length 4000 → ta xs = ⟨xs, 0, pG xs i⟩ := fun e => by rw [ta, e]
    repeat' first | refine zK ?_ | refine zA ?_ | refine zL [] ?_ | (refine isA ?_; refine zf rfl ?_) | (refine isL ?_; refine zU rfl (by kernel_rfl) rfl rfl ?_) | (refine zb rfl ?_; refine zT rfl (by kernel_rfl) rfl rfl ?_) | refine zD ?_ | refine zB _ rfl (by kernel_rfl) ?_ | refine zV rfl ?_ | refine zW rfl ?_ | refine zC ?_ | with_reducible refine zO ?_ | refine zH ?_ | refine zI ?_ | (with_reducible first | refine zM ?_ | refine zN ?_ | refine zE ?_ | refine zG ?_ | refine zF ?_) | refine zP ?_
    refine yW rfl rfl (fun h => ?_) (fun h => ?_)
    · have hlt : i < xs.length := by simpa using h
      obtain ⟨z, hz⟩ : ∃ z, xs[i]? = some z := ⟨_, List.getElem?_eq_getElem hlt⟩
      have es : pG xs (i + 1) = sh .i64 (IntKind.i64.wrap (IntKind.i64.wrap (IntKind.i64.wrap (pG xs i * 131) + IntKind.i64.wrap z) + 7)) 1073741823 := by rw [pG, hz]
      repeat' first | refine zK ?_ | refine zA ?_ | refine zL [] ?_ | (refine isA ?_; refine zf rfl ?_) | (refine isL ?_; refine zU rfl (by kernel_rfl) rfl rfl ?_) | (refine zb rfl ?_; refine zT rfl (by kernel_rfl) rfl rfl ?_) | refine zD ?_ | refine zB _ rfl (by kernel_rfl) ?_ | refine zV rfl ?_ | refine zW rfl ?_ | refine zC ?_ | with_reducible refine zO ?_ | refine zH ?_ | refine zI ?_ | (with_reducible first | refine zM ?_ | refine zN ?_ | refine zE ?_ | refine zG ?_ | refine zF ?_) | refine zP ?_
      refine zd rfl (fun h' => ?_) (fun h' => ?_)
      · have h4 : i < 4000 := by have := of_decide_eq_true h'; simp only at this; omega
        repeat' first | refine zK ?_ | refine zA ?_ | refine zL [] ?_ | (refine isA ?_; refine zf rfl ?_) | (refine isL ?_; refine zU rfl (by kernel_rfl) rfl rfl ?_) | (refine zb rfl ?_; refine zT rfl (by kernel_rfl) rfl rfl ?_) | (refine yG ?_; refine zc rfl (z5 (t := u8T) (z := z) rfl rfl rfl rfl (Int.natCast_nonneg i) hz) rfl ?_) | (refine yF rfl ?_; refine zX rfl (by kernel_rfl) rfl (z5 (t := u8T) (z := z) rfl rfl rfl rfl (Int.natCast_nonneg i) hz) rfl ?_) | (refine isA ?_; refine zc rfl (tv rfl rfl rfl) rfl ?_) | refine zD ?_ | refine zB _ rfl (by kernel_rfl) ?_ | refine zV rfl ?_ | refine zW rfl ?_ | refine zC ?_ | with_reducible refine zO ?_ | refine zH ?_ | refine zI ?_ | (with_reducible first | refine zM ?_ | refine zN ?_ | refine zE ?_ | refine zG ?_ | refine zF ?_) | refine zP ?_
        refine ⟨⟨i + 1, by omega⟩, by simp only; omega, ?_⟩
        exact yb [] rfl rfl (by decide) .nil (by
          repeat' first | exact zg | refine zZ ?_ ?_ | exact zo | exact le_refl rfl | exact xI hlt (by omega) | exact z8 (congrArg _ es))
      · have h4 : ¬ i < 4000 := by have := of_decide_eq_false h'; simp only at this; omega
        repeat' first | refine zK ?_ | refine zA ?_ | refine zL [] ?_ | (refine isA ?_; refine zf rfl ?_) | (refine isL ?_; refine zU rfl (by kernel_rfl) rfl rfl ?_) | (refine zb rfl ?_; refine zT rfl (by kernel_rfl) rfl rfl ?_) | exact (by rw [hdone (by omega)]; exact tH 0 [0] (fun i hi => absurd hi (Nat.not_lt_zero _)) (by decide) rfl (zt rfl) (.cons rfl rfl rfl rfl (by repeat' first | exact zg | refine zZ ?_ ?_ | exact zo | exact le_refl rfl | exact zj rfl rfl | exact zt rfl) .nil)) | refine zD ?_ | refine zB _ rfl (by kernel_rfl) ?_ | refine zV rfl ?_ | refine zW rfl ?_ | refine zC ?_ | with_reducible refine zO ?_ | refine zH ?_ | refine zI ?_ | (with_reducible first | refine zM ?_ | refine zN ?_ | refine zE ?_ | refine zG ?_ | refine zF ?_) | refine zP ?_
    · have hge : ¬ i < xs.length := by simpa using h
      repeat' first | refine zK ?_ | refine zA ?_ | refine zL [] ?_ | (refine isA ?_; refine zf rfl ?_) | (refine isL ?_; refine zU rfl (by kernel_rfl) rfl rfl ?_) | (refine zb rfl ?_; refine zT rfl (by kernel_rfl) rfl rfl ?_) | exact (by rw [hdone (by omega)]; exact tH 0 [0] (fun i hi => absurd hi (Nat.not_lt_zero _)) (by decide) rfl (zt rfl) (.cons rfl rfl rfl rfl (by repeat' first | exact zg | refine zZ ?_ ?_ | exact zo | exact le_refl rfl | exact zj rfl rfl | exact zt rfl) .nil)) | refine zD ?_ | refine zB _ rfl (by kernel_rfl) ?_ | refine zV rfl ?_ | refine zW rfl ?_ | refine zC ?_ | with_reducible refine zO ?_ | refine zH ?_ | refine zI ?_ | (with_reducible first | refine zM ?_ | refine zN ?_ | refine zE ?_ | refine zG ?_ | refine zF ?_) | refine zP ?_
end Go.Proofs.Ytojcojanokhnaaa.Ab
namespace Go.Proofs.Ytojcojanokhnaaa.Ab
open Go.RowKit
section
variable {P : Program} {o : Oper} {ρ : Operand → V} {H : List Reg}
structure IntFs (P : Program) (t : TypeId) (fs : Array Field) : Prop where
  u : P.underlying t = some (.struct fs)
  held : P.stoodInHeld t = false
  guard : P.eqGuardType P.depth t = false
  fs : ∀ (i : Nat) (f : Field), fs.toList[i]? = some f → (f.name == "_") = false ∧ f.offset = i ∧ P.underlying f.type = some (.int .i64)
theorem pW {d : Nat} {xs ys : Array Value} {w : World} : ∀ (fs : List Field) (us bs : List Int), us.length = fs.length → bs.length = fs.length →
    (∀ (j : Nat) (f : Field) (a b : Int), fs[j]? = some f → us[j]? = some a → bs[j]? = some b → (f.name == "_") = false ∧ P.underlying f.type = some (.int .i64) ∧ xs[f.offset]? = some (.int .i64 a) ∧ ys[f.offset]? = some (.int .i64 b)) → (Op.eqFields (d + 1) xs ys fs).run P w = .ok (decide (us = bs)) w
  | [], [], [], _, _, _ => by simp [Op.eqFields]
  | f :: fs, a :: us, b :: bs, h1, h2, h => by
    obtain ⟨g1, g2, g3, g4⟩ := h 0 f a b rfl rfl rfl
    have hn' : f.name ≠ "_" := by simpa using g1
    have ha : (part f.type xs f.offset).run P w = .ok (.int .i64 a) w := by simp [part, isAgg, run_underlying g2, g3]
    have hb : (part f.type ys f.offset).run P w = .ok (.int .i64 b) w := by simp [part, isAgg, run_underlying g2, g4]
    have ih := pW (d := d) (xs := xs) (ys := ys) (w := w) fs us bs (by simpa using h1) (by simpa using h2) (fun j f' a' b' q1 q2 q3 => h (j + 1) f' a' b' q1 q2 q3)
    rw [Op.eqFields]
    simp only [if_pos hn', Sem.run_bind, ha, hb, run_equalIn_int w d f.type .i64 .i64 a b g2, Result.andThen_ok]
    by_cases hab : a = b
    · subst hab
      simpa using ih
    · simp [hab]
  | [], _ :: _, _, h1, _, _ => by simp at h1
  | [], [], _ :: _, _, h2, _ => by simp at h2
  | _ :: _, [], _, h1, _, _ => by simp at h1
  | _ :: _, _ :: _, [], _, h2, _ => by simp at h2
theorem nt {A : Nat → Prop} {w : World} {φ : List Hd} {us : List Int} {xs : Array Value} (h : zx A w φ (us.map I) (fun i => xs[i]?)) {j : Nat} {a : Int} (ha : us[j]? = some a) : xs[j]? = some (.int .i64 a) := by
  obtain ⟨y, h1, h2⟩ := yj h (i := j) (c := I a) (by rw [List.getElem?_map, ha]; rfl)
  simp only [Rel] at h2
  subst h2
  exact h1
theorem ga {fs : Array Field} {t : TypeId} (hf : IntFs P t fs) {A : Nat → Prop} {w : World} {φ : List Hd} {us bs : List Int} {xs ys : Array Value} (ha : us.length = fs.size) (hb : bs.length = fs.size) (hx : zx A w φ (us.map I) (fun i => xs[i]?)) (hy : zx A w φ (bs.map I) (fun i => ys[i]?)) :
    (Op.equalIn 10000 t (.agg xs) (.agg ys)).run P w = .ok (decide (us = bs)) w := by
  have he : P.fieldsOf t = fs := by simp [Program.fieldsOf, hf.u]
  rw [show (10000 : Nat) = 9999 + 1 from rfl, run_equalIn_struct (P := P) w 9999 t xs ys (by rw [he]; exact hf.u) hf.held, he]
  refine pW (d := 9998) fs.toList us bs (by simpa using ha) (by simpa using hb) fun j f a b q1 q2 q3 => ?_
  obtain ⟨g1, g2, g3⟩ := hf.fs j f q1
  rw [g2]
  exact ⟨g1, g3, nt hx q2, nt hy q3⟩
theorem mZ {t t' : TypeId} {x y : Operand} {us bs : List Int} (fs : Array Field) (hf : IntFs P t fs) (ho : o.op = .binOp .neq t x y t') (hx : ρ x = .agg (us.map I)) (hy : ρ y = .agg (bs.map I)) (ha : us.length = fs.size) (hb : bs.length = fs.size) : z7 P o ρ H (.k (.bool (!decide (us = bs)))) H := yB fun A φ a w _ h => by
  have h1 := h x (by simp [ho, Op.operands])
  have h2 := h y (by simp [ho, Op.operands])
  rw [hx, Rel] at h1
  rw [hy, Rel] at h2
  obtain ⟨xs, e1, _, r1⟩ := h1
  obtain ⟨ys, e2, _, r2⟩ := h2
  refine ⟨.bool (!decide (us = bs)), ?_, by simp [Rel]⟩
  have hr : ((do eqGuard .neq t x y (.agg xs) (.agg ys); binOp .neq t (.agg xs) (.agg ys) : Sem Value)).run P w = .ok (.bool (!decide (us = bs))) w := by
    rw [Sem.run_bind, run_eqGuard_agg w .neq t x y xs ys hf.guard]
    simp only [Result.andThen_ok, run_neq_struct, ga hf ha hb r1 r2]
  simp only [execOp, ho, e1, e2]
  rw [Sem.run_bind, hr]
  rfl
end
end Go.Proofs.Ytojcojanokhnaaa.Ab
namespace Go.Proofs.Ytojcojanokhnaaa.Ab
open Go.RowKit
section
variable {C : Cx} {A A' : Nat → Prop} {φ φ' : List Hd} {H : List Reg} {w w' : World} {P : Program} {o : Oper} {ρ : Operand → V}
end
end Go.Proofs.Ytojcojanokhnaaa.Ab
namespace Go.Proofs.Ytojcojanokhnaaa.Ab
open Go.RowKit
section
variable {C : Cx} {A A' : Nat → Prop} {φ φ' : List Hd} {H : List Reg} {w w' : World} {P : Program} {o : Oper} {ρ : Operand → V} {ops : Array Oper} {rest : List Oper} {Q : Exit → St → Prop} {S T : St}
mutual
inductive Nz (k : Nat) : V → V → Prop where
  | same (v : V) : Nz k v v
  | nil : Nz k (.k (.slice none 0 0)) (.sl k 0 0)
  | agg {cs ds : List V} (h : NzS k cs ds) : Nz k (.agg cs) (.agg ds)
  | tup {cs ds : List V} (h : NzS k cs ds) : Nz k (.tup cs) (.tup ds)
inductive NzS (k : Nat) : List V → List V → Prop where
  | rest (cs : List V) : NzS k cs cs
  | cons {c d : V} {cs ds : List V} (h : Nz k c d) (hs : NzS k cs ds) : NzS k (c :: cs) (d :: ds)
end
theorem NzS.length {k : Nat} : ∀ {cs ds : List V}, NzS k cs ds → ds.length = cs.length
  | _, _, .rest _ => rfl
  | _, _, .cons h hs => by simp [NzS.length hs]
inductive NzR (k : Nat) : List Reg → List Reg → Prop where
  | rest (H : List Reg) : NzR k H H
  | cons {r : Reg} {cs : List V} {H K : List Reg} (h : NzS k r.cells cs) (hs : NzR k H K) : NzR k (r :: H) ({ r with cells := cs } :: K)
theorem NzR.get {k : Nat} : ∀ {H K : List Reg}, NzR k H K → K.length = H.length ∧ ∀ (i : Nat) (r' : Reg), K[i]? = some r' → ∃ r, H[i]? = some r ∧ r'.mode = r.mode ∧ r'.esz = r.esz ∧ r'.e = r.e ∧ NzS k r.cells r'.cells
  | _, _, .rest H => ⟨rfl, fun i r h => ⟨r, h, rfl, rfl, rfl, .rest _⟩⟩
  | _, _, .cons h hs => by
    obtain ⟨e1, e2⟩ := hs.get
    refine ⟨by simp [e1], fun i r' hi => ?_⟩
    cases i with
    | zero => simp at hi; subst hi; exact ⟨_, rfl, rfl, rfl, rfl, h⟩
    | succ i => simp only [List.getElem?_cons_succ] at hi ⊢; exact e2 i r' hi
mutual
theorem Nz.rel {k : Nat} {hd : Hd} (hφ : φ[k]? = some hd) (hb : hd.blk = none) (hc : hd.cap = 0) : ∀ {v v' : V} {x : Value}, Nz k v v' → Rel A w φ v x → Rel A w φ v' x
  | _, _, x, .same v, h => h
  | _, _, x, .nil, h => by
    rw [Rel] at h
    rw [Rel]
    exact ⟨hd, hφ, Or.inl ⟨by rw [h, hb, hc]; rfl, by omega⟩⟩
  | _, _, x, .agg hs, h => by
    rw [Rel] at h ⊢
    obtain ⟨xs, e1, e2, h1⟩ := h
    exact ⟨xs, e1, e2.trans (NzS.length hs).symm, NzS.rels hφ hb hc hs h1⟩
  | _, _, x, .tup hs, h => by
    rw [Rel] at h ⊢
    obtain ⟨xs, e1, e2, h1⟩ := h
    exact ⟨xs, e1, e2.trans (NzS.length hs).symm, NzS.rels hφ hb hc hs h1⟩
theorem NzS.rels {k : Nat} {hd : Hd} (hφ : φ[k]? = some hd) (hb : hd.blk = none) (hc : hd.cap = 0) : ∀ {cs ds : List V} {g : Nat → Option Value}, NzS k cs ds → zx A w φ cs g → zx A w φ ds g
  | _, _, g, .rest _, h => h
  | _, _, g, .cons h hs, hr => by
    rw [zx] at hr ⊢
    obtain ⟨⟨y, h1, h2⟩, h3⟩ := hr
    exact ⟨⟨y, h1, Nz.rel hφ hb hc h h2⟩, NzS.rels hφ hb hc hs h3⟩
end
theorem tb {l l' : List V} {H K : List Reg} {m : Nat} (e n : Nat) (ht : NzS H.length l l') (hH : NzR H.length H K) : Sub ⟨l', K ++ [⟨e, n, [], 0⟩], m⟩ ⟨l, H, m⟩ := fun C φ a w hI => by
  obtain ⟨hm0, ⟨A, hA, hr⟩, hs, hd⟩ := hI
  obtain ⟨k1, k2⟩ := hH.get
  have hA1 := hA.addNil e n
  have hφ : (φ ++ [(⟨none, 0, n, e⟩ : Hd)])[H.length]? = some ⟨none, 0, n, e⟩ := by
    rw [← hA.ok.len]; simp
  have hup : ∀ (i : Nat) (d : Hd), φ[i]? = some d → (φ ++ [(⟨none, 0, n, e⟩ : Hd)])[i]? = some d := fun i d h => zh h
  have hcell : ∀ (i : Nat) (r' : Reg), (K ++ [(⟨e, n, [], 0⟩ : Reg)])[i]? = some r' → ∃ r, (H ++ [(⟨e, n, [], 0⟩ : Reg)])[i]? = some r ∧ r'.mode = r.mode ∧ r'.esz = r.esz ∧ r'.e = r.e ∧ NzS H.length r.cells r'.cells := fun i r' hi => by
    rcases Nat.lt_or_ge i K.length with hlt | hge
    · rw [List.getElem?_append_left hlt] at hi
      obtain ⟨r, q1, q2, q3, q4, q5⟩ := k2 i r' hi
      exact ⟨r, zh q1, q2, q3, q4, q5⟩
    · rw [List.getElem?_append_right hge, k1] at hi
      exact ⟨r', by rw [List.getElem?_append_right (by omega)]; exact hi, rfl, rfl, rfl, .rest _⟩
  have hlive : ∀ i b, zz (φ ++ [(⟨none, 0, n, e⟩ : Hd)]) (K ++ [(⟨e, n, [], 0⟩ : Reg)]) i b → zz (φ ++ [(⟨none, 0, n, e⟩ : Hd)]) (H ++ [(⟨e, n, [], 0⟩ : Reg)]) i b := fun i b ⟨d, r', q1, q2, q3, q4⟩ => by
    obtain ⟨r, p1, p2, _⟩ := hcell i r' q2
    exact ⟨d, r, q1, p1, by omega, q4⟩
  refine ⟨φ ++ [⟨none, 0, n, e⟩], hm0, ⟨A, ⟨⟨?_, fun i d r' q1 q2 q3 => ?_, fun i j b q1 q2 => hA1.ok.inj i j b (hlive i b q1) (hlive j b q2), fun i b q1 => hA1.ok.apart i b (hlive i b q1), fun i d r' b q1 q2 q3 q4 => ?_, hA1.ok.low⟩, hA1.old, fun i b q1 => hA1.own i b (hlive i b q1), hA1.frame, hA1.pre⟩, ?_⟩, hs.trans (NzS.length ht).symm, hd⟩
  · have := hA1.ok.len
    simp only [List.length_append] at this ⊢
    omega
  · obtain ⟨r, p1, p2, p3, p4, p5⟩ := hcell i r' q2
    obtain ⟨f1, f2⟩ := hA1.ok.regs i d r q1 p1 (by omega)
    refine ⟨⟨f1.1.trans p3.symm, f1.2.1.trans p4.symm, f1.2.2⟩, ?_⟩
    cases hb : d.blk with
    | none =>
      rw [hb] at f2
      have := NzS.length p5
      rw [f2.1] at this
      exact ⟨List.length_eq_zero_iff.1 this, f2.2⟩
    | some b =>
      rw [hb] at f2
      obtain ⟨c, c1, c2, c3, c4⟩ := f2
      exact ⟨c, c1, c2, by rw [NzS.length p5]; exact c3, NzS.rels hφ rfl rfl p5 c4⟩
  · obtain ⟨r, p1, p2, _⟩ := hcell i r' q2
    exact hA1.ok.frz i d r b q1 p1 (by omega) q4
  · exact NzS.rels hφ rfl rfl ht (zx.mono (fun b hb => ⟨hb, rfl⟩) hup hr)
theorem tO {l : List V} {H : List Reg} {m h : Nat} {r : Reg} (hh : H[h]? = some r) (hm : r.mode = 0) (hge : m ≤ h) (hlive : ∀ i, i < m → ∃ q, H[i]? = some q ∧ q.mode = 0) : Sub ⟨l, H.set h { r with mode := 1 }, m⟩ ⟨l, H, m⟩ := fun C φ a w hI => by
  obtain ⟨hm0, ⟨A, hA, hr⟩, hs, hd⟩ := hI
  have hlt : h < H.length := (List.getElem?_eq_some_iff.1 hh).1
  have we : ∀ i b, zz φ (H.set h { r with mode := 1 }) i b → i ≠ h ∧ zz φ H i b := fun i b ⟨d, q, q1, q2, q3, q4⟩ => by
    rcases getElem?_set' q2 with ⟨rfl, rfl⟩ | ⟨hne, q2⟩
    · cases q3
    · exact ⟨hne, d, q, q1, q2, q3, q4⟩
  let B : Nat → Prop := fun b => ∃ d, φ[h]? = some d ∧ d.blk = some b
  have hB : ∀ b, B b → zz φ H h b := fun b ⟨d, q1, q2⟩ => ⟨d, r, q1, hh, hm, q2⟩
  refine ⟨φ, hm0, ⟨fun b => A b ∨ B b, ⟨⟨by rw [List.length_set]; exact hA.ok.len, fun i d q q1 q2 q3 => ?_, fun i j b q1 q2 => hA.ok.inj i j b (we i b q1).2 (we j b q2).2, fun i b q1 hb => ?_, fun i d q b q1 q2 q3 q4 => ?_, fun b hb => ?_⟩, fun b hb => ?_, fun i b q1 => hA.own i b (we i b q1).2, hA.frame, hA.pre⟩, zx.mono (fun b hb => ⟨Or.inl hb, rfl⟩) (fun _ _ h => h) hr⟩, hs, hd⟩
  · obtain ⟨q', p1, p2⟩ : ∃ q', H[i]? = some q' ∧ q'.mode ≤ 1 ∧ q.esz = q'.esz ∧ q.e = q'.e ∧ q.cells = q'.cells := by
      rcases getElem?_set' q2 with ⟨rfl, rfl⟩ | ⟨hne, q2⟩
      · exact ⟨r, hh, by omega, rfl, rfl, rfl⟩
      · exact ⟨q, q2, q3, rfl, rfl, rfl⟩
    obtain ⟨f1, f2⟩ := hA.ok.regs i d q' q1 p1 p2.1
    refine ⟨⟨f1.1.trans p2.2.1.symm, f1.2.1.trans p2.2.2.1.symm, f1.2.2⟩, ?_⟩
    cases hb : d.blk with
    | none => rw [hb] at f2; rw [p2.2.2.2]; exact f2
    | some b =>
      rw [hb] at f2
      obtain ⟨c, c1, c2, c3, c4⟩ := f2
      exact ⟨c, c1, c2, by rw [p2.2.2.2]; exact c3, by rw [p2.2.2.2]; exact zx.mono (fun b hb => ⟨Or.inl hb, rfl⟩) (fun _ _ h => h) c4⟩
  · obtain ⟨hne, hl⟩ := we i b q1
    rcases hb with hb | hb
    · exact hA.ok.apart i b hl hb
    · exact hne (hA.ok.inj _ _ _ hl (hB b hb))
  · rcases getElem?_set' q2 with ⟨rfl, rfl⟩ | ⟨hne, q2⟩
    · exact Or.inr ⟨d, q1, q4⟩
    · exact Or.inl (hA.ok.frz i d q b q1 q2 q3 q4)
  · rcases hb with hb | ⟨d, q1, q2⟩
    · exact hA.ok.low b hb
    · exact xi hA.ok q1 hh (by omega) q2
  · rcases hb with hb | hb
    · exact hA.old b hb
    · rcases hA.own h b (hB b hb) with h1 | ⟨h0, d0, q0, p1, p2, p3, p4⟩
      · exact Or.inr h1
      · exfalso
        have hlt0 : h0 < m := by
          have := (List.getElem?_eq_some_iff.1 p1).1
          have e : C.φ0.length = m := hm0
          omega
        obtain ⟨q, k1, k2⟩ := hlive h0 hlt0
        have := hA.ok.inj h0 h b ⟨d0, q, hA.pre h0 d0 p1, k1, k2, p4⟩ (hB b hb)
        omega
mutual
inductive Vw (H : List Reg) : V → V → Prop where
  | same (v : V) : Vw H v v
  | pur {v v' : V} (h : Pur false H v v') : Vw H v v'
  | agg {cs ds : List V} (h : VwS H cs ds) : Vw H (.agg cs) (.agg ds)
  | tup {cs ds : List V} (h : VwS H cs ds) : Vw H (.tup cs) (.tup ds)
inductive VwS (H : List Reg) : List V → List V → Prop where
  | rest (cs : List V) : VwS H cs cs
  | cons {c d : V} {cs ds : List V} (h : Vw H c d) (hs : VwS H cs ds) : VwS H (c :: cs) (d :: ds)
end
theorem VwS.length : ∀ {cs ds : List V}, VwS H cs ds → ds.length = cs.length
  | _, _, .rest _ => rfl
  | _, _, .cons h hs => by simp [VwS.length hs]
theorem VwS.all {f : V → V} (hf : ∀ c, Vw H c (f c)) : ∀ cs : List V, VwS H cs (cs.map f)
  | [] => .rest _
  | c :: cs => .cons (hf c) (VwS.all hf cs)
mutual
theorem Vw.rel (hok : HeapOk A w φ H) : ∀ {v v' : V} {x : Value}, Vw H v v' → Rel A w φ v x → Rel A w φ v' x
  | _, _, x, .same _, h => h
  | _, _, x, .pur hp, h => wx (Pur.noH hp) (Pur.rel hok (fun b hb => hb) (fun h => by cases h) hp h)
  | _, _, x, .agg hs, h => by
    rw [Rel] at h ⊢
    obtain ⟨xs, e1, e2, h1⟩ := h
    exact ⟨xs, e1, e2.trans (VwS.length hs).symm, VwS.rels hok hs h1⟩
  | _, _, x, .tup hs, h => by
    rw [Rel] at h ⊢
    obtain ⟨xs, e1, e2, h1⟩ := h
    exact ⟨xs, e1, e2.trans (VwS.length hs).symm, VwS.rels hok hs h1⟩
theorem VwS.rels (hok : HeapOk A w φ H) : ∀ {cs ds : List V} {g : Nat → Option Value}, VwS H cs ds → zx A w φ cs g → zx A w φ ds g
  | _, _, g, .rest _, h => h
  | _, _, g, .cons h hs, hr => by
    rw [zx] at hr ⊢
    obtain ⟨⟨y, h1, h2⟩, h3⟩ := hr
    exact ⟨⟨y, h1, Vw.rel hok h h2⟩, VwS.rels hok hs h3⟩
end
inductive VwR (H : List Reg) : List Reg → List Reg → Prop where
  | rest (L : List Reg) : VwR H L L
  | cons {r : Reg} {cs : List V} {L K : List Reg} (h : VwS H r.cells cs) (hs : VwR H L K) : VwR H (r :: L) ({ r with cells := cs } :: K)
theorem VwR.get {G : List Reg} : ∀ {H K : List Reg}, VwR G H K → K.length = H.length ∧ ∀ (i : Nat) (r' : Reg), K[i]? = some r' → ∃ r, H[i]? = some r ∧ r'.mode = r.mode ∧ r'.esz = r.esz ∧ r'.e = r.e ∧ VwS G r.cells r'.cells
  | _, _, .rest H => ⟨rfl, fun i r h => ⟨r, h, rfl, rfl, rfl, .rest _⟩⟩
  | _, _, .cons h hs => by
    obtain ⟨e1, e2⟩ := hs.get
    refine ⟨by simp [e1], fun i r' hi => ?_⟩
    cases i with
    | zero => simp at hi; subst hi; exact ⟨_, rfl, rfl, rfl, rfl, h⟩
    | succ i => simp only [List.getElem?_cons_succ] at hi ⊢; exact e2 i r' hi
theorem lI {l l' : List V} {H K : List Reg} {m : Nat} (ht : VwS H l l') (hH : VwR H H K) : Sub ⟨l', K, m⟩ ⟨l, H, m⟩ := fun C φ a w hI => by
  obtain ⟨hm0, ⟨A, hA, hr⟩, hs, hd⟩ := hI
  obtain ⟨k1, k2⟩ := hH.get
  have hlive : ∀ i b, zz φ K i b → zz φ H i b := fun i b ⟨d, r', q1, q2, q3, q4⟩ => by
    obtain ⟨r, p1, p2, _⟩ := k2 i r' q2
    exact ⟨d, r, q1, p1, by omega, q4⟩
  refine ⟨φ, hm0, ⟨A, ⟨⟨by rw [k1]; exact hA.ok.len, fun i d r' q1 q2 q3 => ?_, fun i j b q1 q2 => hA.ok.inj i j b (hlive i b q1) (hlive j b q2), fun i b q1 => hA.ok.apart i b (hlive i b q1), fun i d r' b q1 q2 q3 q4 => ?_, hA.ok.low⟩, hA.old, fun i b q1 => hA.own i b (hlive i b q1), hA.frame, hA.pre⟩, VwS.rels hA.ok ht hr⟩, hs.trans (VwS.length ht).symm, hd⟩
  · obtain ⟨r, p1, p2, p3, p4, p5⟩ := k2 i r' q2
    obtain ⟨f1, f2⟩ := hA.ok.regs i d r q1 p1 (by omega)
    refine ⟨⟨f1.1.trans p3.symm, f1.2.1.trans p4.symm, f1.2.2⟩, ?_⟩
    cases hb : d.blk with
    | none =>
      rw [hb] at f2
      have := VwS.length p5
      rw [f2.1] at this
      exact ⟨List.length_eq_zero_iff.1 this, f2.2⟩
    | some b =>
      rw [hb] at f2
      obtain ⟨c, c1, c2, c3, c4⟩ := f2
      exact ⟨c, c1, c2, by rw [VwS.length p5]; exact c3, VwS.rels hA.ok p5 c4⟩
  · obtain ⟨r, p1, p2, _⟩ := k2 i r' q2
    exact hA.ok.frz i d r b q1 p1 (by omega) q4
theorem gI {l : List Oper} {T S : St} (hs : Sub T S) (h : AOps P ops l Q T) : AOps P ops l Q S := ⟨fun C φ a w hI => let ⟨φ', h'⟩ := hs C φ a w hI; h.out C φ' a w h'⟩
end
end Go.Proofs.Ytojcojanokhnaaa.Ab
namespace Go.Proofs.Ytojcojanokhnaaa.Ab
open Go.RowKit
def bkI (hs : List Nat) (n i : Nat) : Nat := (hs[i]?).getD (n + (i - hs.length))
mutual
inductive Bk (hs : List Nat) (n : Nat) : V → V → Prop where
  | same {v : V} (h : noH v = true) : Bk hs n v v
  | sl {i h off m : Nat} (h1 : bkI hs n i = h) : Bk hs n (.sl i off m) (.sl h off m)
  | ptr {i h off : Nat} (h1 : bkI hs n i = h) : Bk hs n (.ptr i off) (.ptr h off)
  | agg {cs ds : List V} (h : BkS hs n cs ds) : Bk hs n (.agg cs) (.agg ds)
  | tup {cs ds : List V} (h : BkS hs n cs ds) : Bk hs n (.tup cs) (.tup ds)
inductive BkS (hs : List Nat) (n : Nat) : List V → List V → Prop where
  | rest {cs : List V} (h : NoH cs) : BkS hs n cs cs
  | cons {c d : V} {cs ds : List V} (h : Bk hs n c d) (ht : BkS hs n cs ds) : BkS hs n (c :: cs) (d :: ds)
end
theorem BkS.nil {hs : List Nat} {n : Nat} : BkS hs n [] [] := .rest fun c hc => by cases hc
theorem BkS.length {hs : List Nat} {n : Nat} : ∀ {cs ds : List V}, BkS hs n cs ds → ds.length = cs.length
  | _, _, .rest _ => rfl
  | _, _, .cons h ht => by simp [BkS.length ht]
theorem BkS.map {α : Type} {hs : List Nat} {n : Nat} {f g : α → V} : ∀ (l : List α), (∀ x ∈ l, Bk hs n (f x) (g x)) → BkS hs n (l.map f) (l.map g)
  | [], _ => .nil
  | x :: l, h => .cons (h x (List.mem_cons_self ..)) (BkS.map l fun y hy => h y (List.mem_cons_of_mem _ hy))
section
variable {A : Nat → Prop} {w : World} {φ φ' : List Hd} {hs : List Nat} {n : Nat}
mutual
theorem Bk.rel (hg : ∀ (i : Nat) hd, φ'[i]? = some hd → φ[bkI hs n i]? = some hd) : ∀ {v v' : V} {x : Value}, Bk hs n v v' → Rel A w φ' v x → Rel A w φ v' x
  | v, _, x, .same h, hr => wx h hr
  | _, _, x, .sl h1, hr => by
    rw [Rel] at hr ⊢
    obtain ⟨hd, h2, h3⟩ := hr
    exact ⟨hd, h1 ▸ hg _ _ h2, h3⟩
  | _, _, x, .ptr h1, hr => by
    rw [Rel] at hr ⊢
    obtain ⟨hd, b, h2, h3⟩ := hr
    exact ⟨hd, b, h1 ▸ hg _ _ h2, h3⟩
  | .agg cs, .agg ds, x, .agg h, hr => by
    rw [Rel] at hr ⊢
    obtain ⟨xs, e1, e2, h2⟩ := hr
    exact ⟨xs, e1, e2.trans (BkS.length h).symm, BkS.rels hg h h2⟩
  | .tup cs, .tup ds, x, .tup h, hr => by
    rw [Rel] at hr ⊢
    obtain ⟨xs, e1, e2, h2⟩ := hr
    exact ⟨xs, e1, e2.trans (BkS.length h).symm, BkS.rels hg h h2⟩
theorem BkS.rels (hg : ∀ (i : Nat) hd, φ'[i]? = some hd → φ[bkI hs n i]? = some hd) : ∀ {cs ds : List V} {g : Nat → Option Value}, BkS hs n cs ds → zx A w φ' cs g → zx A w φ ds g
  | _, _, g, .rest h, hr => xd h hr
  | c :: cs, _, g, .cons h ht, hr => by
    rw [zx] at hr ⊢
    obtain ⟨⟨y, h1, h2⟩, h3⟩ := hr
    exact ⟨⟨y, h1, Bk.rel hg h h2⟩, BkS.rels hg ht h3⟩
end
end
theorem sz {hs : List Nat} : ∀ {cs : List V}, NoH cs → PassS hs cs cs
  | [], _ => .nil
  | c :: cs, h => .cons (.same (h c (List.mem_cons_self ..))) (sz fun d hd => h d (List.mem_cons_of_mem _ hd))
inductive BkR (hs : List Nat) (n : Nat) : List Reg → List Reg → Prop where
  | nil : BkR hs n [] []
  | cons {R : Reg} {cs : List V} {K K2 : List Reg} (h : BkS hs n R.cells cs) (ht : BkR hs n K K2) : BkR hs n (R :: K) ({ R with cells := cs } :: K2)
theorem BkR.get {hs : List Nat} {n : Nat} : ∀ {K K2 : List Reg}, BkR hs n K K2 → K2.length = K.length ∧ ∀ (i : Nat) (r : Reg), K2[i]? = some r → ∃ R, K[i]? = some R ∧ r.mode = R.mode ∧ r.esz = R.esz ∧ r.e = R.e ∧ BkS hs n R.cells r.cells
  | _, _, .nil => ⟨rfl, fun i r h => by simp at h⟩
  | _, _, .cons h ht => by
    obtain ⟨e1, e2⟩ := ht.get
    refine ⟨by simp [e1], fun i r hi => ?_⟩
    cases i with
    | zero => simp at hi; subst hi; exact ⟨_, rfl, rfl, rfl, rfl, h⟩
    | succ i => simp only [List.getElem?_cons_succ] at hi ⊢; exact e2 i r hi
inductive GiveN (H : List Reg) (hs0 : List Nat) (n : Nat) : List Nat → List Reg → List Reg → List Reg → Prop where
  | nil : GiveN H hs0 n [] [] [] []
  | cons {h : Nat} {R0 R' : Reg} {cs cs2 : List V} {hs : List Nat} {Rs Rs' R2 : List Reg} (hH : H[h]? = some R0) (hm : R0.mode = 0) (hp : PassS hs0 R0.cells cs) (hm' : R'.mode ≠ 1) (hb : BkS hs0 n R'.cells cs2) (ht : GiveN H hs0 n hs Rs Rs' R2) :
      GiveN H hs0 n (h :: hs) ({ R0 with cells := cs } :: Rs) (R' :: Rs') ({ R' with cells := cs2 } :: R2)
theorem GiveN.spec {H : List Reg} {hs0 : List Nat} {n : Nat} : ∀ {hs : List Nat} {Rs Rs' R2 : List Reg}, GiveN H hs0 n hs Rs Rs' R2 → Rs.length = hs.length ∧ Rs'.length = hs.length ∧ R2.length = hs.length ∧ ∀ (i h : Nat), hs[i]? = some h →
    ∃ R0 R R' RR, H[h]? = some R0 ∧ R0.mode = 0 ∧ Rs[i]? = some R ∧ R.mode = 0 ∧ R.esz = R0.esz ∧ R.e = R0.e ∧ PassS hs0 R0.cells R.cells ∧ Rs'[i]? = some R' ∧ R'.mode ≠ 1 ∧ R2[i]? = some RR ∧ RR.mode = R'.mode ∧ RR.esz = R'.esz ∧ RR.e = R'.e ∧ BkS hs0 n R'.cells RR.cells
  | _, _, _, _, .nil => ⟨rfl, rfl, rfl, fun i h hi => by simp at hi⟩
  | _, _, _, _, .cons hH hm hp hm' hb ht => by
    obtain ⟨e1, e2, e3, e4⟩ := ht.spec
    refine ⟨by simp [e1], by simp [e2], by simp [e3], fun i h hi => ?_⟩
    cases i with
    | zero =>
      simp at hi
      subst hi
      exact ⟨_, _, _, _, hH, hm, rfl, hm, rfl, rfl, hp, rfl, hm', rfl, rfl, rfl, rfl, hb⟩
    | succ i =>
      simp only [List.getElem?_cons_succ] at hi ⊢
      exact e4 i h hi
section
variable {P : Program} {o : Oper} {ρ : Operand → V} {H : List Reg}
end
end Go.Proofs.Ytojcojanokhnaaa.Ab
namespace Go.Proofs.Ytojcojanokhnaaa.Ab
open Go.RowKit
section
variable {P : Program} {o : Oper} {ρ : Operand → V} {H : List Reg} {l : List V}
theorem kL {t : TypeId} {fs : Array Field} (hu : P.underlying t = some (.struct fs)) (hh : P.stoodInHeld t = false) (hg : P.eqGuardType P.depth t = false)
    (h : fs.toList.zipIdx.all (fun p => !(p.1.name == "_") && Nat.beq p.1.offset p.2 && (match P.underlying p.1.type with | some (.int .i64) => true | _ => false)) = true) : IntFs P t fs := ⟨hu, hh, hg, fun i f hf => by
  rw [List.all_eq_true] at h
  have := h (f, i) (List.mem_of_getElem? (i := i) (by rw [List.getElem?_zipIdx, hf]; simp))
  simp only [Bool.and_eq_true, Bool.not_eq_true', Nat.beq_eq] at this
  refine ⟨this.1.1, this.1.2, ?_⟩
  have h2 := this.2
  split at h2
  · assumption
  · cases h2⟩
theorem ms {t t' : TypeId} {x y : Operand} {b : Bool} (ho : o.op = .binOp .neq t x y t') (hx : ρ x = B b) (hy : ρ y = B b) (ht : P.underlying t = some .bool) : z7 P o ρ H (B false) H := by
  have := sk (P := P) (H := H) ho hx hy ht
  simpa using this
theorem mr {t t' : TypeId} {x y : Operand} {k : IntKind} {a : Int} (ho : o.op = .binOp .neq t x y t') (hx : ρ x = .k (.int k a)) (hy : ρ y = .k (.int k a)) : z7 P o ρ H (B false) H := by
  have := qs (P := P) (H := H) ho hx hy
  simpa using this
end
section
variable {P : Program} {T : Tab} {ops : Array Oper} {ds d : List Nat} {n : Nat} {Q : Exit → St → Prop} {o : Oper} {l l' : List V} {H K : List Reg} {m : Nat}
end
section
variable {P : Program} {o : Oper} {ρ : Operand → V} {K : List Reg}
theorem kR {α : Type} (T : Ty α) {xs : List α} {i off : Nat} {z : α} {v : V} (hz : xs[i]? = some z) (hv : (T.enc z)[off]? = some v) : (T.flat xs)[i * T.n + off]? = some v := by
  rw [← List.getElem?_drop, qb T hz]
  exact zh hv
theorem pN {α : Type} {T : Ty α} {t e h i off : Nat} {x : Operand} {xs : List α} {z : α} {v : V} [ht : Sc P t] (ho : o.op = .load t x) (hx : ρ x = .ptr h (i * T.n + off)) (hH : K[h]? = some (xL T e xs)) (hz : xs[i]? = some z) (hv : (T.enc z)[off]? = some v) : z7 P o ρ K v K :=
  w5 ho hx hH (Nat.zero_le _) (kR T hz hv)
theorem xF {α : Type} {T : Ty α} {t e h i : Nat} {x : Operand} {xs : List α} {z : α} [ht : Ag P t T.n] (ho : o.op = .load t x) (hx : ρ x = .ptr h (i * T.n)) (hH : K[h]? = some (xL T e xs)) (hz : xs[i]? = some z) : z7 P o ρ K (.agg (T.enc z)) K := by
  have hlt := (List.getElem?_eq_some_iff.1 hz).1
  have := xu (P := P) (o := o) (ρ := ρ) (H := K) (n := T.n) ho hx hH (Nat.zero_le _) (by
    show i * T.n + T.n ≤ (T.flat xs).length
    rw [yH, ← Nat.succ_mul]
    exact Nat.mul_le_mul_right _ hlt)
  have e : ((xL T e xs).cells.drop (i * T.n)).take T.n = T.enc z := by
    show ((T.flat xs).drop (i * T.n)).take T.n = _
    rw [qb T hz, ← T.len z, List.take_left']
    rfl
  rw [e] at this
  exact this
end
theorem GiveN.flat {H : List Reg} {hs0 : List Nat} {n h : Nat} {R R' : Reg} {hs : List Nat} {Rs Rs' R2 : List Reg} (hH : H[h]? = some R) (hm : R.mode = 0) (hm' : R'.mode = 0) (hN : NoH R.cells) (hN' : NoH R'.cells) (ht : GiveN H hs0 n hs Rs Rs' R2) : GiveN H hs0 n (h :: hs) (R :: Rs) (R' :: Rs') (R' :: R2) :=
  .cons (R0 := R) (R' := R') (cs := R.cells) (cs2 := R'.cells) hH hm (sz hN) (by omega) (.rest hN') ht
end Go.Proofs.Ytojcojanokhnaaa.Ab
namespace Go.Proofs.Ytojcojanokhnaaa.Ab
open Go.RowKit
theorem yP : ∀ {cs : List V}, NoH cs → noHs cs = true
  | [], _ => rfl
  | c :: cs, h => by simp only [noHs, h c (List.mem_cons_self ..), yP fun d hd => h d (List.mem_cons_of_mem _ hd), Bool.and_self]
def shR (k : Nat) (r : Reg) : Reg := { r with cells := vZ k r.cells }
section
variable {A A' : Nat → Prop} {w w' : World} {φ φ' : List Hd} {H : List Reg}
theorem InvA.joinN {C : Cx} (hA : InvA C A φ H w) {K : List Reg} (hK : HeapOk A' w' φ' K) (hA' : ∀ b, A' b → A b ∨ w.heap.size ≤ b) (hl : ∀ h b, zz φ' K h b → w.heap.size ≤ b) (hoth : ∀ b, b < w.heap.size → w'.heap[b]? = w.heap[b]?)
    (hsz : w.heap.size ≤ w'.heap.size) (hos : w'.os = w.os) (htape : w'.tape = w.tape) (hout : w'.output = w.output) :
    InvA C (fun b => A b ∨ A' b) (φ ++ φ') (H ++ K.map (shR H.length)) w' := by
  have hlen := hA.ok.len
  have hφ : ∀ (h : Nat) (hd : Hd), φ[h]? = some hd → (φ ++ φ')[h]? = some hd := fun h hd hh => zh hh
  have hAm : ∀ b, A b → (A b ∨ A' b) ∧ w'.heap[b]? = w.heap[b]? := fun b hb => ⟨Or.inl hb, hoth b (hA.ok.low b hb)⟩
  have hsplit : ∀ (h : Nat) (hd : Hd) (r : Reg), (φ ++ φ')[h]? = some hd → (H ++ K.map (shR H.length))[h]? = some r → (φ[h]? = some hd ∧ H[h]? = some r) ∨ (∃ j r0, h = φ.length + j ∧ φ'[j]? = some hd ∧ K[j]? = some r0 ∧ r = shR H.length r0) := fun h hd r h1 h2 => by
    rcases Nat.lt_or_ge h φ.length with hh | hh
    · rw [List.getElem?_append_left hh] at h1
      rw [List.getElem?_append_left (by omega)] at h2
      exact Or.inl ⟨h1, h2⟩
    · rw [List.getElem?_append_right hh] at h1
      rw [List.getElem?_append_right (by omega), ← hlen] at h2
      rw [List.getElem?_map] at h2
      cases hq : K[h - φ.length]? with
      | none => rw [hq] at h2; cases h2
      | some r0 =>
        rw [hq] at h2
        simp only [Option.map_some, Option.some.injEq] at h2
        exact Or.inr ⟨h - φ.length, r0, by omega, h1, hq, by rw [← hlen]; exact h2.symm⟩
  have hlive : ∀ h b, zz (φ ++ φ') (H ++ K.map (shR H.length)) h b → zz φ H h b ∨ ∃ j, h = φ.length + j ∧ zz φ' K j b := by
    rintro h b ⟨hd, r, h1, h2, h3, h4⟩
    rcases hsplit h hd r h1 h2 with ⟨p1, p2⟩ | ⟨j, r0, p0, p1, p2, rfl⟩
    · exact Or.inl ⟨hd, r, p1, p2, h3, h4⟩
    · exact Or.inr ⟨j, p0, hd, r0, p1, p2, h3, h4⟩
  have hlow : ∀ h b, zz φ H h b → b < w.heap.size := fun h b ⟨hd, r, h1, h2, h3, h4⟩ => xi hA.ok h1 h2 (by omega) h4
  refine ⟨⟨by simp [hlen, hK.len], fun h hd r h1 h2 h3 => ?_, fun h h' b h1 h2 => ?_, fun h b h1 => ?_, fun h hd r b h1 h2 h3 h4 => ?_, fun b hb => ?_⟩, fun b hb => ?_, fun h b h1 => ?_, ?_, fun h hd hh => hφ h hd (hA.pre h hd hh)⟩
  · rcases hsplit h hd r h1 h2 with ⟨p1, p2⟩ | ⟨j, r0, p0, p1, p2, rfl⟩
    · obtain ⟨e1, e2⟩ := hA.ok.regs h hd r p1 p2 h3
      refine ⟨e1, ?_⟩
      cases hk : hd.blk with
      | none => rw [hk] at e2; exact e2
      | some b =>
        rw [hk] at e2
        obtain ⟨c, k1, k2, k3, k4⟩ := e2
        exact ⟨c, (hoth b (xi hA.ok p1 p2 h3 hk)).trans k1, k2, k3, zx.mono hAm hφ k4⟩
    · obtain ⟨e1, e2⟩ := hK.regs j hd r0 p1 p2 h3
      refine ⟨e1, ?_⟩
      cases hk : hd.blk with
      | none => rw [hk] at e2; refine ⟨?_, e2.2⟩; show vZ H.length r0.cells = []; rw [e2.1]; rfl
      | some b =>
        rw [hk] at e2
        obtain ⟨c, k1, k2, k3, k4⟩ := e2
        exact ⟨c, k1, k2, by show (vZ H.length r0.cells).length ≤ _; rw [wR]; exact k3, zx.mono (fun b hb => ⟨Or.inr hb, rfl⟩) (fun _ _ h => h) (by rw [← hlen]; exact vi k4)⟩
  · rcases hlive h b h1 with q1 | ⟨j, p1, q1⟩
    · rcases hlive h' b h2 with q2 | ⟨j', p2, q2⟩
      · exact hA.ok.inj _ _ _ q1 q2
      · have := hlow _ _ q1
        have := hl _ _ q2
        omega
    · rcases hlive h' b h2 with q2 | ⟨j', p2, q2⟩
      · have := hlow _ _ q2
        have := hl _ _ q1
        omega
      · rw [p1, p2, hK.inj _ _ _ q1 q2]
  · rcases hlive h b h1 with q1 | ⟨j, p1, q1⟩
    · rintro (hb | hb)
      · exact hA.ok.apart _ _ q1 hb
      · rcases hA' b hb with hb | hb
        · exact hA.ok.apart _ _ q1 hb
        · have := hlow _ _ q1
          omega
    · rintro (hb | hb)
      · have := hA.ok.low b hb
        have := hl _ _ q1
        omega
      · exact hK.apart _ _ q1 hb
  · rcases hsplit h hd r h1 h2 with ⟨p1, p2⟩ | ⟨j, r0, p0, p1, p2, rfl⟩
    · exact Or.inl (hA.ok.frz h hd r b p1 p2 h3 h4)
    · exact Or.inr (hK.frz j hd r0 b p1 p2 h3 h4)
  · rcases hb with hb | hb
    · exact Nat.lt_of_lt_of_le (hA.ok.low b hb) hsz
    · exact hK.low b hb
  · rcases hb with hb | hb
    · exact hA.old b hb
    · rcases hA' b hb with hb | hb
      · exact hA.old b hb
      · exact Or.inr (Nat.le_trans hA.frame.size hb)
  · rcases hlive h b h1 with q1 | ⟨j, p1, q1⟩
    · exact hA.own _ _ q1
    · exact Or.inl (Nat.le_trans hA.frame.size (hl _ _ q1))
  · obtain ⟨f1, f2, f3, f4, f5⟩ := hA.frame
    exact ⟨hos.trans f1, htape.trans f2, hout.trans f3, Nat.le_trans f4 hsz, fun i hi hno => (hoth i (Nat.lt_of_lt_of_le hi f4)).trans (f5 i hi hno)⟩
end
section
variable {P : Program} {o : Oper} {ρ : Operand → V} {H : List Reg}
theorem tt {f : FuncId} {vs cargs : List V} {r : V} {K : List Reg} {al : Bool}
    (hrun : ∀ (A : Nat → Prop) (φ : List Hd) (a : Act) (w : World), HeapOk A w φ H → (∀ x ∈ o.op.operands, Rel A w φ (ρ x) (a.eval x)) → ∃ xs : Array Value, (execOp a.eval o).run P w = .ok (.enter f xs) w ∧ xs.size = vs.length ∧ zx A w φ vs (fun i => xs[i]?))
    (hm : zy P f cargs [] r K al) (hargs : Purs (!al) H vs cargs) : z7 P o ρ H (shV H.length r) (H ++ K.map (shR H.length)) := by
  intro S hS hρ C φ a w hI next Q hn
  obtain ⟨hm0, ⟨A, hA, hr⟩, hs, hd⟩ := hI
  subst hS
  obtain ⟨xs, hexec, hxl, hargr⟩ := hrun A φ a w hA.ok (fun x hx => by rw [← hρ x hx]; exact vA hr x)
  let A1 : Nat → Prop := fun b => A b ∨ (al = false ∧ b < w.heap.size)
  have hok1 : HeapOk A1 w [] [] := ⟨rfl, fun h hd r h1 => by simp at h1, fun h h' b ⟨hd, r, h1, _⟩ => by simp at h1, fun h b ⟨hd, r, h1, _⟩ => by simp at h1, fun h hd r b h1 => by simp at h1, fun b hb => by
    rcases hb with hb | hb
    · exact hA.ok.low b hb
    · exact hb.2⟩
  have hargs1 : zx A1 w [] cargs (fun i => xs[i]?) := Purs.rels hA.ok (fun b hb => Or.inl hb) (fun hl h b hb => Or.inr ⟨by cases al <;> simp_all, by obtain ⟨hd, r, q1, q2, q3, q4⟩ := hb; exact xi hA.ok q1 q2 (by omega) q4⟩) hargs hargr
  have hcall := hm A1 [] w xs hok1 hargs1 (hxl.trans (Purs.length hargs))
  unfold Oper.wp
  rw [hexec, Oper.upon_enter]
  refine hcall.mono ?_
  rintro e w' ⟨x, φ', A', rfl, k1, k2, k3, k4, k5, k6⟩
  have hfr : ∀ b, b < w.heap.size → w'.heap[b]? = w.heap[b]? := fun b hb => k5.block b hb (fun h ⟨hd, r, h1, _⟩ => by simp at h1)
  have hJ : InvA C (fun b => A b ∨ A' b) (φ ++ φ') (S.H ++ K.map (shR S.H.length)) w' := hA.joinN k1 (fun b hb => by
      rcases k3 b hb with ⟨ha, hb | hb⟩ | hb
      · exact Or.inl hb
      · rw [ha] at hb; cases hb.1
      · exact Or.inr hb)
    (fun h b hl => by
      rcases k4 h b hl with h1 | ⟨h0, hd, r, h1, _⟩
      · exact h1
      · simp at h1) hfr k5.size k5.os k5.tape k5.output
  have hr' : zx (fun b => A b ∨ A' b) w' (φ ++ φ') S.tmps (fun i => a.tmps[i]?) := zx.mono (fun b hb => ⟨Or.inl hb, hfr b (hA.ok.low b hb)⟩) (fun h hd hh => zh hh) hr
  have hx : Rel (fun b => A b ∨ A' b) w' (φ ++ φ') (shV S.H.length r) x := by
    rw [← hA.ok.len]
    exact qO (Rel.mono (fun b hb => ⟨Or.inr hb, rfl⟩) (fun _ _ h => h) k2)
  obtain ⟨h7, h8⟩ := wy (H := S.H ++ K.map (shR S.H.length)) hs hr' hx o.dst
  refine hn x w' (φ ++ φ') ⟨by cases o.dst <;> exact hm0, ⟨_, ?_, h7⟩, h8, by cases o.dst <;> exact hd⟩
  rw [xz]
  exact hJ
theorem yA {K H' : List Reg} {f : FuncId} {args : List Operand} {ats : Array TypeId} {cargs : List V} {r r' : V} {al : Bool} [he : Ent P f] (ho : o.op = .call { callee := .value (.func f), args := args.toArray, argTypes := ats })
    (hm : zy P f cargs [] r K al) (hargs : Purs (!al) H (args.map ρ) cargs) (hr : shV H.length r = r') (hH : H ++ K.map (shR H.length) = H') : z7 P o ρ H r' H' := by
  subst hr
  subst hH
  exact tt (fun A φ a w hok hh => ⟨_, uc ho, by simp, vl fun x hx => hh x (by rw [ho]; simp only [Op.operands, Call.operands]; simp [hx])⟩) hm hargs
end
section
variable {α : Type} {T : Ty α} {e : TypeId}
def nC (b : Nat) : List (List α) → List V
  | [] => []
  | x :: xs => .sl b 0 x.length :: nC (b + 1) xs
def nR (T : Ty α) (e : TypeId) (rs : List (List α)) : List Reg := rs.map (xL T e)
theorem wH : ∀ (b : Nat) (rs : List (List α)), (nC b rs).length = rs.length
  | _, [] => rfl
  | b, x :: xs => by simp [nC, wH (b + 1) xs]
theorem s4 : ∀ (b : Nat) (rs ss : List (List α)), nC b (rs ++ ss) = nC b rs ++ nC (b + rs.length) ss
  | _, [], ss => by simp [nC]
  | b, x :: xs, ss => by
    simp only [List.cons_append, nC, List.length_cons]
    rw [s4 (b + 1) xs ss]
    congr 3
    omega
theorem qN (n : Nat) : ∀ (b : Nat) (rs : List (List α)), vZ n (nC b rs) = nC (b + n) rs
  | _, [] => rfl
  | b, x :: xs => by
    simp only [nC, vZ, shV]
    rw [qN n (b + 1) xs]
    congr 2
    omega
theorem zm (rs : List (List α)) : (nR T e rs).length = rs.length := by simp [nR]
theorem xX {rs : List (List α)} {j : Nat} {x : List α} (h : rs[j]? = some x) : (nR T e rs)[j]? = some (xL T e x) := by simp [nR, h]
theorem fe (n : Nat) (rs : List (List α)) : (nR T e rs).map (shR n) = nR T e rs := by
  rw [nR, List.map_map]
  refine List.map_congr_left fun x hx => ?_
  simp only [Function.comp, shR, yC n (yP (zJ T x))]
def lsT (T : Ty α) : Ty (List α) := ⟨1, fun xs => [xp T xs], fun _ => rfl, by decide, fun r c hc => by
  simp only [List.mem_cons, List.not_mem_nil, or_false] at hc
  subst hc
  exact ⟨rfl, rfl⟩⟩
theorem zq {H : List Reg} {h : Nat} {x : List α} (hH : H[h]? = some (xL T e x)) : Pur true H (.sl h 0 x.length) (xp T x) := pur_L hH rfl rfl rfl
theorem l6 {H : List Reg} : ∀ {b : Nat} {rs : List (List α)}, (∀ j x, rs[j]? = some x → H[b + j]? = some (xL T e x)) → Purs true H (nC b rs) ((lsT T).flat rs)
  | _, [], _ => .nil
  | b, x :: xs, h => by
    rw [wI]
    exact .cons (zq (h 0 x rfl)) (l6 fun j y hj => by have := h (j + 1) y (by simpa using hj); rw [show b + 1 + j = b + (j + 1) by omega]; exact this)
theorem pD {H : List Reg} {h b ty : Nat} {rs : List (List α)} (hH : H[h]? = some ⟨ty, 1, nC b rs, 0⟩) (hR : ∀ j x, rs[j]? = some x → H[b + j]? = some (xL T e x)) : Pur true H (.sl h 0 rs.length) (xp (lsT T) rs) :=
  .slN hH (Or.inr ⟨rfl, rfl⟩) (Nat.succ_pos 0) (by simp [wH]) (by
    have := l6 (H := H) hR
    simpa [wH, List.take_of_length_le] using this)
theorem ws {ψ : List Nat} : ∀ {b b' : Nat} {rs : List (List α)}, (∀ j, j < rs.length → ψ[b + j]? = some (b' + j)) → Les ψ (nC b rs) (nC b' rs)
  | _, _, [], _ => zg
  | b, b', x :: xs, h => zZ (zj (h 0 (by simp)) rfl) (ws fun j hj => by
      have := h (j + 1) (by simp; omega)
      rw [show b + 1 + j = b + (j + 1) by omega, show b' + 1 + j = b' + (j + 1) by omega]
      exact this)
theorem w7 (hs : List Nat) (b n j : Nat) (h : j < n) : (hs ++ List.range' b n)[hs.length + j]? = some (b + j) := by
  rw [List.getElem?_append_right (Nat.le_add_right _ _), Nat.add_sub_cancel_left]
  simp [h]
theorem xG {hs : List Nat} {b n : Nat} (h1 : hs.Nodup) (h2 : ∀ h ∈ hs, h < b ∨ b + n ≤ h) : (hs ++ List.range' b n).Nodup := by
  rw [List.nodup_append]
  refine ⟨h1, List.nodup_range', fun x hx y hy => ?_⟩
  rw [List.mem_range'_1] at hy
  have := h2 x hx
  omega
theorem sP {H : List Reg} {hs : List Nat} {K1 : List Reg} {rs : List (List α)} {b : Nat} (hn : (hs ++ List.range' b rs.length).Nodup) (h1 : HLes (hs ++ List.range' b rs.length) H hs K1) (h2 : ∀ j x, rs[j]? = some x → H[b + j]? = some (xL T e x)) :
    HLe (hs ++ List.range' b rs.length) (K1 ++ nR T e rs) H := by
  obtain ⟨e1, e2⟩ := h1.get
  refine ⟨by simp [e1, nR], hn, fun i h hi => ?_⟩
  rcases Nat.lt_or_ge i hs.length with hlt | hge
  · rw [List.getElem?_append_left hlt] at hi
    obtain ⟨r, r', q1, q2, q3⟩ := e2 i h hi
    exact ⟨r, r', zh q1, q2, q3⟩
  · rw [List.getElem?_append_right hge] at hi
    have hlt : i - hs.length < rs.length := by
      have := (List.getElem?_eq_some_iff.1 hi).1
      simpa using this
    have hx := List.getElem?_eq_getElem hlt
    have hh : h = b + (i - hs.length) := by
      obtain ⟨_, q⟩ := List.getElem?_eq_some_iff.1 hi
      simp at q
      omega
    subst hh
    refine ⟨_, _, ?_, h2 _ _ hx, fun _ => ⟨rfl, rfl, rfl, zY (zJ T _)⟩⟩
    rw [List.getElem?_append_right (by omega), ← e1]
    exact xX hx
end
def uM (cs : List V) : Prop := ∀ c ∈ cs, (match c with | .k _ | .sl _ _ _ | .ptr _ _ | .any => true | _ => false) = true
theorem qD.flatS {cs : List V} (h : qD cs) : uM cs := fun c hc => by obtain ⟨v, rfl⟩ := h c hc; rfl
theorem sH {α : Type} : ∀ (b : Nat) (rs : List (List α)), uM (nC b rs)
  | _, [] => fun c hc => by cases hc
  | b, x :: xs => fun c hc => by
    rcases List.mem_cons.1 hc with rfl | hc
    · rfl
    · exact sH (b + 1) xs c hc
theorem qU {al : Bool} {r v : V} {K : List Reg} {S : St} (ψ : List Nat) (hfix : ∀ i, i < S.m → ψ[i]? = some i) (hH : HLe ψ K S.H) (hr : Le ψ r v)
    (hal : al = true ∨ (sR r = true ∧ ∀ q ∈ K, q.mode ≠ 1 ∧ (q.mode = 0 → uM q.cells))) : Out al r K v S := by
  intro C A φ w x hm hA hv
  obtain ⟨φ', h1, h2, h3, h4⟩ := hH.ok hA.ok
  have hown : ∀ h b, zz φ' K h b → C.w0.heap.size ≤ b ∨ ∃ h0, zz C.φ0 C.H0 h0 b := fun h b hl => by
    obtain ⟨h', hl'⟩ := h4 h b hl
    exact hA.own h' b hl'
  have hpre : ∀ (h : Nat) (hd : Hd), C.φ0[h]? = some hd → φ'[h]? = some hd := fun i hd hi =>
    h2 i i (hfix i (by rw [← hm]; exact (List.getElem?_eq_some_iff.1 hi).1)) hd (hA.pre i hd hi)
  rcases hal with hal | ⟨hf, hK⟩
  · exact ⟨φ', A, h3, Le.rel h2 hr hv, fun b hb => (hA.old b hb).imp (fun h => ⟨hal, h⟩) id, hown, hpre⟩
  · refine ⟨φ', fun _ => False, ⟨h3.len, fun h hd q q1 q2 q3 => ?_, h3.inj, fun _ _ _ h => h, fun h hd q b q1 q2 q3 q4 => absurd q3 (hK q (List.mem_of_getElem? q2)).1, fun _ h => h.elim⟩, pT hf (Le.rel h2 hr hv), fun _ h => h.elim, hown, hpre⟩
    obtain ⟨e1, e2⟩ := h3.regs h hd q q1 q2 q3
    have hq := hK q (List.mem_of_getElem? q2)
    refine ⟨e1, ?_⟩
    cases hb : hd.blk with
    | none => rw [hb] at e2; exact e2
    | some b =>
      rw [hb] at e2
      obtain ⟨c, k1, k2, k3, k4⟩ := e2
      have hs := hq.2 (by have := hq.1; omega)
      exact ⟨c, k1, k2, k3, v3 (fun c hc x hx => wU hx (by have := hs c hc; cases c <;> first | rfl | exact this)) k4⟩
section
variable {l : List V} {H : List Reg}
theorem kS {al : Bool} {t : Tmp} {v r : V} {K : List Reg} (ψ : List Nat) (hv : evO l (.tmp t) = some v) (hH : HLe ψ K H) (hr : Le ψ r v) (hal : al = true ∨ (sR r = true ∧ ∀ q ∈ K, q.mode ≠ 1 ∧ (q.mode = 0 → uM q.cells))) :
    (Exit.ret = .ret ∨ Exit.ret = .normal) ∧ Out al r K (vk ⟨l, H, 0⟩ [t]) ⟨l, H, 0⟩ := by
  have : vk ⟨l, H, 0⟩ [t] = v := vq (H := H) (m := 0) (x := .tmp t) hv
  rw [this]
  exact ⟨Or.inl rfl, qU ψ (fun i hi => absurd hi (Nat.not_lt_zero _)) hH hr hal⟩
inductive EqS : List V → List V → Prop where
  | nil : EqS [] []
  | any {d : V} {cs ds : List V} (h : EqS cs ds) : EqS (.any :: cs) (d :: ds)
  | same {c d : V} {cs ds : List V} (hc : d = c) (h : EqS cs ds) : EqS (c :: cs) (d :: ds)
theorem EqS.length : ∀ {cs ds : List V}, EqS cs ds → ds.length = cs.length
  | _, _, .nil => rfl
  | _, _, .any h => by simp [EqS.length h]
  | _, _, .same _ h => by simp [EqS.length h]
theorem EqS.rels {A : Nat → Prop} {w : World} {φ : List Hd} : ∀ {cs ds : List V} {g : Nat → Option Value}, EqS cs ds → zx A w φ ds g → zx A w φ cs g
  | _, _, g, .nil, h => h
  | _, _, g, .any hs, h => by
    rw [zx] at h ⊢
    obtain ⟨⟨y, h1, h2⟩, h3⟩ := h
    exact ⟨⟨y, h1, by simp [Rel]⟩, EqS.rels hs h3⟩
  | _, _, g, .same hc hs, h => by
    subst hc
    rw [zx] at h ⊢
    obtain ⟨h1, h3⟩ := h
    exact ⟨h1, EqS.rels hs h3⟩
theorem w4 {l' : List V} {H H' : List Reg} {m : Nat} (hH : H' = H) (ht : EqS l' l) : Sub ⟨l', H', m⟩ ⟨l, H, m⟩ := fun C φ a w hI => by
  subst hH
  obtain ⟨hm0, ⟨A, hA, hr⟩, hs, hd⟩ := hI
  exact ⟨φ, hm0, ⟨A, hA, EqS.rels ht hr⟩, hs.trans (EqS.length ht), hd⟩
end
theorem nF {i n : Nat} (h : i < n) (hn : n ≤ 1000000000000) : I (IntKind.i64.wrap ((i : Int) + 1)) = I ((i + 1 : Nat) : Int) := congrArg I (si h hn)
section
variable {P : Program} {o : Oper} {ρ : Operand → V} {H : List Reg}
end
end Go.Proofs.Ytojcojanokhnaaa.Ab
namespace Go.Proofs.Ytojcojanokhnaaa.Ab
open Go.RowKit
section
variable {α : Type} {T : Ty α} {e : TypeId}
theorem gh (n ty : Nat) (rs : List (List α)) : ((⟨ty, 1, nC 1 rs, 0⟩ :: nR T e rs : List Reg)).map (shR n) = ⟨ty, 1, nC (1 + n) rs, 0⟩ :: nR T e rs := by
  rw [List.map_cons, fe]
  simp only [shR, qN]
theorem lx {H D : List Reg} {rs : List (List α)} {b : Nat} {K0 : List Reg} (hb : b = K0.length) (hH : H = K0 ++ nR T e rs ++ D) : ∀ j x, rs[j]? = some x → H[b + j]? = some (xL T e x) := fun j x hx => by
  subst hb
  subst hH
  rw [List.append_assoc, List.getElem?_append_right (Nat.le_add_right _ _), Nat.add_sub_cancel_left]
  exact zh (xX hx)
end
section
variable {P : Program} {o : Oper} {ρ : Operand → V} {H : List Reg}
end
end Go.Proofs.Ytojcojanokhnaaa.Ab
namespace Go.Proofs.Ytojcojanokhnaaa.Ab
open Go.RowKit
structure Rw where
  a : Int
  b : Int
  c : Int
def rwE (r : Rw) : List V := [I r.a, I r.b, I r.c]
def rwT : Ty Rw := ⟨3, rwE, fun _ => rfl, by decide, fun r c hc => by
  simp only [rwE, List.mem_cons, List.not_mem_nil, or_false] at hc
  rcases hc with rfl | rfl | rfl <;> exact ⟨rfl, rfl⟩⟩
abbrev rwL (xs : List Rw) : V := xp rwT xs
abbrev rwR (xs : List Rw) : Reg := xL rwT 78 xs
def szL (n : Nat) (left : Int) : Int := cond (decide (IntKind.i64.wrap (left - n) < 0)) (-1) (IntKind.i64.wrap (left - n))
def z3 : Rw := ⟨0, 0, 0⟩
def eqC (x y : Rw) : Bool := bif !(decide (x.a = y.a)) then false else bif !(decide (x.b = y.b)) then false else bif !(decide (x.c = y.c)) then false else true
def eqL : List Rw → List Rw → Bool
  | [], [] => true
  | x :: xs, y :: ys => eqC x y && eqL xs ys
  | _, _ => false
theorem xg (xs : List Rw) : qD (rwT.flat xs) := fun c hc => by
  simp only [Ty.flat, List.mem_flatMap] at hc
  obtain ⟨x, _, hx⟩ := hc
  simp only [rwT, rwE, List.mem_cons, List.not_mem_nil, or_false] at hx
  rcases hx with rfl | rfl | rfl <;> exact ⟨_, rfl⟩
def kk (k : Int) : Nat → Int
  | 0 => k
  | n + 1 => IntKind.i64.wrap (kk k n + 1)
def mkRw (k : Int) (j : Nat) : Rw := ⟨kk k (3 * j), kk k (3 * j + 1), kk k (3 * j + 2)⟩
def mkC (k : Int) (xs : List Rw) (i : Nat) : List Rw := (List.range i).map (mkRw k) ++ xs.drop i
end Go.Proofs.Ytojcojanokhnaaa.Ab
namespace Go.Proofs.Ytojcojanokhnaaa.Ab
open Go.RowKit
section
variable {P : Program} {o : Oper} {ρ : Operand → V} {H : List Reg} {α : Type} {T : Ty α}
theorem mP {ty e b h hz zi : Nat} {s x : Operand} {outs : List (List α)} {n : Nat} [ht : Sl P ty e 1 b] (ho : o.op = .call { callee := .builtin .append, args := #[s, x], argTypes := #[ty, ty] })
    (hs : ρ s = .sl h 0 outs.length) (hH : H[h]? = some ⟨e, 1, nC 1 outs, 0⟩) (hx : ρ x = .sl hz 0 1) (hzz : H[hz]? = some ⟨e, 1, [.sl zi 0 n], 0⟩) (hb : (outs.length + 1) * b ≤ 140737488355328) (hbp : decide (0 < b) = true) :
    z7 P o ρ H (.sl H.length 0 (outs.length + 1)) (H.set h ⟨e, 1, nC 1 outs, 2⟩ ++ [⟨e, 1, nC 1 outs ++ [.sl zi 0 n], 0⟩]) := by
  have hb0 : 0 < b := of_decide_eq_true hbp
  have hsrc : Src H (ρ x) 1 [.sl zi 0 n] := by
    rw [hx]
    have := Src.sl (H := H) (off := 0) (m := 1) (r := ⟨e, 1, [.sl zi 0 n], 0⟩) hzz (Nat.zero_le _) (Nat.le_refl _)
    exact this
  have := ww (P := P) (ρ := ρ) (ty := ty) (m := 1) ho hs hH rfl rfl rfl (by show outs.length * 1 ≤ (nC 1 outs).length; rw [wH]; omega) hsrc rfl (fun c hc => by simp at hc; subst hc; rfl) hb (by
    have := Nat.le_mul_of_pos_right (outs.length + 1) hb0
    simp only [maxLen]
    omega)
  have e1 : (⟨e, 1, nC 1 outs, 0⟩ : Reg).cells.take (outs.length * 1) = nC 1 outs := by
    show (nC 1 outs).take _ = _
    rw [List.take_of_length_le]
    rw [wH]; omega
  rw [e1] at this
  exact this
theorem gi (b : Nat) (outs : List (List α)) (z : List α) : nC b (outs ++ [z]) = nC b outs ++ [.sl (b + outs.length) 0 z.length] := by
  rw [s4]; rfl
theorem kM {outs : List (List α)} {z : List α} {e i zi ty : Nat} (hO : H[i]? = some ⟨ty, 1, nC 1 outs ++ [.sl zi 0 z.length], 0⟩) (hz : H[zi]? = some (xL T e z)) (hR : ∀ j x, outs[j]? = some x → H[1 + j]? = some (xL T e x))
    (h1 : outs.length < zi) (h2 : outs.length < i) (h3 : i ≠ zi) : HLe (i :: (List.range' 1 outs.length ++ [zi])) (⟨ty, 1, nC 1 (outs ++ [z]), 0⟩ :: nR T e (outs ++ [z])) H := by
  have hrl : (List.range' 1 outs.length).length = outs.length := by simp
  refine ⟨by simp [zm], ?_, fun k h hk => ?_⟩
  · rw [List.nodup_cons, List.nodup_append]
    refine ⟨?_, List.nodup_range', by simp, fun a ha c hc => ?_⟩
    · rw [List.mem_append, List.mem_range'_1, List.mem_singleton]
      omega
    · rw [List.mem_range'_1] at ha
      simp at hc
      omega
  · cases k with
    | zero =>
      simp at hk
      subst hk
      refine ⟨_, _, rfl, hO, fun _ => ⟨rfl, rfl, rfl, ?_⟩⟩
      show Les _ (nC 1 (outs ++ [z])) (nC 1 outs ++ [.sl zi 0 z.length])
      have hl : ∀ (b n m : Nat) (A : List (List α)), (∀ j, j < A.length → (i :: (List.range' 1 outs.length ++ [zi]))[b + j]? = some (b + j)) → (i :: (List.range' 1 outs.length ++ [zi]))[b + A.length]? = some zi →
          Les (i :: (List.range' 1 outs.length ++ [zi])) (nC b A ++ [.sl (b + A.length) 0 z.length]) (nC b A ++ [.sl zi 0 z.length]) := fun b n m A => by
        induction A generalizing b with
        | nil => exact fun _ h => zZ (zj h rfl) zg
        | cons x A ih => exact fun h hzz => zZ (zj (h 0 (by simp)) rfl) (by
            have := ih (b + 1) (fun j hj => by have := h (j + 1) (by simp; omega); rw [show b + 1 + j = b + (j + 1) by omega]; exact this) (by rw [show b + 1 + A.length = b + (x :: A).length by simp; omega]; exact hzz)
            rw [show b + (x :: A).length = b + 1 + A.length by simp; omega]
            exact this)
      rw [gi]
      refine hl 1 0 0 outs (fun j hj => ?_) ?_
      · rw [Nat.add_comm 1 j, List.getElem?_cons_succ, List.getElem?_append_left (by rw [hrl]; exact hj)]
        simp [hj]; omega
      · rw [Nat.add_comm 1, List.getElem?_cons_succ, List.getElem?_append_right (by rw [hrl]; exact Nat.le_refl _), hrl, Nat.sub_self]; rfl
    | succ k =>
      rw [List.getElem?_cons_succ] at hk
      rcases Nat.lt_or_ge k outs.length with hlt | hge
      · rw [List.getElem?_append_left (by rw [hrl]; exact hlt)] at hk
        have hh : h = 1 + k := by
          obtain ⟨_, q⟩ := List.getElem?_eq_some_iff.1 hk
          simp at q
          omega
        subst hh
        have hx := List.getElem?_eq_getElem hlt
        refine ⟨_, _, ?_, hR _ _ hx, fun _ => ⟨rfl, rfl, rfl, zY (zJ T _)⟩⟩
        rw [List.getElem?_cons_succ]
        exact xX (by rw [List.getElem?_append_left hlt]; exact hx)
      · rw [List.getElem?_append_right (by rw [hrl]; exact hge), hrl] at hk
        have hk0 : k - outs.length = 0 := by
          have := (List.getElem?_eq_some_iff.1 hk).1
          simp at this
          exact this
        rw [hk0] at hk
        simp at hk
        subst hk
        refine ⟨_, _, ?_, hz, fun _ => ⟨rfl, rfl, rfl, zY (zJ T _)⟩⟩
        rw [List.getElem?_cons_succ]
        exact xX (by rw [List.getElem?_append_right hge, hk0]; rfl)
end
section
variable {P : Program} {ops : Array Oper} {ds : List Nat} {k : Nat} {Q : Exit → St → Prop} {S : St}
theorem sO {d : Option Tmp} {t : TypeId} {n : Nat} {els : Array (Nat × Operand)} {ty : TypeId} {p : String} {a : Array Edge} {g : Option (Nat × Bool)} (ho : ops[k]? = some ⟨d, .buildSlice t n els, ty, p, a, g⟩) (h : ALex P ops ds k Q S) : ALex P ops ds k Q S := h
end
end Go.Proofs.Ytojcojanokhnaaa.Ab
namespace Go.Proofs.Ytojcojanokhnaaa.Ab
open Go.RowKit
def pkV (zs : List Int) (c : Cur) : Int := (zs[(beV zs.length c).toNat]?).getD 0
theorem wg (zs : List Int) (c : Cur) (hl : c.code.length ≤ 1000000000) (h0 : 0 < zs.length) : zy Go.Proofs.Try.prog 111 [.ptr 0 0, .lst zs.length (zs.map I)] [xT c] (I (pkV zs c)) [xT (beC zs.length c)] true := by
  obtain ⟨r0, r1⟩ := wl (n := zs.length) (by omega) c
  refine er _ _ _ c hl h0 ?_
  have hlt : (beV zs.length c).toNat < zs.length := by omega
  rw [List.getElem?_map, pkV, List.getElem?_eq_getElem hlt]
  rfl
theorem eS {l : List V} {H : List Reg} {t : Tmp} {n : Nat} {v r : V} {K : Reg} (hv : CellIs l H t n v) (hr : Le [0] r v) (hH : HLes [0] H [0] [K]) :
    (Exit.ret = .ret ∨ Exit.ret = .normal) ∧ ∃ v, CellIs l H t n v ∧ Out true r [K] v ⟨l, H, 1⟩ := ⟨Or.inl rfl, v, hv, vm (S := ⟨l, H, 1⟩) [0] yZ (wX (by decide) hH) hr (Or.inl rfl)⟩
def xy (keys : Int) (c : Cur) : Rw × Cur := (⟨beV keys c, beV 100 (beC keys c), pkV [0, 0, 1, 2, 3] (beC 100 (beC keys c))⟩, beC 5 (beC 100 (beC keys c)))
theorem sy (keys : Int) (c : Cur) : (xy keys c).2.code = c.code := by
  show (beC 5 (beC 100 (beC keys c))).code = _
  rw [y5, y5, y5]
theorem jp (keys : Int) (c : Cur) (hl : c.code.length ≤ 1000000000) : zy Go.Proofs.Try.prog 112 [.ptr 0 0, I keys] [xT c] (.agg (rwE (xy keys c).1)) [xT (xy keys c).2] true := by
  have h1 : (beC keys c).code.length ≤ 1000000000 := by rw [y5]; exact hl
  have h2 : (beC 100 (beC keys c)).code.length ≤ 1000000000 := by rw [y5]; exact h1
  refine xo 4 78 Go.Proofs.Try.func112 rfl rfl ?_
  simp only [Go.Proofs.Try.ntmps112, List.length_cons, List.length_nil, Nat.reduceAdd, Nat.reduceSub, List.replicate_succ, List.replicate_zero, List.cons_append, List.nil_append]
  repeat' first | (refine isA ?_; refine zc rfl (yN rfl rfl rfl rfl rfl) rfl ?_) | refine zK ?_ | refine zA ?_ | refine zL [] ?_ | (refine isA ?_; refine zf rfl ?_) | (refine isL ?_; refine zU rfl (by kernel_rfl) rfl rfl ?_) | (refine zb rfl ?_; refine zT rfl (by kernel_rfl) rfl rfl ?_) | (refine zu 100 (x := #[.tmp 5, .tmp 6]) ?_; refine zc rfl (zn (K := []) (Rs' := [_]) [0] (by decide) rfl (xK keys c hl) (.cons rfl rfl rfl (zk _) (zk _) .nil) (.cons (.ptr rfl) (.cons (.same rfl) .nil)) (fun q hq => by cases hq) rfl) rfl ?_) | (refine zv 100 (x := #[.tmp 5, .tmp 6]) rfl ?_; refine zX rfl (by kernel_rfl) rfl (zn (K := []) (Rs' := [_]) [0] (by decide) rfl (xK keys c hl) (.cons rfl rfl rfl (zk _) (zk _) .nil) (.cons (.ptr rfl) (.cons (.same rfl) .nil)) (fun q hq => by cases hq) rfl) rfl ?_) | (refine zu 100 ?_; refine zc rfl (zn (K := []) (Rs' := [_]) [0] (by decide) rfl (xK 100 (beC keys c) h1) (.cons rfl rfl rfl (zk _) (zk _) .nil) (.cons (.ptr rfl) (.cons (.same rfl) .nil)) (fun q hq => by cases hq) rfl) rfl ?_) | (refine zv 100 rfl ?_; refine zX rfl (by kernel_rfl) rfl (zn (K := []) (Rs' := [_]) [0] (by decide) rfl (xK 100 (beC keys c) h1) (.cons rfl rfl rfl (zk _) (zk _) .nil) (.cons (.ptr rfl) (.cons (.same rfl) .nil)) (fun q hq => by cases hq) rfl) rfl ?_) | (refine zu 111 ?_; refine zc rfl (zn (K := []) (Rs' := [_]) [0] (by decide) rfl (wg [0, 0, 1, 2, 3] (beC 100 (beC keys c)) h2 (by decide)) (.cons rfl rfl rfl (zk _) (zk _) .nil) (.cons (.ptr rfl) (.cons (.same rfl) .nil)) (fun q hq => by cases hq) rfl) rfl ?_) | (refine zv 111 rfl ?_; refine zX rfl (by kernel_rfl) rfl (zn (K := []) (Rs' := [_]) [0] (by decide) rfl (wg [0, 0, 1, 2, 3] (beC 100 (beC keys c)) h2 (by decide)) (.cons rfl rfl rfl (zk _) (zk _) .nil) (.cons (.ptr rfl) (.cons (.same rfl) .nil)) (fun q hq => by cases hq) rfl) rfl ?_) | exact eS (yS rfl rfl rfl rfl rfl) (le_refl rfl) (.cons rfl rfl rfl rfl (zY (zk _)) .nil) | refine zD ?_ | refine zB _ rfl (by kernel_rfl) ?_ | refine zV rfl ?_ | refine zW rfl ?_ | refine zC ?_ | with_reducible refine zO ?_ | refine zH ?_ | refine zI ?_ | (with_reducible first | refine zM ?_ | refine zN ?_ | refine zE ?_ | refine zG ?_ | refine zF ?_) | refine zP ?_
def xx (keys : Int) (c : Cur) : Nat → List Rw × Cur
  | 0 => ([], c)
  | i + 1 => ((xx keys c i).1 ++ [(xy keys (xx keys c i).2).1], (xy keys (xx keys c i).2).2)
theorem u5 (keys : Int) (c : Cur) : ∀ i, (xx keys c i).1.length = i
  | 0 => rfl
  | i + 1 => by rw [xx, List.length_append, u5 keys c i]; rfl
theorem uN (keys : Int) (c : Cur) : ∀ i, (xx keys c i).2.code = c.code
  | 0 => rfl
  | i + 1 => by rw [xx, sy, uN keys c i]
def yp (most : Int) (c : Cur) : List Rw × Cur := xx (pkV [1, 2, 4, 10] c) (beC (IntKind.i64.wrap (most + 1)) (beC 4 c)) (beV (IntKind.i64.wrap (most + 1)) (beC 4 c)).toNat
theorem t9 (most : Int) (c : Cur) : (yp most c).2.code = c.code := by rw [yp, uN, y5, y5]
theorem sx {most : Int} (h0 : 0 ≤ most) (h1 : most ≤ 1000) (c : Cur) : ((yp most c).1.length : Int) ≤ most := by
  have e : IntKind.i64.wrap (most + 1) = most + 1 := by rw [IntKind.wrap_i64]; omega
  rw [yp, u5, e]
  have := wl (n := most + 1) (by omega) (beC 4 c)
  omega
theorem eo (most : Int) (m0 : 0 ≤ most) (m1 : most ≤ 1000) (c : Cur) (hl : c.code.length ≤ 1000000000) : zy Go.Proofs.Try.prog 110 [.ptr 0 0, I most] [xT c] (.sl 1 0 (yp most c).1.length) [xT (yp most c).2, rwR (yp most c).1] true := by
  have h1 : (beC 4 c).code.length ≤ 1000000000 := by rw [y5]; exact hl
  have e : IntKind.i64.wrap (most + 1) = most + 1 := by rw [IntKind.wrap_i64]; omega
  obtain ⟨r0, r1⟩ := wl (n := IntKind.i64.wrap (most + 1)) (by omega) (beC 4 c)
  obtain ⟨k, hk⟩ : ∃ k : Nat, beV (IntKind.i64.wrap (most + 1)) (beC 4 c) = k := ⟨(beV (IntKind.i64.wrap (most + 1)) (beC 4 c)).toNat, by omega⟩
  have hkl : k ≤ 1000 := by omega
  refine zw [4] Go.Proofs.Try.func110 rfl rfl ?_
  simp only [Go.Proofs.Try.ntmps110, List.length_cons, List.length_nil, Nat.reduceAdd, Nat.reduceSub, List.replicate_succ, List.replicate_zero, List.cons_append, List.nil_append]
  repeat' first | (refine isA ?_; refine zc rfl (yN (cs := [1, 2, 4, 10].map I) rfl rfl rfl rfl rfl) rfl ?_) | refine zK ?_ | refine zA ?_ | refine zL [] ?_ | (refine isA ?_; refine zf rfl ?_) | (refine isL ?_; refine zU rfl (by kernel_rfl) rfl rfl ?_) | (refine zb rfl ?_; refine zT rfl (by kernel_rfl) rfl rfl ?_) | (refine zu 111 ?_; refine zc rfl (zn (K := []) (Rs' := [_]) [0] (by decide) rfl (wg [1, 2, 4, 10] c hl (by decide)) (.cons rfl rfl rfl (zk _) (zk _) .nil) (.cons (.ptr rfl) (.cons (.same rfl) .nil)) (fun q hq => by cases hq) rfl) rfl ?_) | (refine zv 111 rfl ?_; refine zX rfl (by kernel_rfl) rfl (zn (K := []) (Rs' := [_]) [0] (by decide) rfl (wg [1, 2, 4, 10] c hl (by decide)) (.cons rfl rfl rfl (zk _) (zk _) .nil) (.cons (.ptr rfl) (.cons (.same rfl) .nil)) (fun q hq => by cases hq) rfl) rfl ?_) | (refine zu 100 ?_; refine zc rfl (zn (K := []) (Rs' := [_]) [0] (by decide) rfl (xK (IntKind.i64.wrap (most + 1)) (beC 4 c) h1) (.cons rfl rfl rfl (zk _) (zk _) .nil) (.cons (.ptr rfl) (.cons (.same rfl) .nil)) (fun q hq => by cases hq) rfl) rfl ?_) | (refine zv 100 rfl ?_; refine zX rfl (by kernel_rfl) rfl (zn (K := []) (Rs' := [_]) [0] (by decide) rfl (xK (IntKind.i64.wrap (most + 1)) (beC 4 c) h1) (.cons rfl rfl rfl (zk _) (zk _) .nil) (.cons (.ptr rfl) (.cons (.same rfl) .nil)) (fun q hq => by cases hq) rfl) rfl ?_) | refine zD ?_ | refine zB _ rfl (by kernel_rfl) ?_ | refine zV rfl ?_ | refine zW rfl ?_ | refine zC ?_ | with_reducible refine zO ?_ | refine zH ?_ | refine zI ?_ | (with_reducible first | refine zM ?_ | refine zN ?_ | refine zE ?_ | refine zG ?_ | refine zF ?_) | refine zP ?_
  have hq : (beC (IntKind.i64.wrap (most + 1)) (beC 4 c)).code.length ≤ 1000000000 := by rw [y5]; exact h1
  have hD : yp most c = xx (pkV [1, 2, 4, 10] c) (beC (IntKind.i64.wrap (most + 1)) (beC 4 c)) k := by rw [yp, hk]; rfl
  rw [hD, hk]
  generalize hQ : pkV [1, 2, 4, 10] c = q
  generalize hE : beC (IntKind.i64.wrap (most + 1)) (beC 4 c) = d at hq
  refine z9 (α := { j : Nat // j ≤ k }) (fun j => ⟨[.ptr 0 0, .any, .any, .any, .any, .sl 1 0 (xx q d j.1).1.length, I q, I ((k : Int) - j.1), .any, .any, .any, .any, .any, .any, .any, .any, .any, .any, .any, .any, .any, .any, .any, .any, .any, .any, .any], [xT (xx q d j.1).2, rwR (xx q d j.1).1], 1⟩) (fun j => k - j.1) ⟨0, Nat.zero_le _⟩ ?_ ?_
  · refine yy 1 [0, 1] rfl rfl yZ (by decide) (.cons rfl rfl rfl rfl (zY (zk _)) (.cons rfl rfl rfl rfl (z6 rfl) .nil)) (by
      repeat' first | exact zg | refine zZ ?_ ?_ | exact zo | exact le_refl rfl | exact zt rfl | exact zj rfl rfl | exact z8 (congrArg _ (by simp)))
  · rintro ⟨j, hj⟩
    have hcl : (xx q d j).2.code.length ≤ 1000000000 := by rw [uN]; exact hq
    have hol := u5 q d j
    repeat' first | refine zK ?_ | refine zA ?_ | refine zL [] ?_ | (refine isA ?_; refine zf rfl ?_) | (refine isL ?_; refine zU rfl (by kernel_rfl) rfl rfl ?_) | (refine zb rfl ?_; refine zT rfl (by kernel_rfl) rfl rfl ?_) | refine zD ?_ | refine zB _ rfl (by kernel_rfl) ?_ | refine zV rfl ?_ | refine zW rfl ?_ | refine zC ?_ | with_reducible refine zO ?_ | refine zH ?_ | refine zI ?_ | (with_reducible first | refine zM ?_ | refine zN ?_ | refine zE ?_ | refine zG ?_ | refine zF ?_) | refine zP ?_
    refine zd rfl (fun h => ?_) (fun h => ?_)
    · have hlt : j < k := by have := of_decide_eq_true h; simp only at this; omega
      repeat' first | (refine isA ?_; refine zc rfl (yN rfl rfl rfl rfl rfl) rfl ?_) | refine zK ?_ | refine zA ?_ | refine zL [] ?_ | (refine isA ?_; refine zf rfl ?_) | (refine isL ?_; refine zU rfl (by kernel_rfl) rfl rfl ?_) | (refine zb rfl ?_; refine zT rfl (by kernel_rfl) rfl rfl ?_) | (refine zu 112 ?_; refine zc rfl (zn (K := []) (Rs' := [_]) [0] (by decide) rfl (jp q (xx q d j).2 hcl) (.cons rfl rfl rfl (zk _) (zk _) .nil) (.cons (.ptr rfl) (.cons (.same rfl) .nil)) (fun q hq => by cases hq) rfl) rfl ?_) | (refine zv 112 rfl ?_; refine zX rfl (by kernel_rfl) rfl (zn (K := []) (Rs' := [_]) [0] (by decide) rfl (jp q (xx q d j).2 hcl) (.cons rfl rfl rfl (zk _) (zk _) .nil) (.cons (.ptr rfl) (.cons (.same rfl) .nil)) (fun q hq => by cases hq) rfl) rfl ?_) | (refine xU ?_; refine zc rfl (yX (t := rwT) (xs := (xx q d j).1) (ys := [(xy q (xx q d j).2).1]) rfl rfl rfl rfl (.lst _ _) (by rw [hol]; simp; omega) rfl) rfl ?_) | (refine y9 rfl ?_; refine zX rfl (by kernel_rfl) rfl (yX (t := rwT) (xs := (xx q d j).1) (ys := [(xy q (xx q d j).2).1]) rfl rfl rfl rfl (.lst _ _) (by rw [hol]; simp; omega) rfl) rfl ?_) | refine zD ?_ | refine zB _ rfl (by kernel_rfl) ?_ | refine zV rfl ?_ | refine zW rfl ?_ | refine zC ?_ | with_reducible refine zO ?_ | refine zH ?_ | refine zI ?_ | (with_reducible first | refine zM ?_ | refine zN ?_ | refine zE ?_ | refine zG ?_ | refine zF ?_) | refine zP ?_
      refine ⟨⟨j + 1, hlt⟩, by simp only; omega, ?_⟩
      exact yy 1 [0, 2] rfl rfl yZ (by decide) (.cons rfl rfl rfl rfl (zY (zk _)) (.cons rfl rfl rfl rfl (zY (zJ _ _)) .nil)) (by
        repeat' first | exact zg | refine zZ ?_ ?_ | exact zo | exact le_refl rfl | exact zt rfl | exact zj rfl rfl | exact z8 (congrArg _ (show (k : Int) - ((j + 1 : Nat) : Int) = IntKind.i64.wrap ((k : Int) - (j : Int) - 1) by rw [IntKind.wrap_i64]; omega)))
    · have hge : j = k := by have := of_decide_eq_false h; simp only at this; omega
      subst hge
      repeat' first | refine zK ?_ | refine zA ?_ | refine zL [] ?_ | (refine isA ?_; refine zf rfl ?_) | (refine isL ?_; refine zU rfl (by kernel_rfl) rfl rfl ?_) | (refine zb rfl ?_; refine zT rfl (by kernel_rfl) rfl rfl ?_) | exact tH 1 [0, 1] yZ (by decide) rfl (zj rfl rfl) (.cons rfl rfl rfl rfl (zY (zk _)) (.cons rfl rfl rfl rfl (zY (zJ _ _)) .nil)) | refine zD ?_ | refine zB _ rfl (by kernel_rfl) ?_ | refine zV rfl ?_ | refine zW rfl ?_ | refine zC ?_ | with_reducible refine zO ?_ | refine zH ?_ | refine zI ?_ | (with_reducible first | refine zM ?_ | refine zN ?_ | refine zE ?_ | refine zG ?_ | refine zF ?_) | refine zP ?_
def anyD (c : Cur) : Rw × Cur :=
  cond (decide (beV 8 (xy 10 c).2 = 0)) (⟨pkV [-1, 10] (beC 8 (xy 10 c).2), (xy 10 c).1.b, (xy 10 c).1.c⟩, beC 2 (beC 8 (xy 10 c).2))
    (cond (decide (beV 8 (xy 10 c).2 = 1)) (⟨(xy 10 c).1.a, pkV [-1, 100, 99] (beC 8 (xy 10 c).2), (xy 10 c).1.c⟩, beC 3 (beC 8 (xy 10 c).2))
      (cond (decide (beV 8 (xy 10 c).2 = 2)) (⟨(xy 10 c).1.a, (xy 10 c).1.b, pkV [-1, 4] (beC 8 (xy 10 c).2)⟩, beC 2 (beC 8 (xy 10 c).2)) ((xy 10 c).1, beC 8 (xy 10 c).2)))
def bentD (most : Int) (c : Cur) : List Rw × Cur :=
  cond (decide (beV 14 (yp most c).2 = 0)) ((yp most c).1 ++ [(anyD (beC 14 (yp most c).2)).1], (anyD (beC 14 (yp most c).2)).2) ((yp most c).1, beC 14 (yp most c).2)
end Go.Proofs.Ytojcojanokhnaaa.Ab
namespace Go.Proofs.Ytojcojanokhnaaa.Ab
open Go.RowKit
abbrev Rn := List Rw
abbrev rnT : Ty Rn := lsT rwT
abbrev rnL (rs : List Rn) : V := xp rnT rs
abbrev rnN (rs : List Rn) : List Reg := ⟨84, 1, nC 1 rs, 0⟩ :: nR rwT 78 rs
def tZ (rs : List Rn) : Prop := rs.length ≤ 1000000000 ∧ ∀ x ∈ rs, x.length ≤ 1000000000
theorem tZ.at {rs : List Rn} (h : tZ rs) {i : Nat} {x : Rn} (hx : rs[i]? = some x) : x.length ≤ 1000000000 := h.2 x (List.mem_of_getElem? hx)
def szG : List Rn → Int → Int
  | [], l => l
  | x :: xs, l => cond (decide (szL x.length l < 0)) (-1) (szG xs (szL x.length l))
def szR (rs : List Rn) (l : Int) : Int := cond (decide (IntKind.i64.wrap (l - rs.length) < 0)) (-1) (szG rs (IntKind.i64.wrap (l - rs.length)))
theorem nm : ∀ {l : List Nat} {x : Nat}, x ∈ l → x ≤ l.sum
  | a :: l, x, h => by
    rw [List.sum_cons]
    rcases List.mem_cons.1 h with rfl | h
    · omega
    · have := nm h; omega
def tot (rs : List Rn) : Nat := (rs.map List.length).sum
abbrev wq : V := .k (.slice none 0 0)
theorem yo {α : Type} {rs : List α} {i : Nat} {z : α} (hz : rs[i]? = some z) : rs.take (i + 1) = rs.take i ++ [z] := by
  rw [List.take_add_one, hz]; rfl
end Go.Proofs.Ytojcojanokhnaaa.Ab
namespace Go.Proofs.Ytojcojanokhnaaa.Ab
open Go.RowKit
theorem yE {α : Type} {rs : List α} {i : Nat} {z : α} (hz : rs[i]? = some z) : rs.drop i = z :: rs.drop (i + 1) := by
  obtain ⟨h, e⟩ := List.getElem?_eq_some_iff.1 hz
  rw [List.drop_eq_getElem_cons h, e]
theorem gl (rs : List Rn) : HLe ([0] ++ List.range' 1 rs.length) (rnN rs) (rnN rs) :=
  sP (K1 := [⟨84, 1, nC 1 rs, 0⟩]) (xG (by simp) (by simp)) (.cons rfl rfl rfl rfl (ws fun j hj => w7 [0] 1 rs.length j hj) .nil) (fun j x hx => by rw [Nat.add_comm]; exact xX hx)
theorem mm (rs : List Rn) : ∀ q ∈ rnN rs, q.mode ≠ 1 ∧ (q.mode = 0 → uM q.cells) := fun q hq => by
  rcases List.mem_cons.1 hq with rfl | hq
  · exact ⟨Nat.zero_ne_one, fun _ => sH 1 rs⟩
  · obtain ⟨x, _, rfl⟩ := List.mem_map.1 hq
    exact ⟨Nat.zero_ne_one, fun _ => (xg x).flatS⟩
theorem to {rs : List Rn} {i : Nat} {z : Rn} (hz : rs[i]? = some z) : tot (rs.take (i + 1)) = tot (rs.take i) + z.length := by
  rw [yo hz]
  simp [tot]
theorem pq (rs : List Rn) (i : Nat) : tot (rs.take i) ≤ tot rs := by
  have : tot rs = tot (rs.take i ++ rs.drop i) := by rw [List.take_append_drop]
  rw [this]
  simp only [tot, List.map_append, List.sum_append]
  omega
def eK : Int → List Rn → List Rn
  | _, [] => []
  | k, x :: xs => mkC k x x.length :: eK (kk k (3 * x.length)) xs
def mid (k : Int) (rs : List Rn) (i : Nat) : List Rn := eK k (rs.take i) ++ rs.drop i
end Go.Proofs.Ytojcojanokhnaaa.Ab
namespace Go.Proofs.Ytojcojanokhnaaa.Ab
open Go.RowKit
def inV (x lo hi : Int) : Bool := decide (lo ≤ x) && decide (x ≤ hi)
theorem vT (x lo hi : Int) : zy Go.Proofs.Try.prog 66 [I x, I lo, I hi] [] (B (inV x lo hi)) [] false := by
  refine zw [6] Go.Proofs.Try.func66 rfl rfl ?_
  simp only [Go.Proofs.Try.ntmps66, List.length_cons, List.length_nil, Nat.reduceAdd, Nat.reduceSub, List.replicate_succ, List.replicate_zero, List.cons_append, List.nil_append]
  repeat' first | refine zK ?_ | refine zA ?_ | refine zL [] ?_ | (refine isA ?_; refine zf rfl ?_) | (refine isL ?_; refine zU rfl (by kernel_rfl) rfl rfl ?_) | (refine zb rfl ?_; refine zT rfl (by kernel_rfl) rfl rfl ?_) | exact yK rfl rfl (by first | ((try simp only [Bool.not_eq_true', Bool.not_eq_false'] at *); simp only [inV, *, Bool.true_and, Bool.false_and, Bool.and_true, Bool.and_false, Bool.true_or, Bool.false_or, Bool.or_true, Bool.or_false, Bool.not_true, Bool.not_false, cond_true, cond_false]; done) | (simp_all [inV]; done) | (simp_all [inV]; intros; omega)) | refine zD ?_ | refine zB _ rfl (by kernel_rfl) ?_ | refine zV rfl ?_ | refine zW rfl ?_ | refine zC ?_ | with_reducible refine zO ?_ | refine zH ?_ | refine zI ?_ | (with_reducible first | refine zM ?_ | refine zN ?_ | refine zE ?_ | refine zG ?_ | refine zF ?_) | refine zP ?_ | (refine wB ?_; refine yW rfl rfl (fun hbr => ?_) (fun hbr => ?_) <;> (fail_if_success (with_reducible (have hx : true = true := hbr))) <;> (fail_if_success (with_reducible (have hx : false = false := hbr)))) | (refine zb rfl ?_; refine yI rfl rfl rfl rfl (fun hbr => ?_) (fun hbr => ?_) <;> (fail_if_success (with_reducible (have hx : true = true := hbr))) <;> (fail_if_success (with_reducible (have hx : false = false := hbr))))
theorem xe (x lo hi : Int) : zy Go.Proofs.Try.prog 75 [I x, I lo, I hi] [] (B (inV x lo hi)) [] false := by
  refine zw [6] Go.Proofs.Try.func75 rfl rfl ?_
  simp only [Go.Proofs.Try.ntmps75, List.length_cons, List.length_nil, Nat.reduceAdd, Nat.reduceSub, List.replicate_succ, List.replicate_zero, List.cons_append, List.nil_append]
  repeat' first | refine zK ?_ | refine zA ?_ | refine zL [] ?_ | (refine isA ?_; refine zf rfl ?_) | (refine isL ?_; refine zU rfl (by kernel_rfl) rfl rfl ?_) | (refine zb rfl ?_; refine zT rfl (by kernel_rfl) rfl rfl ?_) | exact yK rfl rfl (by first | ((try simp only [Bool.not_eq_true', Bool.not_eq_false'] at *); simp only [inV, *, Bool.true_and, Bool.false_and, Bool.and_true, Bool.and_false, Bool.true_or, Bool.false_or, Bool.or_true, Bool.or_false, Bool.not_true, Bool.not_false, cond_true, cond_false]; done) | (simp_all [inV]; done) | (simp_all [inV]; intros; omega)) | refine zD ?_ | refine zB _ rfl (by kernel_rfl) ?_ | refine zV rfl ?_ | refine zW rfl ?_ | refine zC ?_ | with_reducible refine zO ?_ | refine zH ?_ | refine zI ?_ | (with_reducible first | refine zM ?_ | refine zN ?_ | refine zE ?_ | refine zG ?_ | refine zF ?_) | refine zP ?_ | (refine wB ?_; refine yW rfl rfl (fun hbr => ?_) (fun hbr => ?_) <;> (fail_if_success (with_reducible (have hx : true = true := hbr))) <;> (fail_if_success (with_reducible (have hx : false = false := hbr)))) | (refine zb rfl ?_; refine yI rfl rfl rfl rfl (fun hbr => ?_) (fun hbr => ?_) <;> (fail_if_success (with_reducible (have hx : true = true := hbr))) <;> (fail_if_success (with_reducible (have hx : false = false := hbr))))
def vRw (x : Rw) : Bool := inV x.a 0 9 && (inV x.b 0 99 && inV x.c 0 3)
theorem th (x : Rw) : zy Go.Proofs.Try.prog 99 [.agg (rwE x)] [] (B (vRw x)) [] false := by
  refine zw [2] Go.Proofs.Try.func99 rfl rfl ?_
  simp only [Go.Proofs.Try.ntmps99, List.length_cons, List.length_nil, Nat.reduceAdd, Nat.reduceSub, List.replicate_succ, List.replicate_zero, List.cons_append, List.nil_append]
  repeat' first | refine zK ?_ | refine zA ?_ | refine zL [] ?_ | (refine isA ?_; refine zf rfl ?_) | (refine isL ?_; refine zU rfl (by kernel_rfl) rfl rfl ?_) | (refine zb rfl ?_; refine zT rfl (by kernel_rfl) rfl rfl ?_) | (refine zu 66 ?_; refine zc rfl (zQ rfl (vT _ _ _) (.cons (.same rfl) (.cons (.same rfl) (.cons (.same rfl) .nil))) rfl) rfl ?_) | (refine zv 66 rfl ?_; refine zX rfl (by kernel_rfl) rfl (zQ rfl (vT _ _ _) (.cons (.same rfl) (.cons (.same rfl) (.cons (.same rfl) .nil))) rfl) rfl ?_) | exact yK rfl rfl (by first | ((try simp only [Bool.not_eq_true', Bool.not_eq_false'] at *); simp only [vRw, *, Bool.true_and, Bool.false_and, Bool.and_true, Bool.and_false, Bool.true_or, Bool.false_or, Bool.or_true, Bool.or_false, Bool.not_true, Bool.not_false, cond_true, cond_false]; done) | (simp_all [vRw]; done) | (simp_all [vRw]; intros; omega)) | refine zD ?_ | refine zB _ rfl (by kernel_rfl) ?_ | refine zV rfl ?_ | refine zW rfl ?_ | refine zC ?_ | with_reducible refine zO ?_ | refine zH ?_ | refine zI ?_ | (with_reducible first | refine zM ?_ | refine zN ?_ | refine zE ?_ | refine zG ?_ | refine zF ?_) | refine zP ?_ | (refine wB ?_; refine yW rfl rfl (fun hbr => ?_) (fun hbr => ?_) <;> (fail_if_success (with_reducible (have hx : true = true := hbr))) <;> (fail_if_success (with_reducible (have hx : false = false := hbr)))) | (refine zb rfl ?_; refine yI rfl rfl rfl rfl (fun hbr => ?_) (fun hbr => ?_) <;> (fail_if_success (with_reducible (have hx : true = true := hbr))) <;> (fail_if_success (with_reducible (have hx : false = false := hbr))))
theorem tj (x : Rw) : zy Go.Proofs.Try.prog 116 [.agg (rwE x)] [] (B (vRw x)) [] false := by
  refine zw [2] Go.Proofs.Try.func116 rfl rfl ?_
  simp only [Go.Proofs.Try.ntmps116, List.length_cons, List.length_nil, Nat.reduceAdd, Nat.reduceSub, List.replicate_succ, List.replicate_zero, List.cons_append, List.nil_append]
  repeat' first | refine zK ?_ | refine zA ?_ | refine zL [] ?_ | (refine isA ?_; refine zf rfl ?_) | (refine isL ?_; refine zU rfl (by kernel_rfl) rfl rfl ?_) | (refine zb rfl ?_; refine zT rfl (by kernel_rfl) rfl rfl ?_) | (refine zu 75 ?_; refine zc rfl (zQ rfl (xe _ _ _) (.cons (.same rfl) (.cons (.same rfl) (.cons (.same rfl) .nil))) rfl) rfl ?_) | (refine zv 75 rfl ?_; refine zX rfl (by kernel_rfl) rfl (zQ rfl (xe _ _ _) (.cons (.same rfl) (.cons (.same rfl) (.cons (.same rfl) .nil))) rfl) rfl ?_) | exact yK rfl rfl (by first | ((try simp only [Bool.not_eq_true', Bool.not_eq_false'] at *); simp only [vRw, *, Bool.true_and, Bool.false_and, Bool.and_true, Bool.and_false, Bool.true_or, Bool.false_or, Bool.or_true, Bool.or_false, Bool.not_true, Bool.not_false, cond_true, cond_false]; done) | (simp_all [vRw]; done) | (simp_all [vRw]; intros; omega)) | refine zD ?_ | refine zB _ rfl (by kernel_rfl) ?_ | refine zV rfl ?_ | refine zW rfl ?_ | refine zC ?_ | with_reducible refine zO ?_ | refine zH ?_ | refine zI ?_ | (with_reducible first | refine zM ?_ | refine zN ?_ | refine zE ?_ | refine zG ?_ | refine zF ?_) | refine zP ?_ | (refine wB ?_; refine yW rfl rfl (fun hbr => ?_) (fun hbr => ?_) <;> (fail_if_success (with_reducible (have hx : true = true := hbr))) <;> (fail_if_success (with_reducible (have hx : false = false := hbr)))) | (refine zb rfl ?_; refine yI rfl rfl rfl rfl (fun hbr => ?_) (fun hbr => ?_) <;> (fail_if_success (with_reducible (have hx : true = true := hbr))) <;> (fail_if_success (with_reducible (have hx : false = false := hbr))))
theorem gL {xs : List Rw} {i : Nat} {z : Rw} (hz : xs[i]? = some z) (h : vRw z = false) : xs.all vRw = false := by
  cases ha : xs.all vRw with
  | false => rfl
  | true => rw [List.all_eq_true] at ha; rw [ha z (List.mem_of_getElem? hz)] at h; cases h
theorem mR {xs : List Rw} (h : ∀ j z, j < xs.length → xs[j]? = some z → vRw z = true) : xs.all vRw = true := by
  rw [List.all_eq_true]
  intro x hx
  obtain ⟨i, hi⟩ := List.getElem?_of_mem hx
  exact h i x (List.getElem?_eq_some_iff.1 hi).1 hi
def avR (xs : List Rw) : Bool := xs.all vRw && decide ((xs.length : Int) ≤ 24)
theorem gD (xs : List Rw) (hl : xs.length ≤ 1000000000) : zy Go.Proofs.Try.prog 121 [rwL xs] [] (B (xs.all vRw)) [] false := by
  refine zw [2] Go.Proofs.Try.func121 rfl rfl ?_
  simp only [Go.Proofs.Try.ntmps121, List.length_cons, List.length_nil, Nat.reduceAdd, Nat.reduceSub, List.replicate_succ, List.replicate_zero, List.cons_append, List.nil_append]
  repeat' first | refine zK ?_ | refine zA ?_ | refine zL [] ?_ | (refine isA ?_; refine zf rfl ?_) | (refine isL ?_; refine zU rfl (by kernel_rfl) rfl rfl ?_) | (refine zb rfl ?_; refine zT rfl (by kernel_rfl) rfl rfl ?_) | refine zD ?_ | refine zB _ rfl (by kernel_rfl) ?_ | refine zV rfl ?_ | refine zW rfl ?_ | refine zC ?_ | with_reducible refine zO ?_ | refine zH ?_ | refine zI ?_ | (with_reducible first | refine zM ?_ | refine zN ?_ | refine zE ?_ | refine zG ?_ | refine zF ?_) | refine zP ?_
  refine z9 (α := { i : Nat // i ≤ xs.length ∧ ∀ j z, j < i → xs[j]? = some z → vRw z = true }) (fun i => ⟨[rwL xs, .any, .any, .any, .any, rwL xs, I xs.length, I i.1, .any, .any, .any, .any, .any, .any, .any], [], 0⟩) (fun i => xs.length - i.1) ⟨0, Nat.zero_le _, fun j z hj => absurd hj (Nat.not_lt_zero _)⟩ ?_ ?_
  · exact yb [] rfl rfl (by decide) .nil (by repeat' first | exact zg | refine zZ ?_ ?_ | exact zo | exact le_refl rfl | exact zj rfl rfl | exact zt rfl)
  · rintro ⟨i, hi, hb⟩
    repeat' first | refine zK ?_ | refine zA ?_ | refine zL [] ?_ | (refine isA ?_; refine zf rfl ?_) | (refine isL ?_; refine zU rfl (by kernel_rfl) rfl rfl ?_) | (refine zb rfl ?_; refine zT rfl (by kernel_rfl) rfl rfl ?_) | refine zD ?_ | refine zB _ rfl (by kernel_rfl) ?_ | refine zV rfl ?_ | refine zW rfl ?_ | refine zC ?_ | with_reducible refine zO ?_ | refine zH ?_ | refine zI ?_ | (with_reducible first | refine zM ?_ | refine zN ?_ | refine zE ?_ | refine zG ?_ | refine zF ?_) | refine zP ?_
    refine zd rfl (fun h => ?_) (fun h => ?_)
    · have hlt : i < xs.length := by simpa using h
      obtain ⟨z, hz⟩ : ∃ z, xs[i]? = some z := ⟨_, List.getElem?_eq_getElem hlt⟩
      repeat' first | refine zK ?_ | refine zA ?_ | refine zL [] ?_ | (refine isA ?_; refine zf rfl ?_) | (refine isL ?_; refine zU rfl (by kernel_rfl) rfl rfl ?_) | (refine zb rfl ?_; refine zT rfl (by kernel_rfl) rfl rfl ?_) | (refine yG ?_; refine zc rfl (z5 (t := rwT) (z := z) rfl rfl rfl rfl (Int.natCast_nonneg i) hz) rfl ?_) | (refine yF rfl ?_; refine zX rfl (by kernel_rfl) rfl (z5 (t := rwT) (z := z) rfl rfl rfl rfl (Int.natCast_nonneg i) hz) rfl ?_) | (refine zu 116 ?_; refine zc rfl (zQ rfl (tj z) (.cons (.same rfl) .nil) rfl) rfl ?_) | (refine zv 116 rfl ?_; refine zX rfl (by kernel_rfl) rfl (zQ rfl (tj z) (.cons (.same rfl) .nil) rfl) rfl ?_) | refine zD ?_ | refine zB _ rfl (by kernel_rfl) ?_ | refine zV rfl ?_ | refine zW rfl ?_ | refine zC ?_ | with_reducible refine zO ?_ | refine zH ?_ | refine zI ?_ | (with_reducible first | refine zM ?_ | refine zN ?_ | refine zE ?_ | refine zG ?_ | refine zF ?_) | refine zP ?_
      refine zd rfl (fun h1 => ?_) (fun h1 => ?_)
      · have h2 : vRw z = false := by simpa using h1
        repeat' first | refine zK ?_ | refine zA ?_ | refine zL [] ?_ | (refine isA ?_; refine zf rfl ?_) | (refine isL ?_; refine zU rfl (by kernel_rfl) rfl rfl ?_) | (refine zb rfl ?_; refine zT rfl (by kernel_rfl) rfl rfl ?_) | exact yK rfl rfl (by rw [gL hz h2]) | refine zD ?_ | refine zB _ rfl (by kernel_rfl) ?_ | refine zV rfl ?_ | refine zW rfl ?_ | refine zC ?_ | with_reducible refine zO ?_ | refine zH ?_ | refine zI ?_ | (with_reducible first | refine zM ?_ | refine zN ?_ | refine zE ?_ | refine zG ?_ | refine zF ?_) | refine zP ?_
      · have h2 : vRw z = true := by simpa using h1
        repeat' first | refine zK ?_ | refine zA ?_ | refine zL [] ?_ | (refine isA ?_; refine zf rfl ?_) | (refine isL ?_; refine zU rfl (by kernel_rfl) rfl rfl ?_) | (refine zb rfl ?_; refine zT rfl (by kernel_rfl) rfl rfl ?_) | refine zD ?_ | refine zB _ rfl (by kernel_rfl) ?_ | refine zV rfl ?_ | refine zW rfl ?_ | refine zC ?_ | with_reducible refine zO ?_ | refine zH ?_ | refine zI ?_ | (with_reducible first | refine zM ?_ | refine zN ?_ | refine zE ?_ | refine zG ?_ | refine zF ?_) | refine zP ?_
        refine ⟨⟨i + 1, hlt, fun j y hj hy => ?_⟩, by simp only; omega, ?_⟩
        · rcases Nat.lt_succ_iff_lt_or_eq.1 hj with hj | rfl
          · exact hb j y hj hy
          · rw [hz] at hy; cases hy; exact h2
        · exact yb [] rfl rfl (by decide) .nil (by repeat' first | exact zg | refine zZ ?_ ?_ | exact zo | exact le_refl rfl | exact zj rfl rfl | exact zt rfl | exact xI (by assumption) (by omega))
    · have hge : i = xs.length := by
        have : ¬ ((i : Int) < xs.length) := by simpa using h
        omega
      subst hge
      repeat' first | refine zK ?_ | refine zA ?_ | refine zL [] ?_ | (refine isA ?_; refine zf rfl ?_) | (refine isL ?_; refine zU rfl (by kernel_rfl) rfl rfl ?_) | (refine zb rfl ?_; refine zT rfl (by kernel_rfl) rfl rfl ?_) | exact yK rfl rfl (by rw [mR hb]) | refine zD ?_ | refine zB _ rfl (by kernel_rfl) ?_ | refine zV rfl ?_ | refine zW rfl ?_ | refine zC ?_ | with_reducible refine zO ?_ | refine zH ?_ | refine zI ?_ | (with_reducible first | refine zM ?_ | refine zN ?_ | refine zE ?_ | refine zG ?_ | refine zF ?_) | refine zP ?_
theorem qh (xs : List Rw) (hl : xs.length ≤ 1000000000) : zy Go.Proofs.Try.prog 25 [rwL xs] [] (B (avR xs)) [] false := by
  refine zw [2] Go.Proofs.Try.func25 rfl rfl ?_
  simp only [Go.Proofs.Try.ntmps25, List.length_cons, List.length_nil, Nat.reduceAdd, Nat.reduceSub, List.replicate_succ, List.replicate_zero, List.cons_append, List.nil_append]
  repeat' first | refine zK ?_ | refine zA ?_ | refine zL [] ?_ | (refine isA ?_; refine zf rfl ?_) | (refine isL ?_; refine zU rfl (by kernel_rfl) rfl rfl ?_) | (refine zb rfl ?_; refine zT rfl (by kernel_rfl) rfl rfl ?_) | refine zD ?_ | refine zB _ rfl (by kernel_rfl) ?_ | refine zV rfl ?_ | refine zW rfl ?_ | refine zC ?_ | with_reducible refine zO ?_ | refine zH ?_ | refine zI ?_ | (with_reducible first | refine zM ?_ | refine zN ?_ | refine zE ?_ | refine zG ?_ | refine zF ?_) | refine zP ?_
  refine z9 (α := { i : Nat // i ≤ xs.length ∧ ∀ j z, j < i → xs[j]? = some z → vRw z = true }) (fun i => ⟨[rwL xs, .any, .any, I i.1, .any, .any, .any, .any, .any, .any, .any, .any, .any, .any, .any, .any, .any, .any, .any], [], 0⟩) (fun i => xs.length - i.1) ⟨0, Nat.zero_le _, fun j z hj => absurd hj (Nat.not_lt_zero _)⟩ ?_ ?_
  · exact yb [] rfl rfl (by decide) .nil (by repeat' first | exact zg | refine zZ ?_ ?_ | exact zo | exact le_refl rfl | exact zj rfl rfl | exact zt rfl)
  · rintro ⟨i, hi, hb⟩
    repeat' first | refine zK ?_ | refine zA ?_ | refine zL [] ?_ | (refine isA ?_; refine zf rfl ?_) | (refine isL ?_; refine zU rfl (by kernel_rfl) rfl rfl ?_) | (refine zb rfl ?_; refine zT rfl (by kernel_rfl) rfl rfl ?_) | refine zD ?_ | refine zB _ rfl (by kernel_rfl) ?_ | refine zV rfl ?_ | refine zW rfl ?_ | refine zC ?_ | with_reducible refine zO ?_ | refine zH ?_ | refine zI ?_ | (with_reducible first | refine zM ?_ | refine zN ?_ | refine zE ?_ | refine zG ?_ | refine zF ?_) | refine zP ?_
    refine zd rfl (fun h => ?_) (fun h => ?_)
    · have hlt : i < xs.length := by simpa using h
      obtain ⟨z, hz⟩ : ∃ z, xs[i]? = some z := ⟨_, List.getElem?_eq_getElem hlt⟩
      repeat' first | refine zK ?_ | refine zA ?_ | refine zL [] ?_ | (refine isA ?_; refine zf rfl ?_) | (refine isL ?_; refine zU rfl (by kernel_rfl) rfl rfl ?_) | (refine zb rfl ?_; refine zT rfl (by kernel_rfl) rfl rfl ?_) | (refine yG ?_; refine zc rfl (z5 (t := rwT) (z := z) rfl rfl rfl rfl (Int.natCast_nonneg i) hz) rfl ?_) | (refine yF rfl ?_; refine zX rfl (by kernel_rfl) rfl (z5 (t := rwT) (z := z) rfl rfl rfl rfl (Int.natCast_nonneg i) hz) rfl ?_) | (refine zu 99 ?_; refine zc rfl (zQ rfl (th z) (.cons (.same rfl) .nil) rfl) rfl ?_) | (refine zv 99 rfl ?_; refine zX rfl (by kernel_rfl) rfl (zQ rfl (th z) (.cons (.same rfl) .nil) rfl) rfl ?_) | refine zD ?_ | refine zB _ rfl (by kernel_rfl) ?_ | refine zV rfl ?_ | refine zW rfl ?_ | refine zC ?_ | with_reducible refine zO ?_ | refine zH ?_ | refine zI ?_ | (with_reducible first | refine zM ?_ | refine zN ?_ | refine zE ?_ | refine zG ?_ | refine zF ?_) | refine zP ?_
      refine zd rfl (fun h1 => ?_) (fun h1 => ?_)
      · have h2 : vRw z = false := by simpa using h1
        repeat' first | refine zK ?_ | refine zA ?_ | refine zL [] ?_ | (refine isA ?_; refine zf rfl ?_) | (refine isL ?_; refine zU rfl (by kernel_rfl) rfl rfl ?_) | (refine zb rfl ?_; refine zT rfl (by kernel_rfl) rfl rfl ?_) | exact yK rfl rfl (by rw [avR, gL hz h2, Bool.false_and]) | refine zD ?_ | refine zB _ rfl (by kernel_rfl) ?_ | refine zV rfl ?_ | refine zW rfl ?_ | refine zC ?_ | with_reducible refine zO ?_ | refine zH ?_ | refine zI ?_ | (with_reducible first | refine zM ?_ | refine zN ?_ | refine zE ?_ | refine zG ?_ | refine zF ?_) | refine zP ?_
      · have h2 : vRw z = true := by simpa using h1
        repeat' first | refine zK ?_ | refine zA ?_ | refine zL [] ?_ | (refine isA ?_; refine zf rfl ?_) | (refine isL ?_; refine zU rfl (by kernel_rfl) rfl rfl ?_) | (refine zb rfl ?_; refine zT rfl (by kernel_rfl) rfl rfl ?_) | refine zD ?_ | refine zB _ rfl (by kernel_rfl) ?_ | refine zV rfl ?_ | refine zW rfl ?_ | refine zC ?_ | with_reducible refine zO ?_ | refine zH ?_ | refine zI ?_ | (with_reducible first | refine zM ?_ | refine zN ?_ | refine zE ?_ | refine zG ?_ | refine zF ?_) | refine zP ?_
        refine ⟨⟨i + 1, hlt, fun j y hj hy => ?_⟩, by simp only; omega, ?_⟩
        · rcases Nat.lt_succ_iff_lt_or_eq.1 hj with hj | rfl
          · exact hb j y hj hy
          · rw [hz] at hy; cases hy; exact h2
        · exact yb [] rfl rfl (by decide) .nil (by repeat' first | exact zg | refine zZ ?_ ?_ | exact zo | exact le_refl rfl | exact zj rfl rfl | exact zt rfl | exact xI (by assumption) (by omega))
    · have hge : i = xs.length := by
        have : ¬ ((i : Int) < xs.length) := by simpa using h
        omega
      subst hge
      repeat' first | refine zK ?_ | refine zA ?_ | refine zL [] ?_ | (refine isA ?_; refine zf rfl ?_) | (refine isL ?_; refine zU rfl (by kernel_rfl) rfl rfl ?_) | (refine zb rfl ?_; refine zT rfl (by kernel_rfl) rfl rfl ?_) | exact yK rfl rfl (by rw [avR, mR hb, Bool.true_and]) | refine zD ?_ | refine zB _ rfl (by kernel_rfl) ?_ | refine zV rfl ?_ | refine zW rfl ?_ | refine zC ?_ | with_reducible refine zO ?_ | refine zH ?_ | refine zI ?_ | (with_reducible first | refine zM ?_ | refine zN ?_ | refine zE ?_ | refine zG ?_ | refine zF ?_) | refine zP ?_
theorem j9 (xs : List Rw) (hl : xs.length ≤ 1000000000) : zy Go.Proofs.Try.prog 74 [rwL xs] [] (B (avR xs)) [] false := by
  refine zw [2] Go.Proofs.Try.func74 rfl rfl ?_
  simp only [Go.Proofs.Try.ntmps74, List.length_cons, List.length_nil, Nat.reduceAdd, Nat.reduceSub, List.replicate_succ, List.replicate_zero, List.cons_append, List.nil_append]
  repeat' first | refine zK ?_ | refine zA ?_ | refine zL [] ?_ | (refine isA ?_; refine zf rfl ?_) | (refine isL ?_; refine zU rfl (by kernel_rfl) rfl rfl ?_) | (refine zb rfl ?_; refine zT rfl (by kernel_rfl) rfl rfl ?_) | (refine zu 121 ?_; refine zc rfl (zQ rfl (gD xs hl) (.cons (.same rfl) .nil) rfl) rfl ?_) | (refine zv 121 rfl ?_; refine zX rfl (by kernel_rfl) rfl (zQ rfl (gD xs hl) (.cons (.same rfl) .nil) rfl) rfl ?_) | exact yK rfl rfl (by first | ((try simp only [Bool.not_eq_true', Bool.not_eq_false'] at *); simp only [avR, *, Bool.true_and, Bool.false_and, Bool.and_true, Bool.and_false, Bool.true_or, Bool.false_or, Bool.or_true, Bool.or_false, Bool.not_true, Bool.not_false, cond_true, cond_false]; done) | (simp_all [avR]; done) | (simp_all [avR]; intros; omega)) | refine zD ?_ | refine zB _ rfl (by kernel_rfl) ?_ | refine zV rfl ?_ | refine zW rfl ?_ | refine zC ?_ | with_reducible refine zO ?_ | refine zH ?_ | refine zI ?_ | (with_reducible first | refine zM ?_ | refine zN ?_ | refine zE ?_ | refine zG ?_ | refine zF ?_) | refine zP ?_ | (refine wB ?_; refine yW rfl rfl (fun hbr => ?_) (fun hbr => ?_) <;> (fail_if_success (with_reducible (have hx : true = true := hbr))) <;> (fail_if_success (with_reducible (have hx : false = false := hbr)))) | (refine zb rfl ?_; refine yI rfl rfl rfl rfl (fun hbr => ?_) (fun hbr => ?_) <;> (fail_if_success (with_reducible (have hx : true = true := hbr))) <;> (fail_if_success (with_reducible (have hx : false = false := hbr))))
theorem wM (xs : List Rw) (hl : xs.length ≤ 1000000000) : zy Go.Proofs.Try.prog 114 [rwL xs] [] (.sl 0 0 xs.length) [rwR xs] false := by
  refine zw [2] Go.Proofs.Try.func114 rfl rfl ?_
  simp only [Go.Proofs.Try.ntmps114, List.length_cons, List.length_nil, Nat.reduceAdd, Nat.reduceSub, List.replicate_succ, List.replicate_zero, List.cons_append, List.nil_append]
  repeat' first | refine zK ?_ | refine zA ?_ | refine zL [] ?_ | (refine isA ?_; refine zf rfl ?_) | (refine isL ?_; refine zU rfl (by kernel_rfl) rfl rfl ?_) | (refine zb rfl ?_; refine zT rfl (by kernel_rfl) rfl rfl ?_) | (refine xU ?_; refine zc rfl (fy (T := rwT) (xs := xs) rfl rfl rfl rfl hl rfl) rfl ?_) | (refine y9 rfl ?_; refine zX rfl (by kernel_rfl) rfl (fy (T := rwT) (xs := xs) rfl rfl rfl rfl hl rfl) rfl ?_) | exact kS [0] rfl (wX (by decide) (.cons rfl rfl rfl rfl (zY (zJ _ _)) .nil)) (zj rfl rfl) (Or.inr ⟨rfl, fun q hq => by simp at hq; subst hq; exact ⟨Nat.zero_ne_one, fun _ => (xg _).flatS⟩⟩) | refine zD ?_ | refine zB _ rfl (by kernel_rfl) ?_ | refine zV rfl ?_ | refine zW rfl ?_ | refine zC ?_ | with_reducible refine zO ?_ | refine zH ?_ | refine zI ?_ | (with_reducible first | refine zM ?_ | refine zN ?_ | refine zE ?_ | refine zG ?_ | refine zF ?_) | refine zP ?_
end Go.Proofs.Ytojcojanokhnaaa.Ab
namespace Go.Proofs.Ytojcojanokhnaaa.Ab
open Go.RowKit
theorem zp {L : List Reg} {N : Reg} {n : Nat} (h : L.length = n) : (L ++ [N])[n]? = some N := by
  rw [List.getElem?_append_right (by omega), show n - L.length = 0 by omega]; rfl
theorem kN {D S : Reg} {out : List Rn} {z : Rn} {A : List Reg} {k : Nat} (hE : A[k]? = some (rwR z)) : HLe ((out.length + A.length + 2) :: (List.range' 1 out.length ++ [1 + out.length + k])) (rnN (out ++ [z])) (D :: (nR rwT 78 out ++ A ++ [S]) ++ [⟨84, 1, nC 1 out ++ [.sl (1 + out.length + k) 0 z.length], 0⟩]) := by
  have hk : k < A.length := (List.getElem?_eq_some_iff.1 hE).1
  refine kM (zp (by simp [zm]; omega)) ?_ (lx (K0 := [D]) (D := A ++ [S] ++ [⟨84, 1, nC 1 out ++ [.sl (1 + out.length + k) 0 z.length], 0⟩]) rfl (by simp)) (by omega) (by omega) (by omega)
  rw [show 1 + out.length + k = (out.length + k) + 1 by omega, List.cons_append, List.getElem?_cons_succ, List.append_assoc, List.append_assoc, List.getElem?_append_right (by simp [zm]), zm, Nat.add_sub_cancel_left, List.getElem?_append_left hk]
  exact hE
theorem t6 {L : List Reg} {b b' : Reg} {n : Nat} (h : L.length = n) : (L ++ [b]).set n b' = L ++ [b'] := by
  subst h; rw [List.set_append_right _ _ (Nat.le_refl _), Nat.sub_self]; rfl
theorem gB (rs : List Rn) (hok : tZ rs) : zy Go.Proofs.Try.prog 115 [rnL rs] [] (.sl 0 0 rs.length) (rnN rs) false := by
  have hl := hok.1
  refine zw [2] Go.Proofs.Try.func115 rfl rfl ?_
  simp only [Go.Proofs.Try.ntmps115, List.length_cons, List.length_nil, Nat.reduceAdd, Nat.reduceSub, List.replicate_succ, List.replicate_zero, List.cons_append, List.nil_append]
  repeat' first | refine zK ?_ | refine zA ?_ | refine zL [] ?_ | (refine isA ?_; refine zf rfl ?_) | (refine isL ?_; refine zU rfl (by kernel_rfl) rfl rfl ?_) | (refine zb rfl ?_; refine zT rfl (by kernel_rfl) rfl rfl ?_) | refine zD ?_ | refine zB _ rfl (by kernel_rfl) ?_ | refine zV rfl ?_ | refine zW rfl ?_ | refine zC ?_ | with_reducible refine zO ?_ | refine zH ?_ | refine zI ?_ | (with_reducible first | refine zM ?_ | refine zN ?_ | refine zE ?_ | refine zG ?_ | refine zF ?_) | refine zP ?_
  refine z9 (α := { i : Nat // i ≤ rs.length }) (fun i => ⟨[.any, .any, .any, .sl 0 0 (rs.take i.1).length, .any, .any, rnL rs, I rs.length, I i.1, .any, .any, .any, .any, .any, .any, .any, .any, .any, .any, .any, .any], rnN (rs.take i.1), 0⟩) (fun i => rs.length - i.1) ⟨0, Nat.zero_le _⟩ ?_ ?_
  · refine Sub.trans (T := ⟨[.any, .any, .any, wq, .any, .any, rnL rs, I rs.length, I 0, .any, .any, .any, .any, .any, .any, .any, .any, .any, .any, .any, .any], [], 0⟩) (tb 84 1 ?_ (.rest _)) (yb [] rfl rfl (by decide) .nil (by repeat' first | exact zg | refine zZ ?_ ?_ | exact zo | exact le_refl rfl | exact zj rfl rfl | exact zt rfl))
    exact .cons (.same _) (.cons (.same _) (.cons (.same _) (.cons .nil (.rest _))))
  · rintro ⟨i, hi⟩
    have hnl : (rnN (rs.take i)).length = (rs.take i).length + 1 := by simp [zm]
    repeat' first | refine zK ?_ | refine zA ?_ | refine zL [] ?_ | (refine isA ?_; refine zf rfl ?_) | (refine isL ?_; refine zU rfl (by kernel_rfl) rfl rfl ?_) | (refine zb rfl ?_; refine zT rfl (by kernel_rfl) rfl rfl ?_) | refine zD ?_ | refine zB _ rfl (by kernel_rfl) ?_ | refine zV rfl ?_ | refine zW rfl ?_ | refine zC ?_ | with_reducible refine zO ?_ | refine zH ?_ | refine zI ?_ | (with_reducible first | refine zM ?_ | refine zN ?_ | refine zE ?_ | refine zG ?_ | refine zF ?_) | refine zP ?_
    refine zd rfl (fun h => ?_) (fun h => ?_)
    · have hlt : i < rs.length := by simpa using h
      obtain ⟨x, hx⟩ : ∃ z, rs[i]? = some z := ⟨_, List.getElem?_eq_getElem hlt⟩
      have ets : rs.take (i + 1) = rs.take i ++ [x] := yo hx
      have etl : (rs.take i).length = i := by simp; omega
      repeat' first | refine zK ?_ | refine zA ?_ | refine zL [] ?_ | (refine isA ?_; refine zf rfl ?_) | (refine isL ?_; refine zU rfl (by kernel_rfl) rfl rfl ?_) | (refine zb rfl ?_; refine zT rfl (by kernel_rfl) rfl rfl ?_) | (refine yG ?_; refine zc rfl (z5 (t := rnT) (z := x) rfl rfl rfl rfl (Int.natCast_nonneg i) hx) rfl ?_) | (refine yF rfl ?_; refine zX rfl (by kernel_rfl) rfl (z5 (t := rnT) (z := x) rfl rfl rfl rfl (Int.natCast_nonneg i) hx) rfl ?_) | (refine kK (x := .tmp 5) ?_; refine zc rfl (xj (vs := [rwL x]) rfl rfl rfl rfl (fun c hc => by simp at hc; subst hc; rfl) (zp rfl) rfl (Nat.le_refl _)) rfl ?_) | (refine kJ (x := .tmp 5) rfl ?_; refine zX rfl (by kernel_rfl) rfl (xj (vs := [rwL x]) rfl rfl rfl rfl (fun c hc => by simp at hc; subst hc; rfl) (zp rfl) rfl (Nat.le_refl _)) rfl ?_) | refine zD ?_ | refine zB _ rfl (by kernel_rfl) ?_ | refine zV rfl ?_ | refine zW rfl ?_ | refine zC ?_ | with_reducible refine zO ?_ | refine zH ?_ | refine zI ?_ | (with_reducible first | refine zM ?_ | refine zN ?_ | refine zE ?_ | refine zG ?_ | refine zF ?_) | refine zP ?_
      refine gI (T := ⟨[.any, .any, .any, .sl 0 0 i, .any, .ptr (i + 1) 0, rnL rs, I rs.length, I i, .any, .any, .any, .sl 0 0 i, .ptr (i + 1) 0, .any, .any, .any, .any, .any, .any, .any], rnN (rs.take i) ++ [⟨84, 1, [rwL x], 0⟩], 0⟩) (w4 (by rw [t6 rfl]; rfl) (by
        repeat' first | exact EqS.nil | refine EqS.any ?_ | refine EqS.same rfl ?_ | refine EqS.same (congrArg (V.sl 0 0) etl) ?_ | refine EqS.same (congrArg (fun n => V.ptr n 0) (hnl.trans (by rw [etl]))) ?_)) ?_
      repeat' first | refine zK ?_ | refine zA ?_ | refine zL [] ?_ | (refine isA ?_; refine zf rfl ?_) | (refine isL ?_; refine zU rfl (by kernel_rfl) rfl rfl ?_) | (refine zb rfl ?_; refine zT rfl (by kernel_rfl) rfl rfl ?_) | (refine wT (x := .tmp 13) ?_; refine zc rfl (xl rfl rfl (zp (by rw [hnl, etl])) rfl rfl) rfl ?_) | (refine wW (x := .tmp 13) rfl ?_; refine zX rfl (by kernel_rfl) rfl (xl rfl rfl (zp (by rw [hnl, etl])) rfl rfl) rfl ?_) | (refine zu 114 ?_; refine zc rfl (yd (r' := .sl (i + 2) 0 x.length) (H' := rnN (rs.take i) ++ [⟨84, 1, [rwL x], 0⟩] ++ [rwR x]) rfl (wM x (hok.at hx)) (.cons (.same rfl) .nil) (fun q hq => by simp at hq; subst hq; exact zJ _ _) (by simp only [List.length_append, hnl, etl, shV, Nat.zero_add, List.length_singleton]) rfl) rfl ?_) | (refine zv 114 rfl ?_; refine zX rfl (by kernel_rfl) rfl (yd (r' := .sl (i + 2) 0 x.length) (H' := rnN (rs.take i) ++ [⟨84, 1, [rwL x], 0⟩] ++ [rwR x]) rfl (wM x (hok.at hx)) (.cons (.same rfl) .nil) (fun q hq => by simp at hq; subst hq; exact zJ _ _) (by simp only [List.length_append, hnl, etl, shV, Nat.zero_add, List.length_singleton]) rfl) rfl ?_) | (refine xU ?_; refine zc rfl (mP (outs := rs.take i) (hz := (rnN (rs.take i) ++ [(⟨84, 1, [rwL x], 0⟩ : Reg)] ++ [rwR x]).length) (zi := i + 2) (n := x.length) rfl (congrArg (V.sl 0 0) etl.symm) rfl rfl (zp rfl) (by omega) rfl) rfl ?_) | (refine y9 rfl ?_; refine zX rfl (by kernel_rfl) rfl (mP (outs := rs.take i) (hz := (rnN (rs.take i) ++ [(⟨84, 1, [rwL x], 0⟩ : Reg)] ++ [rwR x]).length) (zi := i + 2) (n := x.length) rfl (congrArg (V.sl 0 0) etl.symm) rfl rfl (zp rfl) (by omega) rfl) rfl ?_) | refine zD ?_ | refine zB _ rfl (by kernel_rfl) ?_ | refine zV rfl ?_ | refine zW rfl ?_ | refine zC ?_ | with_reducible refine zO ?_ | refine zH ?_ | refine zI ?_ | (with_reducible first | refine zM ?_ | refine zN ?_ | refine zE ?_ | refine zG ?_ | refine zF ?_) | refine zP ?_
      refine ⟨⟨i + 1, hlt⟩, by simp only; omega, ?_⟩
      have q := kN (D := ⟨84, 1, nC 1 (rs.take i), 2⟩) (S := ⟨84, 1, [.sl (i + 2) 0 x.length], 0⟩) (out := rs.take i) (z := x) (A := [⟨84, 1, [rwL x], 0⟩, rwR x]) (k := 1) rfl
      have ei : 1 + (rs.take i).length + 1 = i + 2 := by omega
      have ej : (rs.take i).length + 2 + 2 = i + 4 := by omega
      rw [ei, ← ets] at q
      simp only [List.length_cons, List.length_nil, Nat.zero_add, Nat.reduceAdd, ej, etl] at q
      refine qH ((i + 4) :: (List.range' 1 i ++ [i + 2])) rfl (fun i hi => absurd hi (Nat.not_lt_zero _)) ?_ (by
        repeat' first | exact zg | refine zZ ?_ ?_ | exact zo | exact le_refl rfl | exact zj (congrArg some (by simp only [List.length_append, List.length_set, hnl, etl, List.length_singleton])) (by rw [ets, List.length_append, etl]; rfl) | exact xI (by assumption) (by omega))
      show HLe _ (rnN (rs.take (i + 1))) (⟨84, 1, nC 1 (rs.take i), 2⟩ :: (nR rwT 78 (rs.take i) ++ [⟨84, 1, [rwL x], 0⟩] ++ [rwR x] ++ [⟨84, 1, [.sl (i + 2) 0 x.length], 0⟩]) ++ [⟨84, 1, nC 1 (rs.take i) ++ [.sl (i + 2) 0 x.length], 0⟩])
      simp only [List.append_assoc, List.cons_append, List.nil_append] at q ⊢
      exact q
    · have hge : i = rs.length := by
        have : ¬ ((i : Int) < rs.length) := by simpa using h
        omega
      subst hge
      repeat' first | refine zK ?_ | refine zA ?_ | refine zL [] ?_ | (refine isA ?_; refine zf rfl ?_) | (refine isL ?_; refine zU rfl (by kernel_rfl) rfl rfl ?_) | (refine zb rfl ?_; refine zT rfl (by kernel_rfl) rfl rfl ?_) | exact kS _ rfl (by rw [List.take_length]; exact gl _) (zj rfl (by rw [List.take_length])) (Or.inr ⟨rfl, by exact mm _⟩) | refine zD ?_ | refine zB _ rfl (by kernel_rfl) ?_ | refine zV rfl ?_ | refine zW rfl ?_ | refine zC ?_ | with_reducible refine zO ?_ | refine zH ?_ | refine zI ?_ | (with_reducible first | refine zM ?_ | refine zN ?_ | refine zE ?_ | refine zG ?_ | refine zF ?_) | refine zP ?_
end Go.Proofs.Ytojcojanokhnaaa.Ab
namespace Go.Proofs.Ytojcojanokhnaaa.Ab
open Go.RowKit
end Go.Proofs.Ytojcojanokhnaaa.Ab
namespace Go.Proofs.Ytojcojanokhnaaa.Ab
open Go.RowKit
structure So where
  input : List Rw
  pos : Int
  heap : List Rw
  dfr : List Rw
  out : List Rw
  runs : List Rn
  lp : Int
  rp : Int
  ph : Int
  wr : Int
def soE (s : So) : List V := [rwL s.input, I s.pos, rwL s.heap, rwL s.dfr, rwL s.out, rnL s.runs, I s.lp, I s.rp, I s.ph, I s.wr]
structure okSo (s : So) : Prop where
  input : s.input.length ≤ 10000000
  heap : s.heap.length ≤ 10000000
  dfr : s.dfr.length ≤ 10000000
  out : s.out.length ≤ 10000000
  runs : s.runs.length ≤ 10000000
  tot : tot s.runs ≤ 10000000
theorem okSo.rn {s : So} (h : okSo s) : tZ s.runs := ⟨by have := h.runs; omega, fun x hx => by
  have : x.length ≤ Ab.tot s.runs := nm (List.mem_map.2 ⟨x, hx, rfl⟩)
  have := h.tot
  omega⟩
def szS (s : So) (l : Int) : Int :=
  let a := szL s.input.length l
  let b := szL s.heap.length a
  let c := szL s.dfr.length b
  let d := szL s.out.length c
  let e := szR s.runs d
  cond (decide (a < 0)) (-1) (cond (decide (b < 0)) (-1) (cond (decide (c < 0)) (-1) (cond (decide (d < 0)) (-1) (cond (decide (e < 0)) (-1) e))))
structure rdSo (s : So) : Prop where
  input : s.input.length ≤ 9223372036854775807
  heap : s.heap.length ≤ 9223372036854775807
  dfr : s.dfr.length ≤ 9223372036854775807
  out : s.out.length ≤ 9223372036854775807
  runs : s.runs.length ≤ 9223372036854775807
  each : ∀ x ∈ s.runs, x.length ≤ 9223372036854775807
def totS (s : So) : Nat := s.input.length + s.heap.length + s.dfr.length + s.out.length + tot s.runs
def mkSo (k : Int) (s : So) : So :=
  ⟨mkC k s.input s.input.length, s.pos, mkC (kk k (3 * s.input.length)) s.heap s.heap.length, mkC (kk k (3 * (s.input.length + s.heap.length))) s.dfr s.dfr.length, mkC (kk k (3 * (s.input.length + s.heap.length + s.dfr.length))) s.out s.out.length, eK (kk k (3 * (s.input.length + s.heap.length + s.dfr.length + s.out.length))) s.runs, s.lp, s.rp, s.ph, s.wr⟩
end Go.Proofs.Ytojcojanokhnaaa.Ab
namespace Go.Proofs.Ytojcojanokhnaaa.Ab
open Go.RowKit
section
variable {P : Program} {o : Oper} {ρ : Operand → V} {H : List Reg}
theorem tu {f : FuncId} {cargs : List V} {r : V} {K : List Reg}
    (hrun : ∀ (A : Nat → Prop) (φ : List Hd) (a : Act) (w : World), HeapOk A w φ H → (∀ x ∈ o.op.operands, Rel A w φ (ρ x) (a.eval x)) → ∃ xs : Array Value, (execOp a.eval o).run P w = .ok (.enter f xs) w ∧ xs.size = cargs.length ∧ zx A w φ cargs (fun i => xs[i]?))
    (hm : zy P f cargs H r K true) : z7 P o ρ H r K := by
  intro S hS hρ C φ a w hI next Q hn
  obtain ⟨hm0, ⟨A, hA, hr⟩, hs, hd⟩ := hI
  subst hS
  obtain ⟨xs, hexec, hxl, hargr⟩ := hrun A φ a w hA.ok (fun x hx => by rw [← hρ x hx]; exact vA hr x)
  have hcall := hm A φ w xs hA.ok hargr hxl
  unfold Oper.wp
  rw [hexec, Oper.upon_enter]
  refine hcall.mono ?_
  rintro e w' ⟨x, φ', A', rfl, k1, k2, k3, k4, k5, k6⟩
  have hfrA : ∀ b, A b → w'.heap[b]? = w.heap[b]? := fun b hb => k5.block b (hA.ok.low b hb) (fun h hl => hA.ok.apart h b hl hb)
  have we : ∀ b, A' b → A b ∨ w.heap.size ≤ b := fun b hb => (k3 b hb).imp (fun h => h.2) id
  have hJ : InvA C (fun b => A b ∨ A' b) φ' K w' := by
    refine ⟨⟨k1.len, fun h hd q q1 q2 q3 => ?_, k1.inj, fun h b hl hb => ?_, fun h hd q b q1 q2 q3 q4 => Or.inr (k1.frz h hd q b q1 q2 q3 q4), fun b hb => ?_⟩, fun b hb => ?_, fun h b hl => ?_, ?_, fun h hd hh => k6 h hd (hA.pre h hd hh)⟩
    · obtain ⟨e1, e2⟩ := k1.regs h hd q q1 q2 q3
      refine ⟨e1, ?_⟩
      cases hb : hd.blk with
      | none => rw [hb] at e2; exact e2
      | some b =>
        rw [hb] at e2
        obtain ⟨c, c1, c2, c3, c4⟩ := e2
        exact ⟨c, c1, c2, c3, zx.mono (fun b hb => ⟨Or.inr hb, rfl⟩) (fun _ _ h => h) c4⟩
    · rcases hb with hb | hb
      · rcases k4 h b hl with h1 | ⟨h0, h1⟩
        · have := hA.ok.low b hb
          omega
        · exact hA.ok.apart h0 b h1 hb
      · exact k1.apart h b hl hb
    · rcases hb with hb | hb
      · exact Nat.lt_of_lt_of_le (hA.ok.low b hb) k5.size
      · exact k1.low b hb
    · rcases hb with hb | hb
      · exact hA.old b hb
      · rcases we b hb with hb | hb
        · exact hA.old b hb
        · exact Or.inr (Nat.le_trans hA.frame.size hb)
    · rcases k4 h b hl with h1 | ⟨h0, h1⟩
      · exact Or.inl (Nat.le_trans hA.frame.size h1)
      · exact hA.own h0 b h1
    · obtain ⟨f1, f2, f3, f4, f5⟩ := hA.frame
      refine ⟨k5.os.trans f1, k5.tape.trans f2, k5.output.trans f3, Nat.le_trans f4 k5.size, fun b hb hno => ?_⟩
      rw [k5.block b (Nat.lt_of_lt_of_le hb f4) (fun h hl => ?_)]
      · exact f5 b hb hno
      · rcases hA.own h b hl with h1 | ⟨h0, h1⟩
        · have h2 : b < C.w0.heap.size := hb
          omega
        · exact hno h0 h1
  have hr' : zx (fun b => A b ∨ A' b) w' φ' S.tmps (fun i => a.tmps[i]?) := zx.mono (fun b hb => ⟨Or.inl hb, hfrA b hb⟩) (fun h hd hh => k6 h hd hh) hr
  have hx : Rel (fun b => A b ∨ A' b) w' φ' r x := Rel.mono (fun b hb => ⟨Or.inr hb, rfl⟩) (fun _ _ h => h) k2
  obtain ⟨h7, h8⟩ := wy (H := K) hs hr' hx o.dst
  refine hn x w' φ' ⟨by cases o.dst <;> exact hm0, ⟨_, ?_, h7⟩, h8, by cases o.dst <;> exact hd⟩
  rw [xz]
  exact hJ
theorem yT {f : FuncId} {args : List Operand} {ats : Array TypeId} {cargs : List V} {r : V} {K : List Reg} [he : Ent P f] (ho : o.op = .call { callee := .value (.func f), args := args.toArray, argTypes := ats })
    (hm : zy P f cargs H r K true) (hargs : args.map ρ = cargs) : z7 P o ρ H r K :=
  tu (fun A φ a w _ hh => ⟨_, uc ho, by rw [← hargs]; simp, by rw [← hargs]; exact vl fun x hx => hh x (by rw [ho]; simp only [Op.operands, Call.operands]; simp [hx])⟩) hm
theorem kA {r : V} {S : St} : Out true r S.H r S := fun C A φ w x hm hA hv =>
  ⟨φ, A, hA.ok, hv, fun b hb => (hA.old b hb).imp (fun h => ⟨rfl, h⟩) id, fun h b hl => hA.own h b hl, fun h hd hh => hA.pre h hd hh⟩
theorem fq {l : List V} {H K : List Reg} {m : Nat} {e : Exit} (he : e = .ret ∨ e = .normal) (hK : H = K) : (e = .ret ∨ e = .normal) ∧ Out true (.tup []) K (vk ⟨l, H, m⟩ []) ⟨l, H, m⟩ := by
  subst hK; exact ⟨he, kA (S := ⟨l, H, m⟩)⟩
end
end Go.Proofs.Ytojcojanokhnaaa.Ab
namespace Go.Proofs.Ytojcojanokhnaaa.Ab
open Go.RowKit
def vM (P : Program) (o : Oper) (ρ : Operand → V) (H : List Reg) (post : V → List Reg → Prop) : Prop :=
  ∀ S : St, S.H = H → (∀ x ∈ o.op.operands, S.ev x = ρ x) → ∀ C φ a w, Inv C φ S a w → ∀ (next : Act → World → Prop) (Q : Exit → Act → World → Prop),
    (∀ v H' x w' φ', post v H' → Inv C φ' (S.put o.dst v H') (a.put o.dst x) w' → next (a.put o.dst x) w') → o.wp P a w next Q
theorem vM.of {P : Program} {o : Oper} {ρ : Operand → V} {H H' : List Reg} {v : V} (h : z7 P o ρ H v H') : vM P o ρ H (fun v1 H1 => v1 = v ∧ H1 = H') :=
  fun S hS hρ C φ a w hI next Q hn => h S hS hρ C φ a w hI next Q fun x w' φ' hI' => hn v H' x w' φ' ⟨rfl, rfl⟩ hI'
theorem vM.congr {P : Program} {o : Oper} {ρ ρ' : Operand → V} {H : List Reg} {post : V → List Reg → Prop} (h : vM P o ρ H post) (hρ : ∀ x ∈ o.op.operands, ρ' x = ρ x) : vM P o ρ' H post :=
  fun S hS hx => h S hS fun x hm => (hx x hm).trans (hρ x hm)
section
variable {P : Program} {ops : Array Oper} {md : Region.Mode} {s : Nat} {G : List Reg → Prop} {Q : Exit → St → Prop}
def uw (P : Program) (ops : Array Oper) (b : Prop) (G : List Reg → Prop) (i : Nat) (K : St → Prop) (S : St) : Prop :=
  match ops[i]? with
  | none => K S
  | some o => (yc ops S o = some true ∧ ∃ post : V → List Reg → Prop, vM P o S.ev S.H post ∧ (∀ v H', post v H' → b → G H') ∧ ∀ v H', post v H' → K (S.put o.dst v H')) ∨ (yc ops S o = some false ∧ K (S.put o.dst (.k undef) S.H))
def vv (P : Program) (md : Region.Mode) (ops : Array Oper) (s : Nat) (G : List Reg → Prop) (Q : Exit → St → Prop) : Nat → Array Bool → St → Prop
  | 0, listed, S => Region.ready md ops listed = [] ∧ Q .normal S
  | n + 1, listed, S => (Region.ready md ops listed = [] → Q .normal S) ∧ ∀ i ∈ Region.ready md ops listed, uw P ops ((listed.setIfInBounds i true).getD s true = false) G i (vv P md ops s G Q n (listed.setIfInBounds i true)) S
theorem uw.mono {b : Prop} {i : Nat} {K K' : St → Prop} {S : St} (hk : ∀ S, K S → K' S) (h : uw P ops b G i K S) : uw P ops b G i K' S := by
  unfold uw at *
  split at h
  · exact hk _ h
  · rcases h with ⟨h1, post, h2, h3, h4⟩ | ⟨h1, h2⟩
    · exact Or.inl ⟨h1, post, h2, h3, fun v H' hp => hk _ (h4 v H' hp)⟩
    · exact Or.inr ⟨h1, hk _ h2⟩
theorem xr : ∀ (n : Nat) (listed : Array Bool) (S : St), vv P md ops s G Q n listed S → ∀ (C : Cx) (φ : List Hd) (a : Act) (w : World), Inv C φ S a w → wpAny P md ops (gN C Q) n listed a w
  | 0, listed, S, h, C, φ, a, w, hI => ⟨h.1, S, φ, hI, h.2⟩
  | n + 1, listed, S, h, C, φ, a, w, hI => by
    refine ⟨fun h0 => ⟨S, φ, hI, h.1 h0⟩, fun i hi => ?_⟩
    have h1 := h.2 i hi
    unfold uw at h1
    unfold wpOp
    cases ho : ops[i]? with
    | none => rw [ho] at h1; exact xr n _ S h1 C φ a w hI
    | some o =>
      rw [ho] at h1
      simp only at h1 ⊢
      rcases h1 with ⟨hw, post, hs, _, hk⟩ | ⟨hw, hk⟩
      · rw [if_pos (wD hI hw)]
        exact Or.inl (hs S rfl (fun _ _ => rfl) C φ a w hI _ _ fun v H' x w' φ' hp hI' => xr n _ _ (hk v H' hp) C φ' _ _ hI')
      · rw [if_neg (by rw [wD hI hw]; simp)]
        exact xr n _ _ hk C φ _ _ (uy C φ a w hI o.dst)
theorem xD {listed : Array Bool} {i j : Nat} (h : i ≠ j) : (listed.setIfInBounds i true).getD j true = listed.getD j true := getD_set_ne true h
theorem tU {B : Prop} {i : Nat} {oi : Oper} {v : V} (hi : ops[i]? = some oi) (hne : i ≠ s) (hed : B → ∃ os, ops[s]? = some os ∧ ∃ e ∈ os.after, Region.binds md e = true ∧ e.on = i) :
    ∀ (n : Nat) (listed : Array Bool) (S : St), (listed.getD s true = false → G S.H) → (B → listed.getD s true = false) →
      (∀ j oj, ops[j]? = some oj → j ≠ i → listed.getD j true = false → (∀ e ∈ oj.after, Region.binds md e = true → e.on ≠ i) → oi.apart ops oj = true) →
      i ∈ Region.ready md ops listed → wu P ops (fun H => B → G H) oi v S →
      vv P md ops s G Q n (listed.setIfInBounds i true) (S.put oi.dst v S.H) → vv P md ops s G Q (n + 1) listed S := by
  intro n
  induction n with
  | zero =>
    intro listed S hG hB _ hr hy H
    refine ⟨fun h => (by rw [h] at hr; cases hr), fun j hj => ?_⟩
    by_cases hji : j = i
    · subst hji
      unfold uw
      rw [hi]
      rcases hy with ⟨h1, h2⟩ | ⟨h1, rfl⟩
      · exact Or.inl ⟨h1, _, .of (h2 _ (fun b => hG (hB b))), fun v1 H1 hp hb => by obtain ⟨_, rfl⟩ := hp; exact hG (by rw [xD hne] at hb; exact hb), fun v1 H1 hp => by obtain ⟨rfl, rfl⟩ := hp; exact H⟩
      · exact Or.inr ⟨h1, H⟩
    · have := ready_mono hj hji
      rw [H.1] at this
      cases this
  | succ n ih =>
    intro listed S hG hB hfree hr hy H
    refine ⟨fun h => (by rw [h] at hr; cases hr), fun j hj => ?_⟩
    by_cases hji : j = i
    · subst hji
      unfold uw
      rw [hi]
      rcases hy with ⟨h1, h2⟩ | ⟨h1, rfl⟩
      · exact Or.inl ⟨h1, _, .of (h2 _ (fun b => hG (hB b))), fun v1 H1 hp hb => by obtain ⟨_, rfl⟩ := hp; exact hG (by rw [xD hne] at hb; exact hb), fun v1 H1 hp => by obtain ⟨rfl, rfl⟩ := hp; exact H⟩
      · exact Or.inr ⟨h1, H⟩
    · have h1 := H.2 j (ready_mono hj hji)
      obtain ⟨hjun, oj, hoj, hall⟩ := mem_ready.1 hj
      have hiun := (mem_ready.1 hr).1
      have hnot : ∀ e ∈ oj.after, Region.binds md e = true → e.on ≠ i := fun e he hb heq => by
        have h1 := hall e he hb
        rw [heq] at h1
        rcases Nat.lt_or_ge i listed.size with h' | h'
        · simp [h'] at hiun h1; rw [hiun] at h1; cases h1
        · simp [Array.getElem?_eq_none h'] at h1
      have hjs : B → j ≠ s := fun b hjs => by
        subst hjs
        obtain ⟨os, h3, e, h4, h5, h6⟩ := hed b
        rw [hoj] at h3
        cases h3
        exact hnot e h4 h5 h6
      have hfree' : ∀ k ok, ops[k]? = some ok → k ≠ i → (listed.setIfInBounds j true).getD k true = false →
          (∀ e ∈ ok.after, Region.binds md e = true → e.on ≠ i) → oi.apart ops ok = true := fun k ok hk hki hun hno => by
        refine hfree k ok hk hki ?_ hno
        by_cases hjk : j = k
        · subst hjk; exact hjun
        · rw [getD_set_ne true hjk] at hun; exact hun
      have hb2 : ((listed.setIfInBounds i true).setIfInBounds j true).getD s true = (listed.setIfInBounds j true).getD s true := by
        rw [Array.setIfInBounds_comm _ _ (Ne.symm hji), xD hne]
      obtain ⟨p1, p2, p3⟩ := Oper.apart_spec (hfree j oj hoj hji hjun hnot)
      have key : ∀ (u : V) (H' : List Reg), ((listed.setIfInBounds j true).getD s true = false → G H') → vv P md ops s G Q n ((listed.setIfInBounds j true).setIfInBounds i true) ((S.put oj.dst u H').put oi.dst v H') → vv P md ops s G Q (n + 1) (listed.setIfInBounds j true) (S.put oj.dst u H') := fun u H' hGH hk => by
        refine ih (listed.setIfInBounds j true) (S.put oj.dst u H') (by rw [xz]; exact hGH) (fun b => by rw [xD (hjs b)]; exact hB b) hfree' (ready_mono hr (Ne.symm hji)) (hy.keep p3) ?_
        rw [xz]
        exact hk
      unfold uw at h1 ⊢
      rw [hoj] at h1 ⊢
      simp only at h1 ⊢
      rw [wi p1, xz] at h1
      rcases h1 with ⟨hw, post, hs, hH, hk⟩ | ⟨hw, hk⟩
      · rw [hb2] at hH
        refine Or.inl ⟨hw, post, hs.congr (fun x hx => (xQ p1 x hx).symm), hH, fun u H' hp => key u H' (hH u H' hp) ?_⟩
        rw [Array.setIfInBounds_comm _ _ hji, ← wS v u S.H H' p2]
        exact hk u H' hp
      · refine Or.inr ⟨hw, key (.k undef) S.H (fun hb => ?_) ?_⟩
        · by_cases hjs' : j = s
          · subst hjs'
            rcases Nat.lt_or_ge j listed.size with h' | h'
            · simp [Array.getD, h'] at hb
            · rw [Array.getD_eq_getD_getElem?, Array.getElem?_eq_none (by simpa using h')] at hb; cases hb
          · rw [xD hjs'] at hb
            exact hG hb
        · rw [Array.setIfInBounds_comm _ _ hji, ← wS v (.k undef) S.H S.H p2]
          exact hk
end
section
variable {P : Program} {T : Tab} {ops : Array Oper} {s : Nat} {G : List Reg → Prop} {Q : Exit → St → Prop} {l l' : List V} {H H' K : List Reg} {m : Nat} {o : Oper} {d : List Nat} {n : Nat}
structure APerS (P : Program) (ops : Array Oper) (s : Nat) (G : List Reg → Prop) (d : List Nat) (n : Nat) (Q : Exit → St → Prop) (S : St) : Prop where
  out : vv P .any ops s G Q n (mkL ops.size d) S
theorem ur {id : Nat} {S : St} (s : Nat) (G : List Reg → Prop) (n : Nat) (hn : ops.size = n) [hT : TabC P T] (h : APerS P ops s G [] n Q S) : AW P (.region id ops true) Q S := by
  subst hn
  exact ⟨fun C φ a w hI => wp_region_any hT.wide (xr _ _ _ h.out C φ a _ (pa hI))⟩
theorem vH {S : St} (hr : (Region.ready .any ops (mkL ops.size d) == []) = true) (h : Q .normal S) : APerS P ops s G d 0 Q S := ⟨⟨by simpa using hr, h⟩⟩
def je (ops : Array Oper) (d : List Nat) (s i : Nat) : Bool := !((mkL ops.size d).getD s true) && (match ops[s]? with | some os => os.after.any fun e => Region.binds .any e && e.on == i | none => false) && !(i == s)
def kO (s i : Nat) : Bool := !(i == s)
theorem nG {i : Nat} (h : je ops d s i = true) : (mkL ops.size d).getD s true = false ∧ (∃ os, ops[s]? = some os ∧ ∃ e ∈ os.after, Region.binds .any e = true ∧ e.on = i) ∧ i ≠ s := by
  simp only [je, Bool.and_eq_true, Bool.not_eq_true'] at h
  obtain ⟨⟨h1, h2⟩, h3⟩ := h
  refine ⟨h1, ?_, by simpa using h3⟩
  cases ho : ops[s]? with
  | none => rw [ho] at h2; cases h2
  | some os =>
    rw [ho] at h2
    simp only [Array.any_eq_true'] at h2
    obtain ⟨e, h4, h5⟩ := h2
    simp only [Bool.and_eq_true, beq_iff_eq] at h5
    exact ⟨os, rfl, e, h4, h5.1, h5.2⟩
theorem uP (i : Nat) {v : V} (hG : G H) (he : je ops d s i = true) (ho : ops[i]? = some o) (hc : ue ops d i = true) (hw : yc ops ⟨l, H, m⟩ o = some true) (hs : ∀ H, G H → z7 P o (St.ev ⟨l, H, m⟩) H v H) (hp : wv l H o.dst v = some (l', K)) (hk : APerS P ops s G (i :: d) n Q ⟨l', K, m⟩) : APerS P ops s G d (n + 1) Q ⟨l, H, m⟩ := by
  simp only [ue, Bool.and_eq_true] at hc
  obtain ⟨e1, e2, e3⟩ := nG he
  refine ⟨tU (B := True) ho e3 (fun _ => e2) n _ _ (fun _ => hG) (fun _ => e1) (Region.free_spec ho hc.1) (by simpa using hc.2) (Or.inl ⟨hw, fun H1 h1 => hs H1 (h1 trivial)⟩) ?_⟩
  rw [show (⟨l, H, m⟩ : St).put o.dst v (⟨l, H, m⟩ : St).H = ⟨l', K, m⟩ from yu hp m]
  exact hk.out
theorem p9 (i : Nat) {v : V} (hG : (mkL ops.size d).getD s true = true ∨ G H) (he : kO s i = true) (ho : ops[i]? = some o) (hc : ue ops d i = true) (hw : yc ops ⟨l, H, m⟩ o = some true) (hs : ∀ H, z7 P o (St.ev ⟨l, H, m⟩) H v H) (hp : wv l H o.dst v = some (l', K)) (hk : APerS P ops s G (i :: d) n Q ⟨l', K, m⟩) : APerS P ops s G d (n + 1) Q ⟨l, H, m⟩ := by
  simp only [ue, Bool.and_eq_true] at hc
  refine ⟨tU (B := False) ho (by simpa [kO] using he) (fun h => h.elim) n _ _ (fun hb => hG.resolve_left (by rw [hb]; decide)) (fun h => h.elim) (Region.free_spec ho hc.1) (by simpa using hc.2) (Or.inl ⟨hw, fun H1 h1 => hs H1⟩) ?_⟩
  rw [show (⟨l, H, m⟩ : St).put o.dst v (⟨l, H, m⟩ : St).H = ⟨l', K, m⟩ from yu hp m]
  exact hk.out
theorem ye (i : Nat) {v : V} [hT : TabC P T] (hG : (mkL ops.size d).getD s true = true ∨ G H) (he : kO s i = true) (ho : ops[i]? = some o) (hc : ue ops d i = true) (hw : yc ops ⟨l, H, m⟩ o = some true) (h : ∀ H, uH T l H o.op = some (v, H)) (hp : wv l H o.dst v = some (l', K)) (hk : APerS P ops s G (i :: d) n Q ⟨l', K, m⟩) : APerS P ops s G d (n + 1) Q ⟨l, H, m⟩ :=
  p9 i hG he ho hc hw (fun H1 => wN (m := m) hT.ok (h H1)) hp hk
theorem wo (i : Nat) {v : V} (hr : (Region.ready .any ops (mkL ops.size d) == [i]) = true) (ho : ops[i]? = some o) (hw : yc ops ⟨l, H, m⟩ o = some true) (hs : z7 P o (St.ev ⟨l, H, m⟩) H v H') (hG : (mkL ops.size (i :: d)).getD s true = true ∨ G H') (hp : wv l H' o.dst v = some (l', K)) (hk : APerS P ops s G (i :: d) n Q ⟨l', K, m⟩) : APerS P ops s G d (n + 1) Q ⟨l, H, m⟩ := by
  have hr' : Region.ready .any ops (mkL ops.size d) = [i] := by simpa using hr
  refine ⟨⟨fun h0 => (by rw [h0] at hr'; cases hr'), fun x hx => ?_⟩⟩
  rw [hr'] at hx
  simp at hx
  subst hx
  unfold uw
  rw [ho]
  refine Or.inl ⟨hw, _, .of hs, fun v1 H1 hq hb => ?_, fun v1 H1 hq => ?_⟩
  · obtain ⟨_, rfl⟩ := hq
    refine hG.resolve_left (fun ht => ?_)
    have hb' : (mkL ops.size (x :: d)).getD s true = false := hb
    rw [ht] at hb'
    cases hb'
  · obtain ⟨rfl, rfl⟩ := hq
    rw [yu hp m]
    exact hk.out
theorem eI (i : Nat) {post : V → List Reg → Prop} (hr : (Region.ready .any ops (mkL ops.size d) == [i]) = true) (ho : ops[i]? = some o) (hw : yc ops ⟨l, H, m⟩ o = some true) (hs : vM P o (St.ev ⟨l, H, m⟩) H post) (hG : ∀ v H', post v H' → (mkL ops.size (i :: d)).getD s true = true ∨ G H') (hk : ∀ v H', post v H' → ∃ l' K, wv l H' o.dst v = some (l', K) ∧ APerS P ops s G (i :: d) n Q ⟨l', K, m⟩) : APerS P ops s G d (n + 1) Q ⟨l, H, m⟩ := by
  have hr' : Region.ready .any ops (mkL ops.size d) = [i] := by simpa using hr
  refine ⟨⟨fun h0 => (by rw [h0] at hr'; cases hr'), fun x hx => ?_⟩⟩
  rw [hr'] at hx
  simp at hx
  subst hx
  unfold uw
  rw [ho]
  refine Or.inl ⟨hw, post, hs, fun v1 H1 hq hb => ?_, fun v1 H1 hq => ?_⟩
  · refine (hG v1 H1 hq).resolve_left (fun ht => ?_)
    have hb' : (mkL ops.size (x :: d)).getD s true = false := hb
    rw [ht] at hb'
    cases hb'
  · obtain ⟨l', K, hp, hk⟩ := hk v1 H1 hq
    rw [yu hp m]
    exact hk.out
theorem x3 (i : Nat) {v : V} [hT : TabC P T] (hr : (Region.ready .any ops (mkL ops.size d) == [i]) = true) (ho : ops[i]? = some o) (hw : yc ops ⟨l, H, m⟩ o = some true) (h : uH T l H o.op = some (v, H')) (hG : (mkL ops.size (i :: d)).getD s true = true ∨ G H') (hp : wv l H' o.dst v = some (l', K)) (hk : APerS P ops s G (i :: d) n Q ⟨l', K, m⟩) : APerS P ops s G d (n + 1) Q ⟨l, H, m⟩ :=
  wo i hr ho hw (wN hT.ok h) hG hp hk
end
end Go.Proofs.Ytojcojanokhnaaa.Ab
namespace Go.Proofs.Ytojcojanokhnaaa.Ab
open Go.RowKit
theorem eP {l : List V} {H : List Reg} {al : Bool} {t : Tmp} {n : Nat} {v r : V} {K : List Reg} (ψ : List Nat) (hv : CellIs l H t n v) (hr : Le ψ r v) (hH : HLe ψ K H) (hal : al = true ∨ (sR r = true ∧ ∀ q ∈ K, q.mode ≠ 1 ∧ (q.mode = 0 → uM q.cells))) :
    (Exit.ret = .ret ∨ Exit.ret = .normal) ∧ ∃ v, CellIs l H t n v ∧ Out al r K v ⟨l, H, 0⟩ := ⟨Or.inl rfl, v, hv, qU (S := ⟨l, H, 0⟩) ψ (fun i hi => absurd hi (Nat.not_lt_zero _)) hH hr hal⟩
abbrev soO (b : Nat) (s : So) : List V := [.sl b 0 s.input.length, I s.pos, .sl (b + 1) 0 s.heap.length, .sl (b + 2) 0 s.dfr.length, .sl (b + 3) 0 s.out.length, .sl (b + 4) 0 s.runs.length, I s.lp, I s.rp, I s.ph, I s.wr]
abbrev soR (b : Nat) (s : So) : List Reg := rwR s.input :: rwR s.heap :: rwR s.dfr :: rwR s.out :: ⟨84, 1, nC (b + 5) s.runs, 0⟩ :: nR rwT 78 s.runs
theorem vG (xs : List Rw) : (rwR xs).mode ≠ 1 ∧ ((rwR xs).mode = 0 → uM (rwR xs).cells) := ⟨Nat.zero_ne_one, fun _ => (xg _).flatS⟩
theorem qz (b : Nat) (s : So) : ∀ q ∈ soR b s, q.mode ≠ 1 ∧ (q.mode = 0 → uM q.cells) := fun q hq => by
  rcases List.mem_cons.1 hq with rfl | hq
  · exact vG _
  rcases List.mem_cons.1 hq with rfl | hq
  · exact vG _
  rcases List.mem_cons.1 hq with rfl | hq
  · exact vG _
  rcases List.mem_cons.1 hq with rfl | hq
  · exact vG _
  rcases List.mem_cons.1 hq with rfl | hq
  · exact ⟨Nat.zero_ne_one, fun _ => sH _ _⟩
  · obtain ⟨x, _, rfl⟩ := List.mem_map.1 hq
    exact vG _
theorem sW (s : So) (hok : okSo s) : zy Go.Proofs.Try.prog 56 [.agg (soE s)] [] (.agg (soO 0 s)) (soR 0 s) false := by
  have g1 := hok.input
  have g2 := hok.heap
  have g3 := hok.dfr
  have g4 := hok.out
  refine xo 2 27 Go.Proofs.Try.func56 rfl rfl ?_
  simp only [Go.Proofs.Try.ntmps56, List.length_cons, List.length_nil, Nat.reduceAdd, Nat.reduceSub, List.replicate_succ, List.replicate_zero, List.cons_append, List.nil_append]
  repeat' first | refine zK ?_ | refine zA ?_ | (refine isA ?_; refine zf rfl ?_) | (refine isL ?_; refine zU rfl (by kernel_rfl) rfl rfl ?_) | (refine zb rfl ?_; refine zT rfl (by kernel_rfl) rfl rfl ?_) | refine zD ?_ | refine zB _ rfl (by kernel_rfl) ?_ | refine zV rfl ?_ | refine zW rfl ?_ | refine zC ?_ | with_reducible refine zO ?_ | refine zH ?_ | refine zI ?_ | (with_reducible first | refine zM ?_ | refine zN ?_ | refine zE ?_ | refine zG ?_ | refine zF ?_) | refine zP ?_
  refine ur 16 (fun H => H[0]? = some (⟨27, 10, soE s, 0⟩ : Reg)) 25 rfl ?_
  refine ye 0 (Or.inr rfl) rfl rfl (by kernel_rfl) rfl (fun _ => rfl) rfl ?_
  refine uP 1 rfl (by kernel_rfl) rfl (by kernel_rfl) rfl (fun _ hG => xl rfl rfl hG rfl rfl) rfl ?_
  refine ye 3 (Or.inr rfl) rfl rfl (by kernel_rfl) rfl (fun _ => rfl) rfl ?_
  refine uP 4 rfl (by kernel_rfl) rfl (by kernel_rfl) rfl (fun _ hG => xl rfl rfl hG rfl rfl) rfl ?_
  refine ye 6 (Or.inr rfl) rfl rfl (by kernel_rfl) rfl (fun _ => rfl) rfl ?_
  refine uP 7 rfl (by kernel_rfl) rfl (by kernel_rfl) rfl (fun _ hG => xl rfl rfl hG rfl rfl) rfl ?_
  refine ye 9 (Or.inr rfl) rfl rfl (by kernel_rfl) rfl (fun _ => rfl) rfl ?_
  refine uP 10 rfl (by kernel_rfl) rfl (by kernel_rfl) rfl (fun _ hG => xl rfl rfl hG rfl rfl) rfl ?_
  refine ye 12 (Or.inr rfl) rfl rfl (by kernel_rfl) rfl (fun _ => rfl) rfl ?_
  refine uP 13 rfl (by kernel_rfl) rfl (by kernel_rfl) rfl (fun _ hG => xl rfl rfl hG rfl rfl) rfl ?_
  refine wo 2 (by kernel_rfl) rfl rfl (yd rfl (wM s.input (by omega)) (.cons (.same rfl) .nil) (fun q hq => by simp at hq; subst hq; exact zJ _ _) rfl rfl) (Or.inr rfl) rfl ?_
  refine ye 15 (Or.inr rfl) rfl rfl (by kernel_rfl) rfl (fun _ => rfl) rfl ?_
  refine wo 5 (by kernel_rfl) rfl rfl (yd rfl (wM s.heap (by omega)) (.cons (.same rfl) .nil) (fun q hq => by simp at hq; subst hq; exact zJ _ _) rfl rfl) (Or.inr rfl) rfl ?_
  refine wo 8 (by kernel_rfl) rfl rfl (yd rfl (wM s.dfr (by omega)) (.cons (.same rfl) .nil) (fun q hq => by simp at hq; subst hq; exact zJ _ _) rfl rfl) (Or.inr rfl) rfl ?_
  refine wo 11 (by kernel_rfl) rfl rfl (yd rfl (wM s.out (by omega)) (.cons (.same rfl) .nil) (fun q hq => by simp at hq; subst hq; exact zJ _ _) rfl rfl) (Or.inr rfl) rfl ?_
  refine wo 14 (by kernel_rfl) rfl rfl (yA (r' := .sl 6 0 s.runs.length) (H' := [⟨27, 10, soE s, 0⟩, ⟨27, 10, [wq, I 0, wq, wq, wq, wq, I 0, I 0, I 0, I 0], 0⟩, rwR s.input, rwR s.heap, rwR s.dfr, rwR s.out] ++ (⟨84, 1, nC 7 s.runs, 0⟩ :: nR rwT 78 s.runs)) rfl (gB s.runs hok.rn) (.cons (.same rfl) .nil) rfl (by rw [gh]; rfl)) (Or.inr rfl) rfl ?_
  refine x3 16 (by kernel_rfl) rfl rfl rfl (Or.inl (by kernel_rfl)) rfl ?_
  refine ye 17 (Or.inl (by kernel_rfl)) rfl rfl (by kernel_rfl) rfl (fun _ => rfl) rfl ?_
  refine x3 18 (by kernel_rfl) rfl rfl rfl (Or.inl (by kernel_rfl)) rfl ?_
  refine ye 19 (Or.inl (by kernel_rfl)) rfl rfl (by kernel_rfl) rfl (fun _ => rfl) rfl ?_
  refine x3 20 (by kernel_rfl) rfl rfl rfl (Or.inl (by kernel_rfl)) rfl ?_
  refine ye 21 (Or.inl (by kernel_rfl)) rfl rfl (by kernel_rfl) rfl (fun _ => rfl) rfl ?_
  refine x3 22 (by kernel_rfl) rfl rfl rfl (Or.inl (by kernel_rfl)) rfl ?_
  refine ye 23 (Or.inl (by kernel_rfl)) rfl rfl (by kernel_rfl) rfl (fun _ => rfl) rfl ?_
  refine x3 24 (by kernel_rfl) rfl rfl rfl (Or.inl (by kernel_rfl)) rfl ?_
  refine vH (by kernel_rfl) ?_
  have hR : ∀ j x, s.runs[j]? = some x → ([⟨27, 10, [.sl 2 0 s.input.length, I s.pos, .sl 3 0 s.heap.length, .sl 4 0 s.dfr.length, .sl 5 0 s.out.length, .sl 6 0 s.runs.length, I s.lp, I s.rp, I s.ph, I s.wr], 0⟩, ⟨27, 10, [.sl 2 0 s.input.length, I s.pos, .sl 3 0 s.heap.length, .sl 4 0 s.dfr.length, .sl 5 0 s.out.length, .sl 6 0 s.runs.length, I s.lp, I s.rp, I s.ph, I s.wr], 0⟩, rwR s.input, rwR s.heap, rwR s.dfr, rwR s.out, ⟨84, 1, nC 7 s.runs, 0⟩] ++ nR rwT 78 s.runs)[7 + j]? = some (rwR x) := lx (D := []) rfl (by rw [List.append_nil])
  repeat' first | refine zK ?_ | refine zA ?_ | refine zL [] ?_ | (refine isA ?_; refine zf rfl ?_) | (refine isL ?_; refine zU rfl (by kernel_rfl) rfl rfl ?_) | (refine zb rfl ?_; refine zT rfl (by kernel_rfl) rfl rfl ?_) | refine zD ?_ | refine zB _ rfl (by kernel_rfl) ?_ | refine zV rfl ?_ | refine zW rfl ?_ | refine zC ?_ | with_reducible refine zO ?_ | refine zH ?_ | refine zI ?_ | (with_reducible first | refine zM ?_ | refine zN ?_ | refine zE ?_ | refine zG ?_ | refine zF ?_) | refine zP ?_
  exact eP ([2, 3, 4, 5, 6] ++ List.range' 7 s.runs.length) (yS rfl rfl rfl rfl rfl) (qX (by
        repeat' first | exact zg | refine zZ ?_ ?_ | exact le_refl rfl | exact zj rfl rfl)) (sP (hs := [2, 3, 4, 5, 6]) (K1 := [rwR s.input, rwR s.heap, rwR s.dfr, rwR s.out, ⟨84, 1, nC 5 s.runs, 0⟩]) (xG (by decide) (fun h hh => by simp at hh; omega)) (.cons rfl rfl rfl rfl (zY (zJ _ _)) (.cons rfl rfl rfl rfl (zY (zJ _ _)) (.cons rfl rfl rfl rfl (zY (zJ _ _)) (.cons rfl rfl rfl rfl (zY (zJ _ _)) (.cons rfl rfl rfl rfl (ws fun j hj => w7 [2, 3, 4, 5, 6] 7 s.runs.length j hj) .nil))))) hR) (Or.inr ⟨rfl, qz 0 s⟩)
end Go.Proofs.Ytojcojanokhnaaa.Ab
namespace Go.Proofs.Ytojcojanokhnaaa.Ab
open Go.RowKit
def uQ (a b : Int) : Int := cond (decide (a < b)) (-1) (cond (decide (b < a)) 1 0)
def uU : List Int → List Int → Int
  | x :: xs, y :: ys => cond (decide (x < y)) (-1) (cond (decide (y < x)) 1 (uU xs ys))
  | _, _ => 0
def rwN (x : Rw) : List Int := [x.a, x.b, x.c]
def yr (x y : Rw) : Int := uU (rwN x) (rwN y)
theorem v5 (a b : Int) : zy Go.Proofs.Try.prog 117 [I a, I b] [] (I (uQ a b)) [] false := by
  refine zw [4] Go.Proofs.Try.func117 rfl rfl ?_
  simp only [Go.Proofs.Try.ntmps117, List.length_cons, List.length_nil, Nat.reduceAdd, Nat.reduceSub, List.replicate_succ, List.replicate_zero, List.cons_append, List.nil_append]
  repeat' first | refine zK ?_ | refine zA ?_ | refine zL [] ?_ | (refine isA ?_; refine zf rfl ?_) | (refine isL ?_; refine zU rfl (by kernel_rfl) rfl rfl ?_) | (refine zb rfl ?_; refine zT rfl (by kernel_rfl) rfl rfl ?_) | exact yK rfl rfl (by simp only [uQ, *, cond_true, cond_false]) | refine zD ?_ | refine zB _ rfl (by kernel_rfl) ?_ | refine zV rfl ?_ | refine zW rfl ?_ | refine zC ?_ | with_reducible refine zO ?_ | refine zH ?_ | refine zI ?_ | (with_reducible first | refine zM ?_ | refine zN ?_ | refine zE ?_ | refine zG ?_ | refine zF ?_) | refine zP ?_ | refine zd rfl (fun hbr => ?_) (fun hbr => ?_) | (refine wB ?_; refine yW rfl rfl (fun hbr => ?_) (fun hbr => ?_) <;> (fail_if_success (with_reducible (have hx : true = true := hbr))) <;> (fail_if_success (with_reducible (have hx : false = false := hbr)))) | (refine zb rfl ?_; refine yI rfl rfl rfl rfl (fun hbr => ?_) (fun hbr => ?_) <;> (fail_if_success (with_reducible (have hx : true = true := hbr))) <;> (fail_if_success (with_reducible (have hx : false = false := hbr))))
theorem ji {a b : Int} {xs ys : List Int} (h : uQ a b ≠ 0) : uU (a :: xs) (b :: ys) = uQ a b := by
  rw [uU]
  unfold uQ at h ⊢
  generalize decide (a < b) = p at h ⊢
  generalize decide (b < a) = q at h ⊢
  cases p
  · cases q
    · exact absurd rfl h
    · rfl
  · rfl
theorem nH {a b : Int} {xs ys : List Int} (h : uQ a b = 0) : uU (a :: xs) (b :: ys) = uU xs ys := by
  rw [uU]
  unfold uQ at h
  generalize decide (a < b) = p at h ⊢
  generalize decide (b < a) = q at h ⊢
  cases p
  · cases q
    · rfl
    · cases h
  · cases h
theorem gq {a b : Int} : uU [a] [b] = uQ a b := rfl
theorem xb (x y : Rw) : zy Go.Proofs.Try.prog 64 [.agg (rwE x), .agg (rwE y)] [] (I (yr x y)) [] false := by
  refine zw [4] Go.Proofs.Try.func64 rfl rfl ?_
  simp only [Go.Proofs.Try.ntmps64, List.length_cons, List.length_nil, Nat.reduceAdd, Nat.reduceSub, List.replicate_succ, List.replicate_zero, List.cons_append, List.nil_append]
  repeat' first | refine zK ?_ | refine zA ?_ | refine zL [] ?_ | (refine isA ?_; refine zf rfl ?_) | (refine isL ?_; refine zU rfl (by kernel_rfl) rfl rfl ?_) | (refine zb rfl ?_; refine zT rfl (by kernel_rfl) rfl rfl ?_) | (refine zu 117 ?_; refine zc rfl (zQ rfl (v5 _ _) (.cons (.same rfl) (.cons (.same rfl) .nil)) rfl) rfl ?_) | (refine zv 117 rfl ?_; refine zX rfl (by kernel_rfl) rfl (zQ rfl (v5 _ _) (.cons (.same rfl) (.cons (.same rfl) .nil)) rfl) rfl ?_) | refine zD ?_ | refine zB _ rfl (by kernel_rfl) ?_ | refine zV rfl ?_ | refine zW rfl ?_ | refine zC ?_ | with_reducible refine zO ?_ | refine zH ?_ | refine zI ?_ | (with_reducible first | refine zM ?_ | refine zN ?_ | refine zE ?_ | refine zG ?_ | refine zF ?_) | refine zP ?_
  refine zd rfl (fun h => ?_) (fun h => ?_)
  · have h1 : uQ x.a y.a ≠ 0 := by simpa using h
    have e : yr x y = uQ x.a y.a := ji h1
    repeat' first | refine zK ?_ | refine zA ?_ | refine zL [] ?_ | (refine isA ?_; refine zf rfl ?_) | (refine isL ?_; refine zU rfl (by kernel_rfl) rfl rfl ?_) | (refine zb rfl ?_; refine zT rfl (by kernel_rfl) rfl rfl ?_) | exact yK rfl rfl (by rw [e]) | refine zD ?_ | refine zB _ rfl (by kernel_rfl) ?_ | refine zV rfl ?_ | refine zW rfl ?_ | refine zC ?_ | with_reducible refine zO ?_ | refine zH ?_ | refine zI ?_ | (with_reducible first | refine zM ?_ | refine zN ?_ | refine zE ?_ | refine zG ?_ | refine zF ?_) | refine zP ?_
  have h1 : uQ x.a y.a = 0 := by simpa using h
  repeat' first | refine zK ?_ | refine zA ?_ | refine zL [] ?_ | (refine isA ?_; refine zf rfl ?_) | (refine isL ?_; refine zU rfl (by kernel_rfl) rfl rfl ?_) | (refine zb rfl ?_; refine zT rfl (by kernel_rfl) rfl rfl ?_) | (refine zu 117 ?_; refine zc rfl (zQ rfl (v5 _ _) (.cons (.same rfl) (.cons (.same rfl) .nil)) rfl) rfl ?_) | (refine zv 117 rfl ?_; refine zX rfl (by kernel_rfl) rfl (zQ rfl (v5 _ _) (.cons (.same rfl) (.cons (.same rfl) .nil)) rfl) rfl ?_) | refine zD ?_ | refine zB _ rfl (by kernel_rfl) ?_ | refine zV rfl ?_ | refine zW rfl ?_ | refine zC ?_ | with_reducible refine zO ?_ | refine zH ?_ | refine zI ?_ | (with_reducible first | refine zM ?_ | refine zN ?_ | refine zE ?_ | refine zG ?_ | refine zF ?_) | refine zP ?_
  refine zd rfl (fun h => ?_) (fun h => ?_)
  · have h2 : uQ x.b y.b ≠ 0 := by simpa using h
    have e : yr x y = uQ x.b y.b := (nH h1).trans (ji h2)
    repeat' first | refine zK ?_ | refine zA ?_ | refine zL [] ?_ | (refine isA ?_; refine zf rfl ?_) | (refine isL ?_; refine zU rfl (by kernel_rfl) rfl rfl ?_) | (refine zb rfl ?_; refine zT rfl (by kernel_rfl) rfl rfl ?_) | exact yK rfl rfl (by rw [e]) | refine zD ?_ | refine zB _ rfl (by kernel_rfl) ?_ | refine zV rfl ?_ | refine zW rfl ?_ | refine zC ?_ | with_reducible refine zO ?_ | refine zH ?_ | refine zI ?_ | (with_reducible first | refine zM ?_ | refine zN ?_ | refine zE ?_ | refine zG ?_ | refine zF ?_) | refine zP ?_
  have h2 : uQ x.b y.b = 0 := by simpa using h
  have e : yr x y = uQ x.c y.c := (nH h1).trans ((nH h2).trans gq)
  repeat' first | refine zK ?_ | refine zA ?_ | refine zL [] ?_ | (refine isA ?_; refine zf rfl ?_) | (refine isL ?_; refine zU rfl (by kernel_rfl) rfl rfl ?_) | (refine zb rfl ?_; refine zT rfl (by kernel_rfl) rfl rfl ?_) | (refine zu 117 ?_; refine zc rfl (zQ rfl (v5 _ _) (.cons (.same rfl) (.cons (.same rfl) .nil)) rfl) rfl ?_) | (refine zv 117 rfl ?_; refine zX rfl (by kernel_rfl) rfl (zQ rfl (v5 _ _) (.cons (.same rfl) (.cons (.same rfl) .nil)) rfl) rfl ?_) | exact yK rfl rfl (by rw [e]) | refine zD ?_ | refine zB _ rfl (by kernel_rfl) ?_ | refine zV rfl ?_ | refine zW rfl ?_ | refine zC ?_ | with_reducible refine zO ?_ | refine zH ?_ | refine zI ?_ | (with_reducible first | refine zM ?_ | refine zN ?_ | refine zE ?_ | refine zG ?_ | refine zF ?_) | refine zP ?_
def vc : Ty Int := ⟨1, fun n => [I n], fun _ => rfl, by decide, fun r c hc => by
  simp only [List.mem_cons, List.not_mem_nil, or_false] at hc
  subst hc
  exact ⟨rfl, rfl⟩⟩
theorem eV {xs ys : List Int} {i : Nat} {a b : Int} (hx : xs[i]? = some a) (hy : ys[i]? = some b) : uU (xs.drop i) (ys.drop i) = cond (decide (a < b)) (-1) (cond (decide (b < a)) 1 (uU (xs.drop (i + 1)) (ys.drop (i + 1)))) := by
  rw [yE hx, yE hy, uU]
theorem xa (x y : Rw) : zy Go.Proofs.Try.prog 68 [.agg (rwE x), .agg (rwE y)] [] (I (yr x y)) [] false := by
  refine zw [4] Go.Proofs.Try.func68 rfl rfl ?_
  simp only [Go.Proofs.Try.ntmps68, List.length_cons, List.length_nil, Nat.reduceAdd, Nat.reduceSub, List.replicate_succ, List.replicate_zero, List.cons_append, List.nil_append]
  repeat' first | refine zK ?_ | refine zA ?_ | refine zL [] ?_ | (refine isA ?_; refine zf rfl ?_) | (refine isL ?_; refine zU rfl (by kernel_rfl) rfl rfl ?_) | (refine zb rfl ?_; refine zT rfl (by kernel_rfl) rfl rfl ?_) | refine zD ?_ | refine zB _ rfl (by kernel_rfl) ?_ | refine zV rfl ?_ | refine zW rfl ?_ | refine zC ?_ | with_reducible refine zO ?_ | refine zH ?_ | refine zI ?_ | (with_reducible first | refine zM ?_ | refine zN ?_ | refine zE ?_ | refine zG ?_ | refine zF ?_) | refine zP ?_
  refine z9 (α := { i : Nat // i ≤ 3 ∧ uU ((rwN x).drop i) ((rwN y).drop i) = yr x y }) (fun i => ⟨[.any, .any, .any, .any, .any, .sl 0 0 3, .sl 1 0 3, I i.1, .any, .any, .any, .any, .any, .any, .any, .any, .any, .any, .any, .any, .any, .any, .any, .any, .any, .any, .any, .any, .any, .any, .any, .any, .any, .any, .any, .any, .any, .any, .any, .any, .any, .any, .any, .any], [xL vc 3 (rwN x), xL vc 3 (rwN y)], 0⟩) (fun i => 3 - i.1) ⟨0, Nat.zero_le _, rfl⟩ ?_ ?_
  · exact yb [2, 3] rfl rfl (by decide) (.cons rfl rfl rfl rfl (z6 rfl) (.cons rfl rfl rfl rfl (z6 rfl) .nil)) (by repeat' first | exact zg | refine zZ ?_ ?_ | exact zo | exact le_refl rfl | exact zj rfl rfl | exact zt rfl)
  · rintro ⟨i, hi, hq⟩
    repeat' first | refine zK ?_ | refine zA ?_ | refine zL [] ?_ | (refine isA ?_; refine zf rfl ?_) | (refine isL ?_; refine zU rfl (by kernel_rfl) rfl rfl ?_) | (refine zb rfl ?_; refine zT rfl (by kernel_rfl) rfl rfl ?_) | refine zD ?_ | refine zB _ rfl (by kernel_rfl) ?_ | refine zV rfl ?_ | refine zW rfl ?_ | refine zC ?_ | with_reducible refine zO ?_ | refine zH ?_ | refine zI ?_ | (with_reducible first | refine zM ?_ | refine zN ?_ | refine zE ?_ | refine zG ?_ | refine zF ?_) | refine zP ?_
    refine zd rfl (fun h => ?_) (fun h => ?_)
    · have hlt : i < 3 := by have := of_decide_eq_true h; simp only at this; omega
      obtain ⟨a, ha⟩ : ∃ z, (rwN x)[i]? = some z := ⟨_, List.getElem?_eq_getElem hlt⟩
      obtain ⟨b, hb⟩ : ∃ z, (rwN y)[i]? = some z := ⟨_, List.getElem?_eq_getElem hlt⟩
      rw [eV ha hb] at hq
      repeat' first | refine zK ?_ | refine zA ?_ | refine zL [] ?_ | (refine isA ?_; refine zf rfl ?_) | (refine isL ?_; refine zU rfl (by kernel_rfl) rfl rfl ?_) | (refine zb rfl ?_; refine zT rfl (by kernel_rfl) rfl rfl ?_) | (refine yG (x := .tmp 26) ?_; refine zc rfl (sg (t := vc) (xs := rwN x) rfl rfl rfl rfl rfl (Int.natCast_nonneg i) (by simp only; show (i : Int) < 3; omega)) rfl ?_) | (refine yF (x := .tmp 26) rfl ?_; refine zX rfl (by kernel_rfl) rfl (sg (t := vc) (xs := rwN x) rfl rfl rfl rfl rfl (Int.natCast_nonneg i) (by simp only; show (i : Int) < 3; omega)) rfl ?_) | (refine yG (x := .tmp 30) ?_; refine zc rfl (sg (t := vc) (xs := rwN y) rfl rfl rfl rfl rfl (Int.natCast_nonneg i) (by simp only; show (i : Int) < 3; omega)) rfl ?_) | (refine yF (x := .tmp 30) rfl ?_; refine zX rfl (by kernel_rfl) rfl (sg (t := vc) (xs := rwN y) rfl rfl rfl rfl rfl (Int.natCast_nonneg i) (by simp only; show (i : Int) < 3; omega)) rfl ?_) | (refine wT (x := .tmp 28) ?_; refine zc rfl (pN (T := vc) (i := i) (off := 0) (xs := rwN x) (z := a) rfl rfl rfl ha rfl) rfl ?_) | (refine wW (x := .tmp 28) rfl ?_; refine zX rfl (by kernel_rfl) rfl (pN (T := vc) (i := i) (off := 0) (xs := rwN x) (z := a) rfl rfl rfl ha rfl) rfl ?_) | (refine wT (x := .tmp 32) ?_; refine zc rfl (pN (T := vc) (i := i) (off := 0) (xs := rwN y) (z := b) rfl rfl rfl hb rfl) rfl ?_) | (refine wW (x := .tmp 32) rfl ?_; refine zX rfl (by kernel_rfl) rfl (pN (T := vc) (i := i) (off := 0) (xs := rwN y) (z := b) rfl rfl rfl hb rfl) rfl ?_) | refine zD ?_ | refine zB _ rfl (by kernel_rfl) ?_ | refine zV rfl ?_ | refine zW rfl ?_ | refine zC ?_ | with_reducible refine zO ?_ | refine zH ?_ | refine zI ?_ | (with_reducible first | refine zM ?_ | refine zN ?_ | refine zE ?_ | refine zG ?_ | refine zF ?_) | refine zP ?_
      refine zd rfl (fun h1 => ?_) (fun h1 => ?_)
      · rw [h1, cond_true] at hq
        repeat' first | refine zK ?_ | refine zA ?_ | refine zL [] ?_ | (refine isA ?_; refine zf rfl ?_) | (refine isL ?_; refine zU rfl (by kernel_rfl) rfl rfl ?_) | (refine zb rfl ?_; refine zT rfl (by kernel_rfl) rfl rfl ?_) | exact yK rfl rfl (congrArg I hq) | refine zD ?_ | refine zB _ rfl (by kernel_rfl) ?_ | refine zV rfl ?_ | refine zW rfl ?_ | refine zC ?_ | with_reducible refine zO ?_ | refine zH ?_ | refine zI ?_ | (with_reducible first | refine zM ?_ | refine zN ?_ | refine zE ?_ | refine zG ?_ | refine zF ?_) | refine zP ?_
      rw [h1, cond_false] at hq
      repeat' first | refine zK ?_ | refine zA ?_ | refine zL [] ?_ | (refine isA ?_; refine zf rfl ?_) | (refine isL ?_; refine zU rfl (by kernel_rfl) rfl rfl ?_) | (refine zb rfl ?_; refine zT rfl (by kernel_rfl) rfl rfl ?_) | (refine yG (x := .tmp 35) ?_; refine zc rfl (sg (t := vc) (xs := rwN x) rfl rfl rfl rfl rfl (Int.natCast_nonneg i) (by simp only; show (i : Int) < 3; omega)) rfl ?_) | (refine yF (x := .tmp 35) rfl ?_; refine zX rfl (by kernel_rfl) rfl (sg (t := vc) (xs := rwN x) rfl rfl rfl rfl rfl (Int.natCast_nonneg i) (by simp only; show (i : Int) < 3; omega)) rfl ?_) | (refine yG (x := .tmp 39) ?_; refine zc rfl (sg (t := vc) (xs := rwN y) rfl rfl rfl rfl rfl (Int.natCast_nonneg i) (by simp only; show (i : Int) < 3; omega)) rfl ?_) | (refine yF (x := .tmp 39) rfl ?_; refine zX rfl (by kernel_rfl) rfl (sg (t := vc) (xs := rwN y) rfl rfl rfl rfl rfl (Int.natCast_nonneg i) (by simp only; show (i : Int) < 3; omega)) rfl ?_) | (refine wT (x := .tmp 37) ?_; refine zc rfl (pN (T := vc) (i := i) (off := 0) (xs := rwN x) (z := a) rfl rfl rfl ha rfl) rfl ?_) | (refine wW (x := .tmp 37) rfl ?_; refine zX rfl (by kernel_rfl) rfl (pN (T := vc) (i := i) (off := 0) (xs := rwN x) (z := a) rfl rfl rfl ha rfl) rfl ?_) | (refine wT (x := .tmp 41) ?_; refine zc rfl (pN (T := vc) (i := i) (off := 0) (xs := rwN y) (z := b) rfl rfl rfl hb rfl) rfl ?_) | (refine wW (x := .tmp 41) rfl ?_; refine zX rfl (by kernel_rfl) rfl (pN (T := vc) (i := i) (off := 0) (xs := rwN y) (z := b) rfl rfl rfl hb rfl) rfl ?_) | refine zD ?_ | refine zB _ rfl (by kernel_rfl) ?_ | refine zV rfl ?_ | refine zW rfl ?_ | refine zC ?_ | with_reducible refine zO ?_ | refine zH ?_ | refine zI ?_ | (with_reducible first | refine zM ?_ | refine zN ?_ | refine zE ?_ | refine zG ?_ | refine zF ?_) | refine zP ?_
      refine zd rfl (fun h2 => ?_) (fun h2 => ?_)
      · rw [h2, cond_true] at hq
        repeat' first | refine zK ?_ | refine zA ?_ | refine zL [] ?_ | (refine isA ?_; refine zf rfl ?_) | (refine isL ?_; refine zU rfl (by kernel_rfl) rfl rfl ?_) | (refine zb rfl ?_; refine zT rfl (by kernel_rfl) rfl rfl ?_) | exact yK rfl rfl (congrArg I hq) | refine zD ?_ | refine zB _ rfl (by kernel_rfl) ?_ | refine zV rfl ?_ | refine zW rfl ?_ | refine zC ?_ | with_reducible refine zO ?_ | refine zH ?_ | refine zI ?_ | (with_reducible first | refine zM ?_ | refine zN ?_ | refine zE ?_ | refine zG ?_ | refine zF ?_) | refine zP ?_
      rw [h2, cond_false] at hq
      repeat' first | refine zK ?_ | refine zA ?_ | refine zL [] ?_ | (refine isA ?_; refine zf rfl ?_) | (refine isL ?_; refine zU rfl (by kernel_rfl) rfl rfl ?_) | (refine zb rfl ?_; refine zT rfl (by kernel_rfl) rfl rfl ?_) | refine zD ?_ | refine zB _ rfl (by kernel_rfl) ?_ | refine zV rfl ?_ | refine zW rfl ?_ | refine zC ?_ | with_reducible refine zO ?_ | refine zH ?_ | refine zI ?_ | (with_reducible first | refine zM ?_ | refine zN ?_ | refine zE ?_ | refine zG ?_ | refine zF ?_) | refine zP ?_
      refine ⟨⟨i + 1, hlt, hq⟩, by simp only; omega, ?_⟩
      exact yb [0, 1] rfl rfl (by decide) (.cons rfl rfl rfl rfl (z6 rfl) (.cons rfl rfl rfl rfl (z6 rfl) .nil)) (by
        repeat' first | exact zg | refine zZ ?_ ?_ | exact zo | exact le_refl rfl | exact zj rfl rfl | exact xI hlt (by omega))
    · have hge : i = 3 := by have := of_decide_eq_false h; simp only at this; omega
      subst hge
      repeat' first | refine zK ?_ | refine zA ?_ | refine zL [] ?_ | (refine isA ?_; refine zf rfl ?_) | (refine isL ?_; refine zU rfl (by kernel_rfl) rfl rfl ?_) | (refine zb rfl ?_; refine zT rfl (by kernel_rfl) rfl rfl ?_) | exact yK rfl rfl (congrArg I hq) | refine zD ?_ | refine zB _ rfl (by kernel_rfl) ?_ | refine zV rfl ?_ | refine zW rfl ?_ | refine zC ?_ | with_reducible refine zO ?_ | refine zH ?_ | refine zI ?_ | (with_reducible first | refine zM ?_ | refine zN ?_ | refine zE ?_ | refine zG ?_ | refine zF ?_) | refine zP ?_
def mgV : List Rw → List Rw → List Rw
  | [], ys => ys
  | x :: xs, [] => x :: xs
  | x :: xs, y :: ys => cond (decide (yr x y ≤ 0)) (x :: mgV xs (y :: ys)) (y :: mgV (x :: xs) ys)
termination_by xs ys => xs.length + ys.length
theorem vn (ys : List Rw) : mgV [] ys = ys := by rw [mgV]
theorem ug (xs : List Rw) : mgV xs [] = xs := by cases xs <;> rw [mgV]
theorem nk {x y : Rw} {xs ys : List Rw} (h : decide (yr x y ≤ 0) = true) : mgV (x :: xs) (y :: ys) = x :: mgV xs (y :: ys) := by rw [mgV, h, cond_true]
theorem nl {x y : Rw} {xs ys : List Rw} (h : decide (yr x y ≤ 0) = false) : mgV (x :: xs) (y :: ys) = y :: mgV (x :: xs) ys := by rw [mgV, h, cond_false]
theorem u7 : ∀ (xs ys : List Rw), (mgV xs ys).length = xs.length + ys.length
  | [], ys => by rw [vn]; simp
  | x :: xs, [] => by rw [ug]; simp
  | x :: xs, y :: ys => by
    cases h : decide (yr x y ≤ 0) with
    | true => rw [nk h, List.length_cons, u7 xs (y :: ys)]; simp; omega
    | false => rw [nl h, List.length_cons, u7 (x :: xs) ys]; simp; omega
termination_by xs ys => xs.length + ys.length
theorem mgA1 {a b : List Rw} {i k : Nat} {x : Rw} (hx : a[i]? = some x) (hk : b.length ≤ k) : mgV (a.drop i) (b.drop k) = x :: mgV (a.drop (i + 1)) (b.drop k) := by
  rw [yE hx, List.drop_of_length_le hk, ug, ug]
theorem mgA2 {a b : List Rw} {i k : Nat} {x y : Rw} (hx : a[i]? = some x) (hy : b[k]? = some y) (h : decide (yr x y ≤ 0) = true) : mgV (a.drop i) (b.drop k) = x :: mgV (a.drop (i + 1)) (b.drop k) := by
  rw [yE hx, yE hy, nk h]
theorem mgB1 {a b : List Rw} {i k : Nat} {x y : Rw} (hx : a[i]? = some x) (hy : b[k]? = some y) (h : decide (yr x y ≤ 0) = false) : mgV (a.drop i) (b.drop k) = y :: mgV (a.drop i) (b.drop (k + 1)) := by
  rw [yE hx, yE hy, nl h]
theorem mgB2 {a b : List Rw} {i k : Nat} {y : Rw} (hy : b[k]? = some y) (hi : a.length ≤ i) : mgV (a.drop i) (b.drop k) = y :: mgV (a.drop i) (b.drop (k + 1)) := by
  rw [yE hy, List.drop_of_length_le hi, vn, vn]
theorem fv (a b : List Rw) (h1 : a.length ≤ 100000000) (h2 : b.length ≤ 100000000) : zy Go.Proofs.Try.prog 87 [rwL a, rwL b] [] (.sl 0 0 (mgV a b).length) [rwR (mgV a b)] false := by
  refine zw [4] Go.Proofs.Try.func87 rfl rfl ?_
  simp only [Go.Proofs.Try.ntmps87, List.length_cons, List.length_nil, Nat.reduceAdd, Nat.reduceSub, List.replicate_succ, List.replicate_zero, List.cons_append, List.nil_append]
  repeat' first | refine zK ?_ | refine zA ?_ | refine zL [] ?_ | (refine isA ?_; refine zf rfl ?_) | (refine isL ?_; refine zU rfl (by kernel_rfl) rfl rfl ?_) | (refine zb rfl ?_; refine zT rfl (by kernel_rfl) rfl rfl ?_) | refine zD ?_ | refine zB _ rfl (by kernel_rfl) ?_ | refine zV rfl ?_ | refine zW rfl ?_ | refine zC ?_ | with_reducible refine zO ?_ | refine zH ?_ | refine zI ?_ | (with_reducible first | refine zM ?_ | refine zN ?_ | refine zE ?_ | refine zG ?_ | refine zF ?_) | refine zP ?_
  refine z9 (α := { p : Nat × Nat × List Rw // p.1 ≤ a.length ∧ p.2.1 ≤ b.length ∧ p.2.2.length = p.1 + p.2.1 ∧ p.2.2 ++ mgV (a.drop p.1) (b.drop p.2.1) = mgV a b }) (fun p => ⟨((rwL a) :: (rwL b) :: .any :: .any :: .any :: (.sl 0 0 p.1.2.2.length) :: (I p.1.1) :: (I p.1.2.1) :: .any :: .any :: .any :: .any :: .any :: .any :: .any :: .any :: .any :: .any :: .any :: .any :: .any :: .any :: .any :: .any :: .any :: .any :: .any :: .any :: .any :: .any :: .any :: .any :: .any :: .any :: .any :: .any :: .any :: .any :: .any :: .any :: .any :: .any :: .any :: .any :: .any :: .any :: .any :: .any :: .any :: .any :: .any :: .any :: .any :: .any :: .any :: .any :: .any :: .any :: .any :: .any :: []), [rwR p.1.2.2], 0⟩) (fun p => a.length + b.length - p.1.1 - p.1.2.1) ⟨(0, 0, []), Nat.zero_le _, Nat.zero_le _, rfl, rfl⟩ ?_ ?_
  · exact yb [0] rfl rfl (by decide) (.cons rfl rfl rfl rfl (zY (zJ _ _)) .nil) (by repeat' first | exact zg | refine zZ ?_ ?_ | exact zo | exact le_refl rfl | exact zj rfl rfl | exact zt rfl)
  · rintro ⟨⟨i, k, out⟩, hi, hk, ho, hq⟩
    simp only at hi hk ho hq
    repeat' first | refine zK ?_ | refine zA ?_ | refine zL [] ?_ | (refine isA ?_; refine zf rfl ?_) | (refine isL ?_; refine zU rfl (by kernel_rfl) rfl rfl ?_) | (refine zb rfl ?_; refine zT rfl (by kernel_rfl) rfl rfl ?_) | refine zD ?_ | refine zB _ rfl (by kernel_rfl) ?_ | refine zV rfl ?_ | refine zW rfl ?_ | refine zC ?_ | with_reducible refine zO ?_ | refine zH ?_ | refine zI ?_ | (with_reducible first | refine zM ?_ | refine zN ?_ | refine zE ?_ | refine zG ?_ | refine zF ?_) | refine zP ?_
    refine yW rfl rfl (fun p1 => ?_) (fun p1 => ?_)
    · have q1 : i < a.length := by have := of_decide_eq_true p1; simp only at this; omega
      obtain ⟨x, hx⟩ : ∃ z, a[i]? = some z := ⟨_, List.getElem?_eq_getElem q1⟩
      repeat' first | refine zK ?_ | refine zA ?_ | refine zL [] ?_ | (refine isA ?_; refine zf rfl ?_) | (refine isL ?_; refine zU rfl (by kernel_rfl) rfl rfl ?_) | (refine zb rfl ?_; refine zT rfl (by kernel_rfl) rfl rfl ?_) | refine zD ?_ | refine zB _ rfl (by kernel_rfl) ?_ | refine zV rfl ?_ | refine zW rfl ?_ | refine zC ?_ | with_reducible refine zO ?_ | refine zH ?_ | refine zI ?_ | (with_reducible first | refine zM ?_ | refine zN ?_ | refine zE ?_ | refine zG ?_ | refine zF ?_) | refine zP ?_
      refine yI rfl rfl rfl rfl (fun p2 => ?_) (fun p2 => ?_)
      · have q2 : b.length ≤ k := by have := of_decide_eq_true p2; simp only at this; omega
        repeat' first | refine zK ?_ | refine zA ?_ | refine zL [] ?_ | (refine isA ?_; refine zf rfl ?_) | (refine isL ?_; refine zU rfl (by kernel_rfl) rfl rfl ?_) | (refine zb rfl ?_; refine zT rfl (by kernel_rfl) rfl rfl ?_) | (refine yG (x := .tmp 42) ?_; refine zc rfl (z5 (t := rwT) (z := x) rfl rfl rfl rfl (Int.natCast_nonneg i) hx) rfl ?_) | (refine yF (x := .tmp 42) rfl ?_; refine zX rfl (by kernel_rfl) rfl (z5 (t := rwT) (z := x) rfl rfl rfl rfl (Int.natCast_nonneg i) hx) rfl ?_) | (refine xU ?_; refine zc rfl (yX (t := rwT) (xs := out) (ys := [x]) rfl rfl rfl rfl (xZ rfl rfl rfl rfl) (by simp; omega) rfl) rfl ?_) | (refine y9 rfl ?_; refine zX rfl (by kernel_rfl) rfl (yX (t := rwT) (xs := out) (ys := [x]) rfl rfl rfl rfl (xZ rfl rfl rfl rfl) (by simp; omega) rfl) rfl ?_) | refine zD ?_ | refine zB _ rfl (by kernel_rfl) ?_ | refine zV rfl ?_ | refine zW rfl ?_ | refine zC ?_ | with_reducible refine zO ?_ | refine zH ?_ | refine zI ?_ | (with_reducible first | refine zM ?_ | refine zN ?_ | refine zE ?_ | refine zG ?_ | refine zF ?_) | refine zP ?_
        refine ⟨⟨(i + 1, k, out ++ [x]), by simp only; omega, by simp only; omega, by simp only [List.length_append, List.length_singleton]; omega, by simp only [List.append_assoc, List.singleton_append]; rw [← hq, mgA1 hx q2]⟩, by simp only; omega, ?_⟩
        exact yb [2] rfl rfl (by decide) (.cons rfl rfl rfl rfl (zY (zJ _ _)) .nil) (by
            repeat' first | exact zg | refine zZ ?_ ?_ | exact zo | exact le_refl rfl | exact zj rfl rfl | exact zj rfl (by simp) | exact xI (n := a.length) (by omega) (by omega) | exact xI (n := b.length) (by omega) (by omega))
      · have q2 : k < b.length := by have := of_decide_eq_false p2; simp only at this; omega
        obtain ⟨y, hy⟩ : ∃ z, b[k]? = some z := ⟨_, List.getElem?_eq_getElem q2⟩
        repeat' first | refine zK ?_ | refine zA ?_ | refine zL [] ?_ | (refine isA ?_; refine zf rfl ?_) | (refine isL ?_; refine zU rfl (by kernel_rfl) rfl rfl ?_) | (refine zb rfl ?_; refine zT rfl (by kernel_rfl) rfl rfl ?_) | refine zD ?_ | refine zB _ rfl (by kernel_rfl) ?_ | refine zV rfl ?_ | refine zW rfl ?_ | refine zC ?_ | with_reducible refine zO ?_ | refine zH ?_ | refine zI ?_ | (with_reducible first | refine zM ?_ | refine zN ?_ | refine zE ?_ | refine zG ?_ | refine zF ?_) | refine zP ?_
        refine yI rfl rfl rfl rfl (fun _ => ?_) (fun k => absurd (of_decide_eq_false k) (by simp only; omega))
        repeat' first | refine zK ?_ | refine zA ?_ | refine zL [] ?_ | (refine isA ?_; refine zf rfl ?_) | (refine isL ?_; refine zU rfl (by kernel_rfl) rfl rfl ?_) | (refine zb rfl ?_; refine zT rfl (by kernel_rfl) rfl rfl ?_) | (refine yG (x := .tmp 29) ?_; refine zc rfl (z5 (t := rwT) (z := x) rfl rfl rfl rfl (Int.natCast_nonneg i) hx) rfl ?_) | (refine yF (x := .tmp 29) rfl ?_; refine zX rfl (by kernel_rfl) rfl (z5 (t := rwT) (z := x) rfl rfl rfl rfl (Int.natCast_nonneg i) hx) rfl ?_) | (refine yG (x := .tmp 33) ?_; refine zc rfl (z5 (t := rwT) (z := y) rfl rfl rfl rfl (Int.natCast_nonneg k) hy) rfl ?_) | (refine yF (x := .tmp 33) rfl ?_; refine zX rfl (by kernel_rfl) rfl (z5 (t := rwT) (z := y) rfl rfl rfl rfl (Int.natCast_nonneg k) hy) rfl ?_) | (refine zu 68 ?_; refine zc rfl (zQ rfl (xa x y) (.cons (.same rfl) (.cons (.same rfl) .nil)) rfl) rfl ?_) | (refine zv 68 rfl ?_; refine zX rfl (by kernel_rfl) rfl (zQ rfl (xa x y) (.cons (.same rfl) (.cons (.same rfl) .nil)) rfl) rfl ?_) | refine zD ?_ | refine zB _ rfl (by kernel_rfl) ?_ | refine zV rfl ?_ | refine zW rfl ?_ | refine zC ?_ | with_reducible refine zO ?_ | refine zH ?_ | refine zI ?_ | (with_reducible first | refine zM ?_ | refine zN ?_ | refine zE ?_ | refine zG ?_ | refine zF ?_) | refine zP ?_
        refine zd rfl (fun p3 => ?_) (fun p3 => ?_)
        · skip
          repeat' first | refine zK ?_ | refine zA ?_ | refine zL [] ?_ | (refine isA ?_; refine zf rfl ?_) | (refine isL ?_; refine zU rfl (by kernel_rfl) rfl rfl ?_) | (refine zb rfl ?_; refine zT rfl (by kernel_rfl) rfl rfl ?_) | (refine yG (x := .tmp 42) ?_; refine zc rfl (z5 (t := rwT) (z := x) rfl rfl rfl rfl (Int.natCast_nonneg i) hx) rfl ?_) | (refine yF (x := .tmp 42) rfl ?_; refine zX rfl (by kernel_rfl) rfl (z5 (t := rwT) (z := x) rfl rfl rfl rfl (Int.natCast_nonneg i) hx) rfl ?_) | (refine xU ?_; refine zc rfl (yX (t := rwT) (xs := out) (ys := [x]) rfl rfl rfl rfl (xZ rfl rfl rfl rfl) (by simp; omega) rfl) rfl ?_) | (refine y9 rfl ?_; refine zX rfl (by kernel_rfl) rfl (yX (t := rwT) (xs := out) (ys := [x]) rfl rfl rfl rfl (xZ rfl rfl rfl rfl) (by simp; omega) rfl) rfl ?_) | refine zD ?_ | refine zB _ rfl (by kernel_rfl) ?_ | refine zV rfl ?_ | refine zW rfl ?_ | refine zC ?_ | with_reducible refine zO ?_ | refine zH ?_ | refine zI ?_ | (with_reducible first | refine zM ?_ | refine zN ?_ | refine zE ?_ | refine zG ?_ | refine zF ?_) | refine zP ?_
          refine ⟨⟨(i + 1, k, out ++ [x]), by simp only; omega, by simp only; omega, by simp only [List.length_append, List.length_singleton]; omega, by simp only [List.append_assoc, List.singleton_append]; rw [← hq, mgA2 hx hy p3]⟩, by simp only; omega, ?_⟩
          exact yb [2] rfl rfl (by decide) (.cons rfl rfl rfl rfl (zY (zJ _ _)) .nil) (by
              repeat' first | exact zg | refine zZ ?_ ?_ | exact zo | exact le_refl rfl | exact zj rfl rfl | exact zj rfl (by simp) | exact xI (n := a.length) (by omega) (by omega) | exact xI (n := b.length) (by omega) (by omega))
        · skip
          repeat' first | refine zK ?_ | refine zA ?_ | refine zL [] ?_ | (refine isA ?_; refine zf rfl ?_) | (refine isL ?_; refine zU rfl (by kernel_rfl) rfl rfl ?_) | (refine zb rfl ?_; refine zT rfl (by kernel_rfl) rfl rfl ?_) | (refine yG (x := .tmp 51) ?_; refine zc rfl (z5 (t := rwT) (z := y) rfl rfl rfl rfl (Int.natCast_nonneg k) hy) rfl ?_) | (refine yF (x := .tmp 51) rfl ?_; refine zX rfl (by kernel_rfl) rfl (z5 (t := rwT) (z := y) rfl rfl rfl rfl (Int.natCast_nonneg k) hy) rfl ?_) | (refine xU ?_; refine zc rfl (yX (t := rwT) (xs := out) (ys := [y]) rfl rfl rfl rfl (xZ rfl rfl rfl rfl) (by simp; omega) rfl) rfl ?_) | (refine y9 rfl ?_; refine zX rfl (by kernel_rfl) rfl (yX (t := rwT) (xs := out) (ys := [y]) rfl rfl rfl rfl (xZ rfl rfl rfl rfl) (by simp; omega) rfl) rfl ?_) | refine zD ?_ | refine zB _ rfl (by kernel_rfl) ?_ | refine zV rfl ?_ | refine zW rfl ?_ | refine zC ?_ | with_reducible refine zO ?_ | refine zH ?_ | refine zI ?_ | (with_reducible first | refine zM ?_ | refine zN ?_ | refine zE ?_ | refine zG ?_ | refine zF ?_) | refine zP ?_
          refine ⟨⟨(i, k + 1, out ++ [y]), by simp only; omega, by simp only; omega, by simp only [List.length_append, List.length_singleton]; omega, by simp only [List.append_assoc, List.singleton_append]; rw [← hq, mgB1 hx hy p3]⟩, by simp only; omega, ?_⟩
          exact yb [2] rfl rfl (by decide) (.cons rfl rfl rfl rfl (zY (zJ _ _)) .nil) (by
              repeat' first | exact zg | refine zZ ?_ ?_ | exact zo | exact le_refl rfl | exact zj rfl rfl | exact zj rfl (by simp) | exact xI (n := a.length) (by omega) (by omega) | exact xI (n := b.length) (by omega) (by omega))
    · have q1 : a.length ≤ i := by have := of_decide_eq_false p1; simp only at this; omega
      repeat' first | refine zK ?_ | refine zA ?_ | refine zL [] ?_ | (refine isA ?_; refine zf rfl ?_) | (refine isL ?_; refine zU rfl (by kernel_rfl) rfl rfl ?_) | (refine zb rfl ?_; refine zT rfl (by kernel_rfl) rfl rfl ?_) | refine zD ?_ | refine zB _ rfl (by kernel_rfl) ?_ | refine zV rfl ?_ | refine zW rfl ?_ | refine zC ?_ | with_reducible refine zO ?_ | refine zH ?_ | refine zI ?_ | (with_reducible first | refine zM ?_ | refine zN ?_ | refine zE ?_ | refine zG ?_ | refine zF ?_) | refine zP ?_
      refine zd rfl (fun p2 => ?_) (fun p2 => ?_)
      · have q2 : k < b.length := by have := of_decide_eq_true p2; simp only at this; omega
        obtain ⟨y, hy⟩ : ∃ z, b[k]? = some z := ⟨_, List.getElem?_eq_getElem q2⟩
        repeat' first | refine zK ?_ | refine zA ?_ | refine zL [] ?_ | (refine isA ?_; refine zf rfl ?_) | (refine isL ?_; refine zU rfl (by kernel_rfl) rfl rfl ?_) | (refine zb rfl ?_; refine zT rfl (by kernel_rfl) rfl rfl ?_) | refine zD ?_ | refine zB _ rfl (by kernel_rfl) ?_ | refine zV rfl ?_ | refine zW rfl ?_ | refine zC ?_ | with_reducible refine zO ?_ | refine zH ?_ | refine zI ?_ | (with_reducible first | refine zM ?_ | refine zN ?_ | refine zE ?_ | refine zG ?_ | refine zF ?_) | refine zP ?_
        refine yI rfl rfl rfl rfl (fun k => absurd (of_decide_eq_true k) (by simp only; omega)) (fun _ => ?_)
        repeat' first | refine zK ?_ | refine zA ?_ | refine zL [] ?_ | (refine isA ?_; refine zf rfl ?_) | (refine isL ?_; refine zU rfl (by kernel_rfl) rfl rfl ?_) | (refine zb rfl ?_; refine zT rfl (by kernel_rfl) rfl rfl ?_) | refine zD ?_ | refine zB _ rfl (by kernel_rfl) ?_ | refine zV rfl ?_ | refine zW rfl ?_ | refine zC ?_ | with_reducible refine zO ?_ | refine zH ?_ | refine zI ?_ | (with_reducible first | refine zM ?_ | refine zN ?_ | refine zE ?_ | refine zG ?_ | refine zF ?_) | refine zP ?_
        refine yI rfl rfl rfl rfl (fun k => absurd (of_decide_eq_true k) (by simp only; omega)) (fun _ => ?_)
        repeat' first | refine zK ?_ | refine zA ?_ | refine zL [] ?_ | (refine isA ?_; refine zf rfl ?_) | (refine isL ?_; refine zU rfl (by kernel_rfl) rfl rfl ?_) | (refine zb rfl ?_; refine zT rfl (by kernel_rfl) rfl rfl ?_) | (refine yG (x := .tmp 51) ?_; refine zc rfl (z5 (t := rwT) (z := y) rfl rfl rfl rfl (Int.natCast_nonneg k) hy) rfl ?_) | (refine yF (x := .tmp 51) rfl ?_; refine zX rfl (by kernel_rfl) rfl (z5 (t := rwT) (z := y) rfl rfl rfl rfl (Int.natCast_nonneg k) hy) rfl ?_) | (refine xU ?_; refine zc rfl (yX (t := rwT) (xs := out) (ys := [y]) rfl rfl rfl rfl (xZ rfl rfl rfl rfl) (by simp; omega) rfl) rfl ?_) | (refine y9 rfl ?_; refine zX rfl (by kernel_rfl) rfl (yX (t := rwT) (xs := out) (ys := [y]) rfl rfl rfl rfl (xZ rfl rfl rfl rfl) (by simp; omega) rfl) rfl ?_) | refine zD ?_ | refine zB _ rfl (by kernel_rfl) ?_ | refine zV rfl ?_ | refine zW rfl ?_ | refine zC ?_ | with_reducible refine zO ?_ | refine zH ?_ | refine zI ?_ | (with_reducible first | refine zM ?_ | refine zN ?_ | refine zE ?_ | refine zG ?_ | refine zF ?_) | refine zP ?_
        refine ⟨⟨(i, k + 1, out ++ [y]), by simp only; omega, by simp only; omega, by simp only [List.length_append, List.length_singleton]; omega, by simp only [List.append_assoc, List.singleton_append]; rw [← hq, mgB2 hy q1]⟩, by simp only; omega, ?_⟩
        exact yb [2] rfl rfl (by decide) (.cons rfl rfl rfl rfl (zY (zJ _ _)) .nil) (by
            repeat' first | exact zg | refine zZ ?_ ?_ | exact zo | exact le_refl rfl | exact zj rfl rfl | exact zj rfl (by simp) | exact xI (n := a.length) (by omega) (by omega) | exact xI (n := b.length) (by omega) (by omega))
      · have q2 : b.length ≤ k := by have := of_decide_eq_false p2; simp only at this; omega
        rw [List.drop_of_length_le q1, List.drop_of_length_le q2, vn, List.append_nil] at hq
        subst hq
        repeat' first | refine zK ?_ | refine zA ?_ | refine zL [] ?_ | (refine isA ?_; refine zf rfl ?_) | (refine isL ?_; refine zU rfl (by kernel_rfl) rfl rfl ?_) | (refine zb rfl ?_; refine zT rfl (by kernel_rfl) rfl rfl ?_) | exact mz (ty := rwT) rfl rfl rfl rfl rfl rfl (xg _) | refine zD ?_ | refine zB _ rfl (by kernel_rfl) ?_ | refine zV rfl ?_ | refine zW rfl ?_ | refine zC ?_ | with_reducible refine zO ?_ | refine zH ?_ | refine zI ?_ | (with_reducible first | refine zM ?_ | refine zN ?_ | refine zE ?_ | refine zG ?_ | refine zF ?_) | refine zP ?_
theorem lG (xs : List Rw) (k : Nat) : ((rwT.flat xs).drop (0 * 3)).take ((k - 0) * 3) = rwT.flat (xs.take k) := by
  rw [Nat.zero_mul, List.drop_zero, Nat.sub_zero, show k * 3 = k * rwT.n from rfl, tE]
theorem jh (xs : List Rw) (k : Nat) : ((rwT.flat xs).drop (k * 3)).take ((xs.length - k) * 3) = rwT.flat (xs.drop k) := by
  rw [show k * 3 = k * rwT.n from rfl, tG, show (xs.length - k) * 3 = (xs.length - k) * rwT.n from rfl, tE, List.take_of_length_le (by simp)]
theorem yg {o : Oper} {ρ : Operand → V} {H : List Reg} {x y : Operand} {xs : List Rw} {k : Nat} {kk : IntKind} (ho : o.op = .slice 24 x none (some y) none) (hx : ρ x = rwL xs) (hy : ρ y = .k (.int kk k)) (hk : k ≤ xs.length) : z7 Go.Proofs.Try.prog o ρ H (rwL (xs.take k)) H := by
  have := ve (P := Go.Proofs.Try.prog) (o := o) (ρ := ρ) (H := H) (l := 0) (h := k) ho hx (.no 0) (.yes _ hy) (yH rwT xs) (by omega) (by omega) (by omega)
  rw [Int.toNat_natCast, show Int.toNat 0 = 0 from rfl] at this
  rw [show rwL (xs.take k) = .lst (k - 0) (((rwT.flat xs).drop (0 * 3)).take ((k - 0) * 3)) by rw [lG]; simp [xp]; omega]
  exact this
theorem xP {o : Oper} {ρ : Operand → V} {H : List Reg} {x y : Operand} {xs : List Rw} {k : Nat} {j : Int} {kk : IntKind} (ho : o.op = .slice 24 x (some y) none none) (hx : ρ x = rwL xs) (hy : ρ y = .k (.int kk j)) (hj : j = (k : Int)) (hk : k ≤ xs.length) : z7 Go.Proofs.Try.prog o ρ H (rwL (xs.drop k)) H := by
  subst hj
  have := ve (P := Go.Proofs.Try.prog) (o := o) (ρ := ρ) (H := H) (l := k) (h := xs.length) ho hx (.yes _ hy) (.no _) (yH rwT xs) (by omega) (by omega) (by omega)
  rw [Int.toNat_natCast, Int.toNat_natCast] at this
  rw [show rwL (xs.drop k) = .lst (xs.length - k) (((rwT.flat xs).drop (k * 3)).take ((xs.length - k) * 3)) by rw [jh]; simp [xp]]
  exact this
theorem fx (a b : List Rw) (h1 : a.length ≤ 100000000) (h2 : b.length ≤ 100000000) : zy Go.Proofs.Try.prog 82 [rwL a, rwL b] [] (.sl 0 0 (mgV a b).length) [rwR (mgV a b)] false := by
  refine zw [4] Go.Proofs.Try.func82 rfl rfl ?_
  simp only [Go.Proofs.Try.ntmps82, List.length_cons, List.length_nil, Nat.reduceAdd, Nat.reduceSub, List.replicate_succ, List.replicate_zero, List.cons_append, List.nil_append]
  repeat' first | refine zK ?_ | refine zA ?_ | refine zL [] ?_ | (refine isA ?_; refine zf rfl ?_) | (refine isL ?_; refine zU rfl (by kernel_rfl) rfl rfl ?_) | (refine zb rfl ?_; refine zT rfl (by kernel_rfl) rfl rfl ?_) | refine zD ?_ | refine zB _ rfl (by kernel_rfl) ?_ | refine zV rfl ?_ | refine zW rfl ?_ | refine zC ?_ | with_reducible refine zO ?_ | refine zH ?_ | refine zI ?_ | (with_reducible first | refine zM ?_ | refine zN ?_ | refine zE ?_ | refine zG ?_ | refine zF ?_) | refine zP ?_
  refine z9 (α := { p : List Rw × List Rw × List Rw // p.2.2.length + p.1.length + p.2.1.length = a.length + b.length ∧ p.2.2 ++ mgV p.1 p.2.1 = mgV a b }) (fun p => ⟨[rwL p.1.1, rwL p.1.2.1, .any, .any, .any, .sl 0 0 p.1.2.2.length, .any, .any, .any, .any, .any, .any, .any, .any, .any, .any, .any, .any, .any, .any, .any, .any, .any, .any, .any, .any, .any, .any, .any, .any, .any, .any, .any, .any, .any, .any, .any, .any, .any, .any, .any, .any, .any, .any, .any, .any, .any, .any, .any, .any], [rwR p.1.2.2], 0⟩) (fun p => p.1.1.length + p.1.2.1.length) ⟨(a, b, []), by simp, rfl⟩ ?_ ?_
  · exact yb [0] rfl rfl (by decide) (.cons rfl rfl rfl rfl (zY (zJ _ _)) .nil) (by repeat' first | exact zg | refine zZ ?_ ?_ | exact zo | exact le_refl rfl | exact zj rfl rfl | exact zt rfl)
  · rintro ⟨⟨c, d, out⟩, ho, hq⟩
    simp only at ho hq
    repeat' first | refine zK ?_ | refine zA ?_ | refine zL [] ?_ | (refine isA ?_; refine zf rfl ?_) | (refine isL ?_; refine zU rfl (by kernel_rfl) rfl rfl ?_) | (refine zb rfl ?_; refine zT rfl (by kernel_rfl) rfl rfl ?_) | refine zD ?_ | refine zB _ rfl (by kernel_rfl) ?_ | refine zV rfl ?_ | refine zW rfl ?_ | refine zC ?_ | with_reducible refine zO ?_ | refine zH ?_ | refine zI ?_ | (with_reducible first | refine zM ?_ | refine zN ?_ | refine zE ?_ | refine zG ?_ | refine zF ?_) | refine zP ?_
    refine yW rfl rfl (fun p1 => ?_) (fun p1 => ?_)
    · have q1 : 1 ≤ c.length := by have := of_decide_eq_true p1; simp only at this; omega
      obtain ⟨x, hx⟩ : ∃ z, c[0]? = some z := ⟨_, List.getElem?_eq_getElem q1⟩
      repeat' first | refine zK ?_ | refine zA ?_ | refine zL [] ?_ | (refine isA ?_; refine zf rfl ?_) | (refine isL ?_; refine zU rfl (by kernel_rfl) rfl rfl ?_) | (refine zb rfl ?_; refine zT rfl (by kernel_rfl) rfl rfl ?_) | refine zD ?_ | refine zB _ rfl (by kernel_rfl) ?_ | refine zV rfl ?_ | refine zW rfl ?_ | refine zC ?_ | with_reducible refine zO ?_ | refine zH ?_ | refine zI ?_ | (with_reducible first | refine zM ?_ | refine zN ?_ | refine zE ?_ | refine zG ?_ | refine zF ?_) | refine zP ?_
      refine yI rfl rfl rfl rfl (fun p2 => ?_) (fun p2 => ?_)
      · have q2 : d.length ≤ 0 := by have := of_decide_eq_true p2; simp only at this; omega
        have e : mgV c d = x :: mgV (c.drop 1) d := mgA1 (i := 0) (k := 0) hx q2
        repeat' first | refine zK ?_ | refine zA ?_ | refine zL [] ?_ | (refine isA ?_; refine zf rfl ?_) | (refine isL ?_; refine zU rfl (by kernel_rfl) rfl rfl ?_) | (refine zb rfl ?_; refine zT rfl (by kernel_rfl) rfl rfl ?_) | (refine yG (x := .tmp 34) ?_; refine zc rfl (z5 (t := rwT) (z := x) rfl rfl rfl rfl (Int.le_refl 0) hx) rfl ?_) | (refine yF (x := .tmp 34) rfl ?_; refine zX rfl (by kernel_rfl) rfl (z5 (t := rwT) (z := x) rfl rfl rfl rfl (Int.le_refl 0) hx) rfl ?_) | (refine xU ?_; refine zc rfl (yX (t := rwT) (xs := out) (ys := [x]) rfl rfl rfl rfl (xZ rfl rfl rfl rfl) (by simp; omega) rfl) rfl ?_) | (refine y9 rfl ?_; refine zX rfl (by kernel_rfl) rfl (yX (t := rwT) (xs := out) (ys := [x]) rfl rfl rfl rfl (xZ rfl rfl rfl rfl) (by simp; omega) rfl) rfl ?_) | (refine uA ?_; refine zc rfl (xP (k := 1) rfl rfl rfl rfl q1) rfl ?_) | (refine v9 rfl ?_; refine zX rfl (by kernel_rfl) rfl (xP (k := 1) rfl rfl rfl rfl q1) rfl ?_) | refine zD ?_ | refine zB _ rfl (by kernel_rfl) ?_ | refine zV rfl ?_ | refine zW rfl ?_ | refine zC ?_ | with_reducible refine zO ?_ | refine zH ?_ | refine zI ?_ | (with_reducible first | refine zM ?_ | refine zN ?_ | refine zE ?_ | refine zG ?_ | refine zF ?_) | refine zP ?_
        refine ⟨⟨(c.drop 1, d, out ++ [x]), by simp only [List.length_append, List.length_singleton, List.length_drop]; omega, by simp only [List.append_assoc, List.singleton_append]; rw [← hq, e]⟩, by simp only [List.length_drop]; omega, ?_⟩
        exact yb [2] rfl rfl (by decide) (.cons rfl rfl rfl rfl (zY (zJ _ _)) .nil) (by
            repeat' first | exact zg | refine zZ ?_ ?_ | exact zo | exact le_refl rfl | exact zj rfl rfl | exact zj rfl (by simp))
      · have q2 : 1 ≤ d.length := by have := of_decide_eq_false p2; simp only at this; omega
        obtain ⟨y, hy⟩ : ∃ z, d[0]? = some z := ⟨_, List.getElem?_eq_getElem q2⟩
        repeat' first | refine zK ?_ | refine zA ?_ | refine zL [] ?_ | (refine isA ?_; refine zf rfl ?_) | (refine isL ?_; refine zU rfl (by kernel_rfl) rfl rfl ?_) | (refine zb rfl ?_; refine zT rfl (by kernel_rfl) rfl rfl ?_) | refine zD ?_ | refine zB _ rfl (by kernel_rfl) ?_ | refine zV rfl ?_ | refine zW rfl ?_ | refine zC ?_ | with_reducible refine zO ?_ | refine zH ?_ | refine zI ?_ | (with_reducible first | refine zM ?_ | refine zN ?_ | refine zE ?_ | refine zG ?_ | refine zF ?_) | refine zP ?_
        refine yI rfl rfl rfl rfl (fun _ => ?_) (fun k => absurd (of_decide_eq_false k) (by simp only; omega))
        repeat' first | refine zK ?_ | refine zA ?_ | refine zL [] ?_ | (refine isA ?_; refine zf rfl ?_) | (refine isL ?_; refine zU rfl (by kernel_rfl) rfl rfl ?_) | (refine zb rfl ?_; refine zT rfl (by kernel_rfl) rfl rfl ?_) | (refine yG (x := .tmp 23) ?_; refine zc rfl (z5 (t := rwT) (z := x) rfl rfl rfl rfl (Int.le_refl 0) hx) rfl ?_) | (refine yF (x := .tmp 23) rfl ?_; refine zX rfl (by kernel_rfl) rfl (z5 (t := rwT) (z := x) rfl rfl rfl rfl (Int.le_refl 0) hx) rfl ?_) | (refine yG (x := .tmp 26) ?_; refine zc rfl (z5 (t := rwT) (z := y) rfl rfl rfl rfl (Int.le_refl 0) hy) rfl ?_) | (refine yF (x := .tmp 26) rfl ?_; refine zX rfl (by kernel_rfl) rfl (z5 (t := rwT) (z := y) rfl rfl rfl rfl (Int.le_refl 0) hy) rfl ?_) | (refine zu 64 ?_; refine zc rfl (zQ rfl (xb x y) (.cons (.same rfl) (.cons (.same rfl) .nil)) rfl) rfl ?_) | (refine zv 64 rfl ?_; refine zX rfl (by kernel_rfl) rfl (zQ rfl (xb x y) (.cons (.same rfl) (.cons (.same rfl) .nil)) rfl) rfl ?_) | refine zD ?_ | refine zB _ rfl (by kernel_rfl) ?_ | refine zV rfl ?_ | refine zW rfl ?_ | refine zC ?_ | with_reducible refine zO ?_ | refine zH ?_ | refine zI ?_ | (with_reducible first | refine zM ?_ | refine zN ?_ | refine zE ?_ | refine zG ?_ | refine zF ?_) | refine zP ?_
        refine zd rfl (fun p3 => ?_) (fun p3 => ?_)
        · skip
          have e : mgV c d = x :: mgV (c.drop 1) d := mgA2 (i := 0) (k := 0) hx hy p3
          repeat' first | refine zK ?_ | refine zA ?_ | refine zL [] ?_ | (refine isA ?_; refine zf rfl ?_) | (refine isL ?_; refine zU rfl (by kernel_rfl) rfl rfl ?_) | (refine zb rfl ?_; refine zT rfl (by kernel_rfl) rfl rfl ?_) | (refine yG (x := .tmp 34) ?_; refine zc rfl (z5 (t := rwT) (z := x) rfl rfl rfl rfl (Int.le_refl 0) hx) rfl ?_) | (refine yF (x := .tmp 34) rfl ?_; refine zX rfl (by kernel_rfl) rfl (z5 (t := rwT) (z := x) rfl rfl rfl rfl (Int.le_refl 0) hx) rfl ?_) | (refine xU ?_; refine zc rfl (yX (t := rwT) (xs := out) (ys := [x]) rfl rfl rfl rfl (xZ rfl rfl rfl rfl) (by simp; omega) rfl) rfl ?_) | (refine y9 rfl ?_; refine zX rfl (by kernel_rfl) rfl (yX (t := rwT) (xs := out) (ys := [x]) rfl rfl rfl rfl (xZ rfl rfl rfl rfl) (by simp; omega) rfl) rfl ?_) | (refine uA ?_; refine zc rfl (xP (k := 1) rfl rfl rfl rfl q1) rfl ?_) | (refine v9 rfl ?_; refine zX rfl (by kernel_rfl) rfl (xP (k := 1) rfl rfl rfl rfl q1) rfl ?_) | refine zD ?_ | refine zB _ rfl (by kernel_rfl) ?_ | refine zV rfl ?_ | refine zW rfl ?_ | refine zC ?_ | with_reducible refine zO ?_ | refine zH ?_ | refine zI ?_ | (with_reducible first | refine zM ?_ | refine zN ?_ | refine zE ?_ | refine zG ?_ | refine zF ?_) | refine zP ?_
          refine ⟨⟨(c.drop 1, d, out ++ [x]), by simp only [List.length_append, List.length_singleton, List.length_drop]; omega, by simp only [List.append_assoc, List.singleton_append]; rw [← hq, e]⟩, by simp only [List.length_drop]; omega, ?_⟩
          exact yb [2] rfl rfl (by decide) (.cons rfl rfl rfl rfl (zY (zJ _ _)) .nil) (by
              repeat' first | exact zg | refine zZ ?_ ?_ | exact zo | exact le_refl rfl | exact zj rfl rfl | exact zj rfl (by simp))
        · skip
          have e : mgV c d = y :: mgV c (d.drop 1) := mgB1 (i := 0) (k := 0) hx hy p3
          repeat' first | refine zK ?_ | refine zA ?_ | refine zL [] ?_ | (refine isA ?_; refine zf rfl ?_) | (refine isL ?_; refine zU rfl (by kernel_rfl) rfl rfl ?_) | (refine zb rfl ?_; refine zT rfl (by kernel_rfl) rfl rfl ?_) | (refine yG (x := .tmp 42) ?_; refine zc rfl (z5 (t := rwT) (z := y) rfl rfl rfl rfl (Int.le_refl 0) hy) rfl ?_) | (refine yF (x := .tmp 42) rfl ?_; refine zX rfl (by kernel_rfl) rfl (z5 (t := rwT) (z := y) rfl rfl rfl rfl (Int.le_refl 0) hy) rfl ?_) | (refine xU ?_; refine zc rfl (yX (t := rwT) (xs := out) (ys := [y]) rfl rfl rfl rfl (xZ rfl rfl rfl rfl) (by simp; omega) rfl) rfl ?_) | (refine y9 rfl ?_; refine zX rfl (by kernel_rfl) rfl (yX (t := rwT) (xs := out) (ys := [y]) rfl rfl rfl rfl (xZ rfl rfl rfl rfl) (by simp; omega) rfl) rfl ?_) | (refine uA ?_; refine zc rfl (xP (k := 1) rfl rfl rfl rfl q2) rfl ?_) | (refine v9 rfl ?_; refine zX rfl (by kernel_rfl) rfl (xP (k := 1) rfl rfl rfl rfl q2) rfl ?_) | refine zD ?_ | refine zB _ rfl (by kernel_rfl) ?_ | refine zV rfl ?_ | refine zW rfl ?_ | refine zC ?_ | with_reducible refine zO ?_ | refine zH ?_ | refine zI ?_ | (with_reducible first | refine zM ?_ | refine zN ?_ | refine zE ?_ | refine zG ?_ | refine zF ?_) | refine zP ?_
          refine ⟨⟨(c, d.drop 1, out ++ [y]), by simp only [List.length_append, List.length_singleton, List.length_drop]; omega, by simp only [List.append_assoc, List.singleton_append]; rw [← hq, e]⟩, by simp only [List.length_drop]; omega, ?_⟩
          exact yb [2] rfl rfl (by decide) (.cons rfl rfl rfl rfl (zY (zJ _ _)) .nil) (by
              repeat' first | exact zg | refine zZ ?_ ?_ | exact zo | exact le_refl rfl | exact zj rfl rfl | exact zj rfl (by simp))
    · have q1 : c.length ≤ 0 := by have := of_decide_eq_false p1; simp only at this; omega
      repeat' first | refine zK ?_ | refine zA ?_ | refine zL [] ?_ | (refine isA ?_; refine zf rfl ?_) | (refine isL ?_; refine zU rfl (by kernel_rfl) rfl rfl ?_) | (refine zb rfl ?_; refine zT rfl (by kernel_rfl) rfl rfl ?_) | refine zD ?_ | refine zB _ rfl (by kernel_rfl) ?_ | refine zV rfl ?_ | refine zW rfl ?_ | refine zC ?_ | with_reducible refine zO ?_ | refine zH ?_ | refine zI ?_ | (with_reducible first | refine zM ?_ | refine zN ?_ | refine zE ?_ | refine zG ?_ | refine zF ?_) | refine zP ?_
      refine zd rfl (fun p2 => ?_) (fun p2 => ?_)
      · have q2 : 1 ≤ d.length := by have := of_decide_eq_true p2; simp only at this; omega
        obtain ⟨y, hy⟩ : ∃ z, d[0]? = some z := ⟨_, List.getElem?_eq_getElem q2⟩
        repeat' first | refine zK ?_ | refine zA ?_ | refine zL [] ?_ | (refine isA ?_; refine zf rfl ?_) | (refine isL ?_; refine zU rfl (by kernel_rfl) rfl rfl ?_) | (refine zb rfl ?_; refine zT rfl (by kernel_rfl) rfl rfl ?_) | refine zD ?_ | refine zB _ rfl (by kernel_rfl) ?_ | refine zV rfl ?_ | refine zW rfl ?_ | refine zC ?_ | with_reducible refine zO ?_ | refine zH ?_ | refine zI ?_ | (with_reducible first | refine zM ?_ | refine zN ?_ | refine zE ?_ | refine zG ?_ | refine zF ?_) | refine zP ?_
        refine yI rfl rfl rfl rfl (fun k => absurd (of_decide_eq_true k) (by simp only; omega)) (fun _ => ?_)
        repeat' first | refine zK ?_ | refine zA ?_ | refine zL [] ?_ | (refine isA ?_; refine zf rfl ?_) | (refine isL ?_; refine zU rfl (by kernel_rfl) rfl rfl ?_) | (refine zb rfl ?_; refine zT rfl (by kernel_rfl) rfl rfl ?_) | refine zD ?_ | refine zB _ rfl (by kernel_rfl) ?_ | refine zV rfl ?_ | refine zW rfl ?_ | refine zC ?_ | with_reducible refine zO ?_ | refine zH ?_ | refine zI ?_ | (with_reducible first | refine zM ?_ | refine zN ?_ | refine zE ?_ | refine zG ?_ | refine zF ?_) | refine zP ?_
        refine yI rfl rfl rfl rfl (fun k => absurd (of_decide_eq_true k) (by simp only; omega)) (fun _ => ?_)
        have e : mgV c d = y :: mgV c (d.drop 1) := mgB2 (i := 0) (k := 0) hy q1
        repeat' first | refine zK ?_ | refine zA ?_ | refine zL [] ?_ | (refine isA ?_; refine zf rfl ?_) | (refine isL ?_; refine zU rfl (by kernel_rfl) rfl rfl ?_) | (refine zb rfl ?_; refine zT rfl (by kernel_rfl) rfl rfl ?_) | (refine yG (x := .tmp 42) ?_; refine zc rfl (z5 (t := rwT) (z := y) rfl rfl rfl rfl (Int.le_refl 0) hy) rfl ?_) | (refine yF (x := .tmp 42) rfl ?_; refine zX rfl (by kernel_rfl) rfl (z5 (t := rwT) (z := y) rfl rfl rfl rfl (Int.le_refl 0) hy) rfl ?_) | (refine xU ?_; refine zc rfl (yX (t := rwT) (xs := out) (ys := [y]) rfl rfl rfl rfl (xZ rfl rfl rfl rfl) (by simp; omega) rfl) rfl ?_) | (refine y9 rfl ?_; refine zX rfl (by kernel_rfl) rfl (yX (t := rwT) (xs := out) (ys := [y]) rfl rfl rfl rfl (xZ rfl rfl rfl rfl) (by simp; omega) rfl) rfl ?_) | (refine uA ?_; refine zc rfl (xP (k := 1) rfl rfl rfl rfl q2) rfl ?_) | (refine v9 rfl ?_; refine zX rfl (by kernel_rfl) rfl (xP (k := 1) rfl rfl rfl rfl q2) rfl ?_) | refine zD ?_ | refine zB _ rfl (by kernel_rfl) ?_ | refine zV rfl ?_ | refine zW rfl ?_ | refine zC ?_ | with_reducible refine zO ?_ | refine zH ?_ | refine zI ?_ | (with_reducible first | refine zM ?_ | refine zN ?_ | refine zE ?_ | refine zG ?_ | refine zF ?_) | refine zP ?_
        refine ⟨⟨(c, d.drop 1, out ++ [y]), by simp only [List.length_append, List.length_singleton, List.length_drop]; omega, by simp only [List.append_assoc, List.singleton_append]; rw [← hq, e]⟩, by simp only [List.length_drop]; omega, ?_⟩
        exact yb [2] rfl rfl (by decide) (.cons rfl rfl rfl rfl (zY (zJ _ _)) .nil) (by
            repeat' first | exact zg | refine zZ ?_ ?_ | exact zo | exact le_refl rfl | exact zj rfl rfl | exact zj rfl (by simp))
      · have q2 : d.length ≤ 0 := by have := of_decide_eq_false p2; simp only at this; omega
        have c0 : c = [] := List.eq_nil_of_length_eq_zero (by omega)
        have d0 : d = [] := List.eq_nil_of_length_eq_zero (by omega)
        subst c0 d0
        rw [vn, List.append_nil] at hq
        subst hq
        repeat' first | refine zK ?_ | refine zA ?_ | refine zL [] ?_ | (refine isA ?_; refine zf rfl ?_) | (refine isL ?_; refine zU rfl (by kernel_rfl) rfl rfl ?_) | (refine zb rfl ?_; refine zT rfl (by kernel_rfl) rfl rfl ?_) | exact mz (ty := rwT) rfl rfl rfl rfl rfl rfl (xg _) | refine zD ?_ | refine zB _ rfl (by kernel_rfl) ?_ | refine zV rfl ?_ | refine zW rfl ?_ | refine zC ?_ | with_reducible refine zO ?_ | refine zH ?_ | refine zI ?_ | (with_reducible first | refine zM ?_ | refine zN ?_ | refine zE ?_ | refine zG ?_ | refine zF ?_) | refine zP ?_
end Go.Proofs.Ytojcojanokhnaaa.Ab
namespace Go.Proofs.Ytojcojanokhnaaa.Ab
open Go.RowKit
theorem vB {x y : Rw} : yr x y ≤ 0 ↔ x.a < y.a ∨ (x.a = y.a ∧ (x.b < y.b ∨ (x.b = y.b ∧ x.c ≤ y.c))) := by
  unfold yr rwN
  simp only [uU]
  rcases Int.lt_trichotomy x.a y.a with h | h | h
  · rw [decide_eq_true h]; simp only [cond_true]; constructor
    · intro _; exact Or.inl h
    · intro _; omega
  · rw [decide_eq_false (show ¬ x.a < y.a by omega), decide_eq_false (show ¬ y.a < x.a by omega)]
    simp only [cond_false]
    rcases Int.lt_trichotomy x.b y.b with k | k | k
    · rw [decide_eq_true k]; simp only [cond_true]; omega
    · rw [decide_eq_false (show ¬ x.b < y.b by omega), decide_eq_false (show ¬ y.b < x.b by omega)]
      simp only [cond_false]
      rcases Int.lt_trichotomy x.c y.c with m | m | m
      · rw [decide_eq_true m]; simp only [cond_true]; omega
      · rw [decide_eq_false (show ¬ x.c < y.c by omega), decide_eq_false (show ¬ y.c < x.c by omega)]
        simp only [cond_false]; omega
      · rw [decide_eq_false (show ¬ x.c < y.c by omega), decide_eq_true m]
        simp only [cond_false, cond_true]; omega
    · rw [decide_eq_false (show ¬ x.b < y.b by omega), decide_eq_true k]
      simp only [cond_false, cond_true]; omega
  · rw [decide_eq_false (show ¬ x.a < y.a by omega), decide_eq_true h]
    simp only [cond_false, cond_true]; omega
def leW (x y : Rw) : Prop := yr x y ≤ 0
theorem sM (x : Rw) : leW x x := vB.2 (by omega)
theorem xH {x y z : Rw} (h : leW x y) (k : leW y z) : leW x z := vB.2 (by have := vB.1 h; have := vB.1 k; omega)
theorem mv (x y : Rw) : leW x y ∨ leW y x := by
  rcases Int.lt_or_le 0 (yr x y) with h | h
  · right
    have : ¬ yr x y ≤ 0 := by omega
    rw [vB] at this
    exact vB.2 (by omega)
  · exact Or.inl h
theorem pM {x y : Rw} (h : leW x y) (k : leW y x) : x = y := by
  have h1 := vB.1 h
  have h2 := vB.1 k
  cases x; cases y
  simp only at h1 h2
  congr <;> omega
theorem wd {x y : Rw} (h : ¬ leW x y) : leW y x := (mv x y).resolve_left h
theorem xN {x y : Rw} : yr x y < 0 ↔ ¬ leW y x := by
  have a1 := @vB x y
  have a2 := @vB y x
  constructor
  · intro h k
    have e := pM (show leW x y from by show yr x y ≤ 0; omega) k
    subst e
    have : yr x x = 0 := by unfold yr rwN; simp [uU]
    omega
  · intro h
    have h1 : ¬ yr y x ≤ 0 := h
    rcases Int.lt_or_le (yr x y) 0 with q | q
    · exact q
    · exfalso
      have hx : leW x y := wd h
      have e : yr x y = 0 := by have : yr x y ≤ 0 := hx; omega
      unfold yr rwN at e
      simp only [uU] at e
      have h2 := mt a2.2 h1
      have h3 := a1.1 hx
      rcases Int.lt_trichotomy x.a y.a with m | m | m
      · rw [decide_eq_true m] at e; cases e
      · rw [decide_eq_false (show ¬ x.a < y.a by omega), decide_eq_false (show ¬ y.a < x.a by omega)] at e
        simp only [cond_false] at e
        rcases Int.lt_trichotomy x.b y.b with m2 | m2 | m2
        · rw [decide_eq_true m2] at e; cases e
        · rw [decide_eq_false (show ¬ x.b < y.b by omega), decide_eq_false (show ¬ y.b < x.b by omega)] at e
          simp only [cond_false] at e
          have m3 : x.c < y.c := by omega
          rw [decide_eq_true m3] at e; cases e
        · omega
      · omega
def Srt (xs : List Rw) : Prop := xs.Pairwise leW
theorem vP : ∀ {xs ys : List Rw}, Srt xs → Srt ys → xs.Perm ys → xs = ys
  | [], ys, _, _, hp => by rw [List.Perm.nil_eq hp]
  | x :: xs, [], _, _, hp => by cases hp.length_eq
  | x :: xs, y :: ys, hx, hy, hp => by
    have hx' := List.pairwise_cons.1 hx
    have hy' := List.pairwise_cons.1 hy
    have e : x = y := by
      have m1 : y ∈ x :: xs := hp.symm.mem_iff.1 (List.mem_cons_self ..)
      have m2 : x ∈ y :: ys := hp.mem_iff.1 (List.mem_cons_self ..)
      rcases List.mem_cons.1 m1 with h | h
      · exact h.symm
      · rcases List.mem_cons.1 m2 with k | k
        · exact k
        · exact pM (hx'.1 y h) (hy'.1 x k)
    subst e
    rw [vP hx'.2 hy'.2 (List.Perm.cons_inv hp)]
def uj (x : Rw) : List Rw → List Rw
  | [] => [x]
  | y :: ys => cond (decide (yr y x ≤ 0)) (y :: uj x ys) (x :: y :: ys)
def yJ (xs : List Rw) : List Rw := xs.foldl (fun o x => uj x o) []
theorem ui (x : Rw) : ∀ ys : List Rw, (uj x ys).Perm (x :: ys)
  | [] => .refl _
  | y :: ys => by
    rw [uj]
    cases decide (yr y x ≤ 0) with
    | true => exact ((ui x ys).cons y).trans (.swap _ _ _)
    | false => exact .refl _
theorem qZ (x : Rw) : ∀ {ys : List Rw}, Srt ys → Srt (uj x ys)
  | [], _ => List.pairwise_singleton _ _
  | y :: ys, h => by
    have h' := List.pairwise_cons.1 h
    rw [uj]
    cases hd : decide (yr y x ≤ 0) with
    | true =>
      refine List.pairwise_cons.2 ⟨fun z hz => ?_, qZ x h'.2⟩
      rcases List.mem_cons.1 ((ui x ys).mem_iff.1 hz) with rfl | hz
      · exact (show yr y _ ≤ 0 from of_decide_eq_true hd)
      · exact h'.1 z hz
    | false =>
      have hle : leW x y := wd (show ¬ yr y x ≤ 0 from of_decide_eq_false hd)
      refine List.pairwise_cons.2 ⟨fun z hz => ?_, h⟩
      rcases List.mem_cons.1 hz with rfl | hz
      · exact hle
      · exact xH hle (h'.1 z hz)
theorem sr (xs : List Rw) (x : Rw) : yJ (xs ++ [x]) = uj x (yJ xs) := by simp [yJ]
theorem qa : ∀ (xs o : List Rw), Srt o → Srt (xs.foldl (fun o x => uj x o) o) ∧ (xs.foldl (fun o x => uj x o) o).Perm (o ++ xs)
  | [], o, h => ⟨h, by simp⟩
  | x :: xs, o, h => by
    obtain ⟨q1, q2⟩ := qa xs (uj x o) (qZ x h)
    refine ⟨q1, q2.trans ?_⟩
    refine ((ui x o).append_right xs).trans ?_
    exact List.perm_middle.symm
theorem xE (xs : List Rw) : Srt (yJ xs) := (qa xs [] List.Pairwise.nil).1
theorem yY (xs : List Rw) : (yJ xs).Perm xs := by
  have h := (qa xs [] List.Pairwise.nil).2
  rw [List.nil_append] at h
  exact h
theorem wb {xs ys : List Rw} (h : Srt ys) (hp : ys.Perm xs) : ys = yJ xs := vP h (xE xs) (hp.trans (yY xs).symm)
theorem wQ (xs : List Rw) : (yJ xs).length = xs.length := (yY xs).length_eq
end Go.Proofs.Ytojcojanokhnaaa.Ab
