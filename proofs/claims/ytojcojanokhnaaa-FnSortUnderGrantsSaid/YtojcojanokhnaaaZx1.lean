/- What the row FnSortUnderGrants leans on, part 2: a walk over abstract values, and contracts proved with it. -/
import Derived.WalkKit
import Derived.Laws.Rows
import Derived.RowKit
import Derived.OrdersHeld
import Derived.Deep.RegionHeld3
import Derived.Deep.Draws
import Derived.BigCall
import Derived.KernelRfl
import Derived.Deep.Slices
import Derived.ChangeArms
import Derived.ChangeShapes
import Derived.WideShapes
import Derived.Laws.StructEq
import Derived.Lib.Overlaps
import Derived.Test.YtojcojanokhnaaaProg
import Derived.Test.YtojcojanokhnaaaZx0
set_option linter.unusedVariables false
set_option linter.unusedSimpArgs false
set_option maxRecDepth 20000
set_option maxHeartbeats 8000000
namespace Go.Proofs.Ytojcojanokhnaaa.Ab
open Go.RowKit
def qW (k : IntKind) (a b : Int) : Int := k.wrap ((BitVec.ofInt k.bits a &&& BitVec.ofInt k.bits b).toNat : Nat)
def bL (k : IntKind) (a b : Int) : Int := k.wrap ((BitVec.ofInt k.bits a ^^^ BitVec.ofInt k.bits b).toNat : Nat)
def vw (k : IntKind) (a : Int) (n : Nat) : Int := a.fdiv (2 ^ (min n k.bits))
section
variable {P : Program} {o : Oper} {ρ : Operand → V} {H : List Reg}
theorem sm {t t' : TypeId} {x y : Operand} {k : IntKind} {a b : Int} (ho : o.op = .binOp .and t x y t') (hx : ρ x = .k (.int k a)) (hy : ρ y = .k (.int k b)) : z8 P o ρ H (.k (.int k (qW k a b))) H :=
  yn ho hx hy fun w => by rw [Sem.run_bind, y3]; simp [binOp, Op.intBits, qW]
theorem kq {t t' : TypeId} {x y : Operand} {k : IntKind} {a b : Int} (ho : o.op = .binOp .xor t x y t') (hx : ρ x = .k (.int k a)) (hy : ρ y = .k (.int k b)) : z8 P o ρ H (.k (.int k (bL k a b))) H :=
  yn ho hx hy fun w => by rw [Sem.run_bind, y3]; simp [binOp, Op.intBits, bL]
theorem x3 {t t' : TypeId} {x y : Operand} {k k' : IntKind} {a : Int} {n : Nat} (ho : o.op = .binOp .shr t x y t') (hx : ρ x = .k (.int k a)) (hy : ρ y = .k (.int k' n)) : z8 P o ρ H (.k (.int k (vw k a n))) H :=
  yn ho hx hy fun w => by rw [Sem.run_bind, y3]; simp [binOp, Op.shift, vw, show ¬ ((n : Int) < 0) by omega]
end
theorem n6 (a : Int) : 0 ≤ qW .i64 a 255 ∧ qW .i64 a 255 ≤ 255 := by
  have h : (BitVec.ofInt 64 a &&& BitVec.ofInt 64 255).toNat ≤ 255 := by
    rw [BitVec.toNat_and]
    exact Nat.le_trans Nat.and_le_right (by decide)
  have h' : (BitVec.ofInt IntKind.i64.bits a &&& BitVec.ofInt IntKind.i64.bits 255).toNat ≤ 255 := h
  unfold qW
  rw [IntKind.wrap_i64]
  omega
end Go.Proofs.Ytojcojanokhnaaa.Ab
namespace Go.Proofs.Ytojcojanokhnaaa.Ab
open Go.RowKit
section
variable {P : Program} {o : Oper} {ρ : Operand → V} {H : List Reg} {C : Cx} {A : Nat → Prop} {φ : List Hd} {w : World}
theorem fQ (w : World) (c : Array Value) (e : TypeId) (i : Nat) : ((w.drewN 0).alloc (.cells c e)).cell? ⟨w.heap.size, i, none⟩ = c[i]? := by
  have h : ((w.drewN 0).alloc (.cells c e)).heap[w.heap.size]? = some (.cells c e (0, 0)) := Go.heap_alloc_new (w.drewN 0) _
  unfold World.cell?
  rw [h]
  rfl
theorem InvA.alloc_read (hA : InvA C A φ H w) (ob : Obj) : InvA C (fun b => A b ∨ b = w.heap.size) φ H ((w.drewN 0).alloc ob) := by
  have hheap : ∀ b, b < w.heap.size → ((w.drewN 0).alloc ob).heap[b]? = w.heap[b]? := fun b hb => Below.heap_alloc (w.drewN 0) ob b hb
  have hsz : ((w.drewN 0).alloc ob).heap.size = w.heap.size + 1 := by show (Array.push _ _).size = _; rw [Array.size_push]; rfl
  have hlow : ∀ h b, zy φ H h b → b < w.heap.size := fun h b ⟨hd, r, h1, h2, h3, h4⟩ => xq hA.ok h1 h2 (by omega) h4
  refine ⟨⟨hA.ok.len, fun h hd r h1 h2 h3 => ?_, hA.ok.inj, fun h b h1 hb => ?_, fun h hd r b h1 h2 h3 h4 => Or.inl (hA.ok.frz h hd r b h1 h2 h3 h4), fun b hb => ?_⟩, fun b hb => ?_, hA.own, ?_, hA.pre⟩
  · obtain ⟨e1, e2⟩ := hA.ok.regs h hd r h1 h2 h3
    refine ⟨e1, ?_⟩
    cases hk : hd.blk with
    | none => rw [hk] at e2; exact e2
    | some b =>
      rw [hk] at e2
      obtain ⟨c, k1, k2, k3, k4⟩ := e2
      exact ⟨c, (hheap b (Array.getElem?_eq_some_iff.1 k1).1).trans k1, k2, k3, z4.mono (fun b hb => ⟨Or.inl hb, hheap b (hA.ok.low b hb)⟩) (fun _ _ h => h) k4⟩
  · rcases hb with hb | rfl
    · exact hA.ok.apart _ _ h1 hb
    · exact absurd (hlow _ _ h1) (Nat.lt_irrefl _)
  · rcases hb with hb | rfl
    · rw [hsz]; exact Nat.lt_succ_of_lt (hA.ok.low b hb)
    · rw [hsz]; exact Nat.lt_succ_self _
  · rcases hb with hb | rfl
    · exact hA.old b hb
    · exact Or.inr hA.frame.size
  · obtain ⟨f1, f2, f3, f4, f5⟩ := hA.frame
    exact ⟨f1, f2, f3, by rw [hsz]; omega, fun i hi hno => (hheap i (by omega)).trans (f5 i hi hno)⟩
theorem jC {t e n b len : Nat} {ps : List (Nat × Operand)} {cs : List V} [ht : Sl P t e n b] (ho : o.op = .buildSlice t len ps.toArray) (hlen : len * n ≤ 16777216)
    (hf : uq (fun i => some (i * n, n)) (List.replicate (len * n) V.any) (ps.map fun p => (p.1, ρ p.2)) = some cs) (hcs : cs.length = len * n) (hN : NoH cs) : z8 P o ρ H (.lst len cs) H := wG fun C A φ a w hA hh => by
  have hx : ∀ p ∈ ps, Rel A w φ (ρ p.2) (a.eval p.2) := fun p hm => hh p.2 (by simp only [ho, Op.operands]; simpa using ⟨p.1, hm⟩)
  obtain ⟨i, z, i1, i2, i3, i4, i5⟩ := ht.i
  have hpos := ht.pos
  have e1 : (List.map (fun p : Nat × Operand => (p.1, a.eval p.2)) ps) = (ps.toArray.map fun (i, x) => (i, a.eval x)).toList := by simp
  have key : ∀ c0 : Array Value, c0.size = len * n → ∃ c', Instr.fill (fun i => some (i * n, n)) c0 (ps.toArray.map fun (i, x) => (i, a.eval x)).toList = some c' ∧ c'.size = cs.length ∧ z4 A w φ cs (fun i => c'[i]?) := fun c0 h0 => by
    rw [← e1]
    exact tW hx hf (by simp [h0]) (qr _ c0 h0)
  have hle : ¬ (len * n > 2 ^ 24) := by omega
  have fin : ∀ c' : Array Value, c'.size = cs.length → z4 A w φ cs (fun i => c'[i]?) → ((execOp a.eval o).run P w = .ok (.value (.slice (some ⟨w.heap.size, 0, none⟩) len len)) (w.alloc (.cells c' e))) → _ := fun c' k2 k3 hrun =>
    (⟨.slice (some ⟨w.heap.size, 0, none⟩) len len, (w.drewN 0).alloc (.cells c' e), (fun b => A b ∨ b = w.heap.size), φ, Or.inl hrun, hA.alloc_read _, fun b hb => ⟨Or.inl hb, (wk hA _ 0 b hb).2⟩, fun h hd hh => hh, by
      rw [Rel]
      refine ⟨_, len, rfl, Nat.le_refl _, by rw [hcs]; exact Nat.le_mul_of_pos_right len hpos, Or.inr ⟨w.heap.size, 0, rfl, Or.inr rfl, ?_⟩⟩
      refine yJ (z4.mono (fun b hb => ⟨Or.inl hb, (wk hA (.cells c' e) 0 b hb).2⟩) (fun _ _ h => h) (x5 (φ' := []) hN k3)) fun i hi => ?_
      rw [Nat.zero_add]
      exact fQ w c' e i⟩ : ∃ x w' A' φ', ((execOp a.eval o).run P w = .ok (.value x) w' ∨ ((execOp a.eval o).run P w = .ok .skip w' ∧ x = undef)) ∧ InvA C A' φ' H w' ∧ (∀ b, A b → A' b ∧ w'.heap[b]? = w.heap[b]?) ∧ (∀ (h : Nat) (hd : Hd), φ[h]? = some hd → φ'[h]? = some hd) ∧ Rel A' w' φ' (.lst len cs) x)
  by_cases h0 : len * n = 0
  · obtain ⟨c', k1, k2, k3⟩ := key ((Array.range (len * n)).map (fun i => (#[] : Array Value)[i % (#[] : Array Value).size]!)) (by simp)
    refine fin c' k2 k3 ?_
    simp only [execOp, ho, Instr.buildSlice, Sem.run_bind, run_underlying ht.u, Result.andThen_ok, sizeOf, typeInfo, run_program, i1, Sem.run_pure, i2, if_neg hle]
    rw [if_pos h0]
    rw [Sem.run_bind, Sem.run_pure, Result.andThen_ok, k1]
    simp [newRow]
  · obtain ⟨c', k1, k2, k3⟩ := key ((Array.range (len * n)).map (fun i => z.cells[i % z.cells.size]!)) (by simp)
    refine fin c' k2 k3 ?_
    simp only [execOp, ho, Instr.buildSlice, Sem.run_bind, run_underlying ht.u, Result.andThen_ok, sizeOf, typeInfo, run_program, i1, Sem.run_pure, i2, if_neg hle]
    rw [if_neg h0]
    simp only [zeroValue, Sem.run_bind, typeInfo, run_program, i1, i4, Sem.run_pure, Result.andThen_ok, k1]
    simp [newRow]
theorem yS {t e n b len : Nat} {ps : List (Nat × Operand)} {cs : List V} [ht : Sl P t e n b] (ho : o.op = .buildSlice t len ps.toArray) (hlen : Nat.ble (len * n) 16777216 = true)
    (hf : uq (fun i => some (i * n, n)) (List.replicate (len * n) V.any) (ps.map fun p => (p.1, ρ p.2)) = some cs) (hcs : Nat.beq cs.length (len * n) = true) (hN : noHs cs = true) : z8 P o ρ H (.lst len cs) H :=
  jC ho (Nat.le_of_ble_eq_true hlen) hf (Nat.eq_of_beq_eq_true hcs) (tL hN)
end
end Go.Proofs.Ytojcojanokhnaaa.Ab
namespace Go.Proofs.Ytojcojanokhnaaa.Ab
open Go.RowKit
section
variable {P : Program} {o : Oper} {ρ : Operand → V} {H : List Reg}
structure IntFs (P : Program) (t : TypeId) (fs : Array Field) : Prop where
  u : P.underlying t = some (.struct fs)
  held : P.stoodInHeld t = false
  guard : P.eqGuardType P.depth t = false
  fs : ∀ (i : Nat) (f : Field), fs.toList[i]? = some f → (f.name == "_") = false ∧ f.offset = i ∧ P.underlying f.type = some (.int .i64)
theorem np {d : Nat} {xs ys : Array Value} {w : World} : ∀ (fs : List Field) (us bs : List Int), us.length = fs.length → bs.length = fs.length →
    (∀ (j : Nat) (f : Field) (a b : Int), fs[j]? = some f → us[j]? = some a → bs[j]? = some b → (f.name == "_") = false ∧ P.underlying f.type = some (.int .i64) ∧ xs[f.offset]? = some (.int .i64 a) ∧ ys[f.offset]? = some (.int .i64 b)) → (Op.eqFields (d + 1) xs ys fs).run P w = .ok (decide (us = bs)) w
  | [], [], [], _, _, _ => by simp [Op.eqFields]
  | f :: fs, a :: us, b :: bs, h1, h2, h => by
    obtain ⟨g1, g2, g3, g4⟩ := h 0 f a b rfl rfl rfl
    have hn' : f.name ≠ "_" := by simpa using g1
    have ha : (part f.type xs f.offset).run P w = .ok (.int .i64 a) w := by simp [part, isAgg, run_underlying g2, g3]
    have hb : (part f.type ys f.offset).run P w = .ok (.int .i64 b) w := by simp [part, isAgg, run_underlying g2, g4]
    have ih := np (d := d) (xs := xs) (ys := ys) (w := w) fs us bs (by simpa using h1) (by simpa using h2) (fun j f' a' b' q1 q2 q3 => h (j + 1) f' a' b' q1 q2 q3)
    rw [Op.eqFields]
    simp only [if_pos hn', Sem.run_bind, ha, hb, run_equalIn_int w d f.type .i64 .i64 a b g2, Result.andThen_ok]
    by_cases hab : a = b
    · subst hab
      simpa using ih
    · simp [hab]
  | [], _ :: _, _, h1, _, _ => by simp at h1
  | [], [], _ :: _, _, h2, _ => by simp at h2
  | _ :: _, [], _, h1, _, _ => by simp at h1
  | _ :: _, _ :: _, [], _, h2, _ => by simp at h2
theorem lK {A : Nat → Prop} {w : World} {φ : List Hd} {us : List Int} {xs : Array Value} (h : z4 A w φ (us.map I) (fun i => xs[i]?)) {j : Nat} {a : Int} (ha : us[j]? = some a) : xs[j]? = some (.int .i64 a) := by
  obtain ⟨y, h1, h2⟩ := yk h (i := j) (c := I a) (by rw [List.getElem?_map, ha]; rfl)
  simp only [Rel] at h2
  subst h2
  exact h1
theorem eN {fs : Array Field} {t : TypeId} (hf : IntFs P t fs) {A : Nat → Prop} {w : World} {φ : List Hd} {us bs : List Int} {xs ys : Array Value} (ha : us.length = fs.size) (hb : bs.length = fs.size) (hx : z4 A w φ (us.map I) (fun i => xs[i]?)) (hy : z4 A w φ (bs.map I) (fun i => ys[i]?)) :
    (Op.equalIn 10000 t (.agg xs) (.agg ys)).run P w = .ok (decide (us = bs)) w := by
  have he : P.fieldsOf t = fs := by simp [Program.fieldsOf, hf.u]
  rw [show (10000 : Nat) = 9999 + 1 from rfl, run_equalIn_struct (P := P) w 9999 t xs ys (by rw [he]; exact hf.u) hf.held, he]
  refine np (d := 9998) fs.toList us bs (by simpa using ha) (by simpa using hb) fun j f a b q1 q2 q3 => ?_
  obtain ⟨g1, g2, g3⟩ := hf.fs j f q1
  rw [g2]
  exact ⟨g1, g3, lK hx q2, lK hy q3⟩
theorem l5 {t t' : TypeId} {x y : Operand} {us bs : List Int} (fs : Array Field) (hf : IntFs P t fs) (ho : o.op = .binOp .neq t x y t') (hx : ρ x = .agg (us.map I)) (hy : ρ y = .agg (bs.map I)) (ha : us.length = fs.size) (hb : bs.length = fs.size) : z8 P o ρ H (.k (.bool (!decide (us = bs)))) H := yE fun A φ a w _ h => by
  have h1 := h x (by simp [ho, Op.operands])
  have h2 := h y (by simp [ho, Op.operands])
  rw [hx, Rel] at h1
  rw [hy, Rel] at h2
  obtain ⟨xs, e1, _, r1⟩ := h1
  obtain ⟨ys, e2, _, r2⟩ := h2
  refine ⟨.bool (!decide (us = bs)), ?_, by simp [Rel]⟩
  have hr : ((do eqGuard .neq t x y (.agg xs) (.agg ys); binOp .neq t (.agg xs) (.agg ys) : Sem Value)).run P w = .ok (.bool (!decide (us = bs))) w := by
    rw [Sem.run_bind, run_eqGuard_agg w .neq t x y xs ys hf.guard]
    simp only [Result.andThen_ok, run_neq_struct, eN hf ha hb r1 r2]
  simp only [execOp, ho, e1, e2]
  rw [Sem.run_bind, hr]
  rfl
end
end Go.Proofs.Ytojcojanokhnaaa.Ab
namespace Go.Proofs.Ytojcojanokhnaaa.Ab
open Go.RowKit
section
variable {C : Cx} {A A' : Nat → Prop} {φ φ' : List Hd} {H : List Reg} {w w' : World} {P : Program} {o : Oper} {ρ : Operand → V}
end
end Go.Proofs.Ytojcojanokhnaaa.Ab
namespace Go.Proofs.Ytojcojanokhnaaa.Ab
open Go.RowKit
section
variable {C : Cx} {A A' : Nat → Prop} {φ φ' : List Hd} {H : List Reg} {w w' : World} {P : Program} {o : Oper} {ρ : Operand → V} {ops : Array Oper} {rest : List Oper} {Q : Exit → St → Prop} {S T : St}
mutual
inductive Nz (k : Nat) : V → V → Prop where
  | same (v : V) : Nz k v v
  | nil : Nz k (.k (.slice none 0 0)) (.sl k 0 0)
  | agg {cs ds : List V} (h : NzS k cs ds) : Nz k (.agg cs) (.agg ds)
  | tup {cs ds : List V} (h : NzS k cs ds) : Nz k (.tup cs) (.tup ds)
inductive NzS (k : Nat) : List V → List V → Prop where
  | rest (cs : List V) : NzS k cs cs
  | cons {c d : V} {cs ds : List V} (h : Nz k c d) (hs : NzS k cs ds) : NzS k (c :: cs) (d :: ds)
end
theorem NzS.length {k : Nat} : ∀ {cs ds : List V}, NzS k cs ds → ds.length = cs.length
  | _, _, .rest _ => rfl
  | _, _, .cons h hs => by simp [NzS.length hs]
inductive NzR (k : Nat) : List Reg → List Reg → Prop where
  | rest (H : List Reg) : NzR k H H
  | cons {r : Reg} {cs : List V} {H K : List Reg} (h : NzS k r.cells cs) (hs : NzR k H K) : NzR k (r :: H) ({ r with cells := cs } :: K)
theorem NzR.get {k : Nat} : ∀ {H K : List Reg}, NzR k H K → K.length = H.length ∧ ∀ (i : Nat) (r' : Reg), K[i]? = some r' → ∃ r, H[i]? = some r ∧ r'.mode = r.mode ∧ r'.esz = r.esz ∧ r'.e = r.e ∧ NzS k r.cells r'.cells
  | _, _, .rest H => ⟨rfl, fun i r h => ⟨r, h, rfl, rfl, rfl, .rest _⟩⟩
  | _, _, .cons h hs => by
    obtain ⟨e1, e2⟩ := hs.get
    refine ⟨by simp [e1], fun i r' hi => ?_⟩
    cases i with
    | zero => simp at hi; subst hi; exact ⟨_, rfl, rfl, rfl, rfl, h⟩
    | succ i => simp only [List.getElem?_cons_succ] at hi ⊢; exact e2 i r' hi
mutual
theorem Nz.rel {k : Nat} {hd : Hd} (hφ : φ[k]? = some hd) (hb : hd.blk = none) (hc : hd.cap = 0) : ∀ {v v' : V} {x : Value}, Nz k v v' → Rel A w φ v x → Rel A w φ v' x
  | _, _, x, .same v, h => h
  | _, _, x, .nil, h => by
    rw [Rel] at h
    rw [Rel]
    exact ⟨hd, hφ, Or.inl ⟨by rw [h, hb, hc]; rfl, by omega⟩⟩
  | _, _, x, .agg hs, h => by
    rw [Rel] at h ⊢
    obtain ⟨xs, e1, e2, h1⟩ := h
    exact ⟨xs, e1, e2.trans (NzS.length hs).symm, NzS.rels hφ hb hc hs h1⟩
  | _, _, x, .tup hs, h => by
    rw [Rel] at h ⊢
    obtain ⟨xs, e1, e2, h1⟩ := h
    exact ⟨xs, e1, e2.trans (NzS.length hs).symm, NzS.rels hφ hb hc hs h1⟩
theorem NzS.rels {k : Nat} {hd : Hd} (hφ : φ[k]? = some hd) (hb : hd.blk = none) (hc : hd.cap = 0) : ∀ {cs ds : List V} {g : Nat → Option Value}, NzS k cs ds → z4 A w φ cs g → z4 A w φ ds g
  | _, _, g, .rest _, h => h
  | _, _, g, .cons h hs, hr => by
    rw [z4] at hr ⊢
    obtain ⟨⟨y, h1, h2⟩, h3⟩ := hr
    exact ⟨⟨y, h1, Nz.rel hφ hb hc h h2⟩, NzS.rels hφ hb hc hs h3⟩
end
theorem vn {l l' : List V} {H K : List Reg} {m : Nat} (e n : Nat) (ht : NzS H.length l l') (hH : NzR H.length H K) : Sub ⟨l', K ++ [⟨e, n, [], 0⟩], m⟩ ⟨l, H, m⟩ := fun C φ a w hI => by
  obtain ⟨hm0, ⟨A, hA, hr⟩, hs, hd⟩ := hI
  obtain ⟨k1, k2⟩ := hH.get
  have hA1 := hA.addNil e n
  have hφ : (φ ++ [(⟨none, 0, n, e⟩ : Hd)])[H.length]? = some ⟨none, 0, n, e⟩ := by
    rw [← hA.ok.len]; simp
  have hup : ∀ (i : Nat) (d : Hd), φ[i]? = some d → (φ ++ [(⟨none, 0, n, e⟩ : Hd)])[i]? = some d := fun i d h => za h
  have hcell : ∀ (i : Nat) (r' : Reg), (K ++ [(⟨e, n, [], 0⟩ : Reg)])[i]? = some r' → ∃ r, (H ++ [(⟨e, n, [], 0⟩ : Reg)])[i]? = some r ∧ r'.mode = r.mode ∧ r'.esz = r.esz ∧ r'.e = r.e ∧ NzS H.length r.cells r'.cells := fun i r' hi => by
    rcases Nat.lt_or_ge i K.length with hlt | hge
    · rw [List.getElem?_append_left hlt] at hi
      obtain ⟨r, q1, q2, q3, q4, q5⟩ := k2 i r' hi
      exact ⟨r, za q1, q2, q3, q4, q5⟩
    · rw [List.getElem?_append_right hge, k1] at hi
      exact ⟨r', by rw [List.getElem?_append_right (by omega)]; exact hi, rfl, rfl, rfl, .rest _⟩
  have hlive : ∀ i b, zy (φ ++ [(⟨none, 0, n, e⟩ : Hd)]) (K ++ [(⟨e, n, [], 0⟩ : Reg)]) i b → zy (φ ++ [(⟨none, 0, n, e⟩ : Hd)]) (H ++ [(⟨e, n, [], 0⟩ : Reg)]) i b := fun i b ⟨d, r', q1, q2, q3, q4⟩ => by
    obtain ⟨r, p1, p2, _⟩ := hcell i r' q2
    exact ⟨d, r, q1, p1, by omega, q4⟩
  refine ⟨φ ++ [⟨none, 0, n, e⟩], hm0, ⟨A, ⟨⟨?_, fun i d r' q1 q2 q3 => ?_, fun i j b q1 q2 => hA1.ok.inj i j b (hlive i b q1) (hlive j b q2), fun i b q1 => hA1.ok.apart i b (hlive i b q1), fun i d r' b q1 q2 q3 q4 => ?_, hA1.ok.low⟩, hA1.old, fun i b q1 => hA1.own i b (hlive i b q1), hA1.frame, hA1.pre⟩, ?_⟩, hs.trans (NzS.length ht).symm, hd⟩
  · have := hA1.ok.len
    simp only [List.length_append] at this ⊢
    omega
  · obtain ⟨r, p1, p2, p3, p4, p5⟩ := hcell i r' q2
    obtain ⟨f1, f2⟩ := hA1.ok.regs i d r q1 p1 (by omega)
    refine ⟨⟨f1.1.trans p3.symm, f1.2.1.trans p4.symm, f1.2.2⟩, ?_⟩
    cases hb : d.blk with
    | none =>
      rw [hb] at f2
      have := NzS.length p5
      rw [f2.1] at this
      exact ⟨List.length_eq_zero_iff.1 this, f2.2⟩
    | some b =>
      rw [hb] at f2
      obtain ⟨c, c1, c2, c3, c4⟩ := f2
      exact ⟨c, c1, c2, by rw [NzS.length p5]; exact c3, NzS.rels hφ rfl rfl p5 c4⟩
  · obtain ⟨r, p1, p2, _⟩ := hcell i r' q2
    exact hA1.ok.frz i d r b q1 p1 (by omega) q4
  · exact NzS.rels hφ rfl rfl ht (z4.mono (fun b hb => ⟨hb, rfl⟩) hup hr)
theorem pu {l : List V} {H : List Reg} {m h : Nat} {r : Reg} (hh : H[h]? = some r) (hm : r.mode = 0) (hge : m ≤ h) (hlive : ∀ i, i < m → ∃ q, H[i]? = some q ∧ q.mode = 0) : Sub ⟨l, H.set h { r with mode := 1 }, m⟩ ⟨l, H, m⟩ := fun C φ a w hI => by
  obtain ⟨hm0, ⟨A, hA, hr⟩, hs, hd⟩ := hI
  have hlt : h < H.length := (List.getElem?_eq_some_iff.1 hh).1
  have xy : ∀ i b, zy φ (H.set h { r with mode := 1 }) i b → i ≠ h ∧ zy φ H i b := fun i b ⟨d, q, q1, q2, q3, q4⟩ => by
    rcases getElem?_set' q2 with ⟨rfl, rfl⟩ | ⟨hne, q2⟩
    · cases q3
    · exact ⟨hne, d, q, q1, q2, q3, q4⟩
  let B : Nat → Prop := fun b => ∃ d, φ[h]? = some d ∧ d.blk = some b
  have hB : ∀ b, B b → zy φ H h b := fun b ⟨d, q1, q2⟩ => ⟨d, r, q1, hh, hm, q2⟩
  refine ⟨φ, hm0, ⟨fun b => A b ∨ B b, ⟨⟨by rw [List.length_set]; exact hA.ok.len, fun i d q q1 q2 q3 => ?_, fun i j b q1 q2 => hA.ok.inj i j b (xy i b q1).2 (xy j b q2).2, fun i b q1 hb => ?_, fun i d q b q1 q2 q3 q4 => ?_, fun b hb => ?_⟩, fun b hb => ?_, fun i b q1 => hA.own i b (xy i b q1).2, hA.frame, hA.pre⟩, z4.mono (fun b hb => ⟨Or.inl hb, rfl⟩) (fun _ _ h => h) hr⟩, hs, hd⟩
  · obtain ⟨q', p1, p2⟩ : ∃ q', H[i]? = some q' ∧ q'.mode ≤ 1 ∧ q.esz = q'.esz ∧ q.e = q'.e ∧ q.cells = q'.cells := by
      rcases getElem?_set' q2 with ⟨rfl, rfl⟩ | ⟨hne, q2⟩
      · exact ⟨r, hh, by omega, rfl, rfl, rfl⟩
      · exact ⟨q, q2, q3, rfl, rfl, rfl⟩
    obtain ⟨f1, f2⟩ := hA.ok.regs i d q' q1 p1 p2.1
    refine ⟨⟨f1.1.trans p2.2.1.symm, f1.2.1.trans p2.2.2.1.symm, f1.2.2⟩, ?_⟩
    cases hb : d.blk with
    | none => rw [hb] at f2; rw [p2.2.2.2]; exact f2
    | some b =>
      rw [hb] at f2
      obtain ⟨c, c1, c2, c3, c4⟩ := f2
      exact ⟨c, c1, c2, by rw [p2.2.2.2]; exact c3, by rw [p2.2.2.2]; exact z4.mono (fun b hb => ⟨Or.inl hb, rfl⟩) (fun _ _ h => h) c4⟩
  · obtain ⟨hne, hl⟩ := xy i b q1
    rcases hb with hb | hb
    · exact hA.ok.apart i b hl hb
    · exact hne (hA.ok.inj _ _ _ hl (hB b hb))
  · rcases getElem?_set' q2 with ⟨rfl, rfl⟩ | ⟨hne, q2⟩
    · exact Or.inr ⟨d, q1, q4⟩
    · exact Or.inl (hA.ok.frz i d q b q1 q2 q3 q4)
  · rcases hb with hb | ⟨d, q1, q2⟩
    · exact hA.ok.low b hb
    · exact xq hA.ok q1 hh (by omega) q2
  · rcases hb with hb | hb
    · exact hA.old b hb
    · rcases hA.own h b (hB b hb) with h1 | ⟨h0, d0, q0, p1, p2, p3, p4⟩
      · exact Or.inr h1
      · exfalso
        have hlt0 : h0 < m := by
          have := (List.getElem?_eq_some_iff.1 p1).1
          have e : C.φ0.length = m := hm0
          omega
        obtain ⟨q, k1, k2⟩ := hlive h0 hlt0
        have := hA.ok.inj h0 h b ⟨d0, q, hA.pre h0 d0 p1, k1, k2, p4⟩ (hB b hb)
        omega
mutual
inductive Vw (H : List Reg) : V → V → Prop where
  | same (v : V) : Vw H v v
  | pur {v v' : V} (h : Pur false H v v') : Vw H v v'
  | agg {cs ds : List V} (h : VwS H cs ds) : Vw H (.agg cs) (.agg ds)
  | tup {cs ds : List V} (h : VwS H cs ds) : Vw H (.tup cs) (.tup ds)
inductive VwS (H : List Reg) : List V → List V → Prop where
  | rest (cs : List V) : VwS H cs cs
  | cons {c d : V} {cs ds : List V} (h : Vw H c d) (hs : VwS H cs ds) : VwS H (c :: cs) (d :: ds)
end
theorem VwS.length : ∀ {cs ds : List V}, VwS H cs ds → ds.length = cs.length
  | _, _, .rest _ => rfl
  | _, _, .cons h hs => by simp [VwS.length hs]
theorem VwS.all {f : V → V} (hf : ∀ c, Vw H c (f c)) : ∀ cs : List V, VwS H cs (cs.map f)
  | [] => .rest _
  | c :: cs => .cons (hf c) (VwS.all hf cs)
mutual
theorem Vw.rel (hok : HeapOk A w φ H) : ∀ {v v' : V} {x : Value}, Vw H v v' → Rel A w φ v x → Rel A w φ v' x
  | _, _, x, .same _, h => h
  | _, _, x, .pur hp, h => vU (Pur.noH hp) (Pur.rel hok (fun b hb => hb) (fun h => by cases h) hp h)
  | _, _, x, .agg hs, h => by
    rw [Rel] at h ⊢
    obtain ⟨xs, e1, e2, h1⟩ := h
    exact ⟨xs, e1, e2.trans (VwS.length hs).symm, VwS.rels hok hs h1⟩
  | _, _, x, .tup hs, h => by
    rw [Rel] at h ⊢
    obtain ⟨xs, e1, e2, h1⟩ := h
    exact ⟨xs, e1, e2.trans (VwS.length hs).symm, VwS.rels hok hs h1⟩
theorem VwS.rels (hok : HeapOk A w φ H) : ∀ {cs ds : List V} {g : Nat → Option Value}, VwS H cs ds → z4 A w φ cs g → z4 A w φ ds g
  | _, _, g, .rest _, h => h
  | _, _, g, .cons h hs, hr => by
    rw [z4] at hr ⊢
    obtain ⟨⟨y, h1, h2⟩, h3⟩ := hr
    exact ⟨⟨y, h1, Vw.rel hok h h2⟩, VwS.rels hok hs h3⟩
end
inductive VwR (H : List Reg) : List Reg → List Reg → Prop where
  | rest (L : List Reg) : VwR H L L
  | cons {r : Reg} {cs : List V} {L K : List Reg} (h : VwS H r.cells cs) (hs : VwR H L K) : VwR H (r :: L) ({ r with cells := cs } :: K)
theorem VwR.get {G : List Reg} : ∀ {H K : List Reg}, VwR G H K → K.length = H.length ∧ ∀ (i : Nat) (r' : Reg), K[i]? = some r' → ∃ r, H[i]? = some r ∧ r'.mode = r.mode ∧ r'.esz = r.esz ∧ r'.e = r.e ∧ VwS G r.cells r'.cells
  | _, _, .rest H => ⟨rfl, fun i r h => ⟨r, h, rfl, rfl, rfl, .rest _⟩⟩
  | _, _, .cons h hs => by
    obtain ⟨e1, e2⟩ := hs.get
    refine ⟨by simp [e1], fun i r' hi => ?_⟩
    cases i with
    | zero => simp at hi; subst hi; exact ⟨_, rfl, rfl, rfl, rfl, h⟩
    | succ i => simp only [List.getElem?_cons_succ] at hi ⊢; exact e2 i r' hi
theorem kn {l l' : List V} {H K : List Reg} {m : Nat} (ht : VwS H l l') (hH : VwR H H K) : Sub ⟨l', K, m⟩ ⟨l, H, m⟩ := fun C φ a w hI => by
  obtain ⟨hm0, ⟨A, hA, hr⟩, hs, hd⟩ := hI
  obtain ⟨k1, k2⟩ := hH.get
  have hlive : ∀ i b, zy φ K i b → zy φ H i b := fun i b ⟨d, r', q1, q2, q3, q4⟩ => by
    obtain ⟨r, p1, p2, _⟩ := k2 i r' q2
    exact ⟨d, r, q1, p1, by omega, q4⟩
  refine ⟨φ, hm0, ⟨A, ⟨⟨by rw [k1]; exact hA.ok.len, fun i d r' q1 q2 q3 => ?_, fun i j b q1 q2 => hA.ok.inj i j b (hlive i b q1) (hlive j b q2), fun i b q1 => hA.ok.apart i b (hlive i b q1), fun i d r' b q1 q2 q3 q4 => ?_, hA.ok.low⟩, hA.old, fun i b q1 => hA.own i b (hlive i b q1), hA.frame, hA.pre⟩, VwS.rels hA.ok ht hr⟩, hs.trans (VwS.length ht).symm, hd⟩
  · obtain ⟨r, p1, p2, p3, p4, p5⟩ := k2 i r' q2
    obtain ⟨f1, f2⟩ := hA.ok.regs i d r q1 p1 (by omega)
    refine ⟨⟨f1.1.trans p3.symm, f1.2.1.trans p4.symm, f1.2.2⟩, ?_⟩
    cases hb : d.blk with
    | none =>
      rw [hb] at f2
      have := VwS.length p5
      rw [f2.1] at this
      exact ⟨List.length_eq_zero_iff.1 this, f2.2⟩
    | some b =>
      rw [hb] at f2
      obtain ⟨c, c1, c2, c3, c4⟩ := f2
      exact ⟨c, c1, c2, by rw [VwS.length p5]; exact c3, VwS.rels hA.ok p5 c4⟩
  · obtain ⟨r, p1, p2, _⟩ := k2 i r' q2
    exact hA.ok.frz i d r b q1 p1 (by omega) q4
theorem fz {l : List Oper} {T S : St} (hs : Sub T S) (h : AOps P ops l Q T) : AOps P ops l Q S := ⟨fun C φ a w hI => let ⟨φ', h'⟩ := hs C φ a w hI; h.out C φ' a w h'⟩
end
end Go.Proofs.Ytojcojanokhnaaa.Ab
namespace Go.Proofs.Ytojcojanokhnaaa.Ab
open Go.RowKit
def bkI (hs : List Nat) (n i : Nat) : Nat := (hs[i]?).getD (n + (i - hs.length))
mutual
inductive Bk (hs : List Nat) (n : Nat) : V → V → Prop where
  | same {v : V} (h : noH v = true) : Bk hs n v v
  | sl {i h off m : Nat} (h1 : bkI hs n i = h) : Bk hs n (.sl i off m) (.sl h off m)
  | ptr {i h off : Nat} (h1 : bkI hs n i = h) : Bk hs n (.ptr i off) (.ptr h off)
  | agg {cs ds : List V} (h : BkS hs n cs ds) : Bk hs n (.agg cs) (.agg ds)
  | tup {cs ds : List V} (h : BkS hs n cs ds) : Bk hs n (.tup cs) (.tup ds)
inductive BkS (hs : List Nat) (n : Nat) : List V → List V → Prop where
  | rest {cs : List V} (h : NoH cs) : BkS hs n cs cs
  | cons {c d : V} {cs ds : List V} (h : Bk hs n c d) (ht : BkS hs n cs ds) : BkS hs n (c :: cs) (d :: ds)
end
theorem BkS.nil {hs : List Nat} {n : Nat} : BkS hs n [] [] := .rest fun c hc => by cases hc
theorem BkS.length {hs : List Nat} {n : Nat} : ∀ {cs ds : List V}, BkS hs n cs ds → ds.length = cs.length
  | _, _, .rest _ => rfl
  | _, _, .cons h ht => by simp [BkS.length ht]
theorem BkS.map {α : Type} {hs : List Nat} {n : Nat} {f g : α → V} : ∀ (l : List α), (∀ x ∈ l, Bk hs n (f x) (g x)) → BkS hs n (l.map f) (l.map g)
  | [], _ => .nil
  | x :: l, h => .cons (h x (List.mem_cons_self ..)) (BkS.map l fun y hy => h y (List.mem_cons_of_mem _ hy))
section
variable {A : Nat → Prop} {w : World} {φ φ' : List Hd} {hs : List Nat} {n : Nat}
mutual
theorem Bk.rel (hg : ∀ (i : Nat) hd, φ'[i]? = some hd → φ[bkI hs n i]? = some hd) : ∀ {v v' : V} {x : Value}, Bk hs n v v' → Rel A w φ' v x → Rel A w φ v' x
  | v, _, x, .same h, hr => vU h hr
  | _, _, x, .sl h1, hr => by
    rw [Rel] at hr ⊢
    obtain ⟨hd, h2, h3⟩ := hr
    exact ⟨hd, h1 ▸ hg _ _ h2, h3⟩
  | _, _, x, .ptr h1, hr => by
    rw [Rel] at hr ⊢
    obtain ⟨hd, b, h2, h3⟩ := hr
    exact ⟨hd, b, h1 ▸ hg _ _ h2, h3⟩
  | .agg cs, .agg ds, x, .agg h, hr => by
    rw [Rel] at hr ⊢
    obtain ⟨xs, e1, e2, h2⟩ := hr
    exact ⟨xs, e1, e2.trans (BkS.length h).symm, BkS.rels hg h h2⟩
  | .tup cs, .tup ds, x, .tup h, hr => by
    rw [Rel] at hr ⊢
    obtain ⟨xs, e1, e2, h2⟩ := hr
    exact ⟨xs, e1, e2.trans (BkS.length h).symm, BkS.rels hg h h2⟩
theorem BkS.rels (hg : ∀ (i : Nat) hd, φ'[i]? = some hd → φ[bkI hs n i]? = some hd) : ∀ {cs ds : List V} {g : Nat → Option Value}, BkS hs n cs ds → z4 A w φ' cs g → z4 A w φ ds g
  | _, _, g, .rest h, hr => x5 h hr
  | c :: cs, _, g, .cons h ht, hr => by
    rw [z4] at hr ⊢
    obtain ⟨⟨y, h1, h2⟩, h3⟩ := hr
    exact ⟨⟨y, h1, Bk.rel hg h h2⟩, BkS.rels hg ht h3⟩
end
end
theorem uW {hs : List Nat} : ∀ {cs : List V}, NoH cs → PassS hs cs cs
  | [], _ => .nil
  | c :: cs, h => .cons (.same (h c (List.mem_cons_self ..))) (uW fun d hd => h d (List.mem_cons_of_mem _ hd))
inductive BkR (hs : List Nat) (n : Nat) : List Reg → List Reg → Prop where
  | nil : BkR hs n [] []
  | cons {R : Reg} {cs : List V} {K K2 : List Reg} (h : BkS hs n R.cells cs) (ht : BkR hs n K K2) : BkR hs n (R :: K) ({ R with cells := cs } :: K2)
theorem BkR.get {hs : List Nat} {n : Nat} : ∀ {K K2 : List Reg}, BkR hs n K K2 → K2.length = K.length ∧ ∀ (i : Nat) (r : Reg), K2[i]? = some r → ∃ R, K[i]? = some R ∧ r.mode = R.mode ∧ r.esz = R.esz ∧ r.e = R.e ∧ BkS hs n R.cells r.cells
  | _, _, .nil => ⟨rfl, fun i r h => by simp at h⟩
  | _, _, .cons h ht => by
    obtain ⟨e1, e2⟩ := ht.get
    refine ⟨by simp [e1], fun i r hi => ?_⟩
    cases i with
    | zero => simp at hi; subst hi; exact ⟨_, rfl, rfl, rfl, rfl, h⟩
    | succ i => simp only [List.getElem?_cons_succ] at hi ⊢; exact e2 i r hi
theorem BkR.ofN {hs : List Nat} {n : Nat} : ∀ {K : List Reg}, (∀ r ∈ K, NoH r.cells) → BkR hs n K K
  | [], _ => .nil
  | r :: K, h => .cons (cs := r.cells) (.rest (h r (List.mem_cons_self ..))) (BkR.ofN fun q hq => h q (List.mem_cons_of_mem _ hq))
inductive GiveN (H : List Reg) (hs0 : List Nat) (n : Nat) : List Nat → List Reg → List Reg → List Reg → Prop where
  | nil : GiveN H hs0 n [] [] [] []
  | cons {h : Nat} {R0 R' : Reg} {cs cs2 : List V} {hs : List Nat} {Rs Rs' R2 : List Reg} (hH : H[h]? = some R0) (hm : R0.mode = 0) (hp : PassS hs0 R0.cells cs) (hm' : R'.mode ≠ 1) (hb : BkS hs0 n R'.cells cs2) (ht : GiveN H hs0 n hs Rs Rs' R2) :
      GiveN H hs0 n (h :: hs) ({ R0 with cells := cs } :: Rs) (R' :: Rs') ({ R' with cells := cs2 } :: R2)
theorem GiveN.spec {H : List Reg} {hs0 : List Nat} {n : Nat} : ∀ {hs : List Nat} {Rs Rs' R2 : List Reg}, GiveN H hs0 n hs Rs Rs' R2 → Rs.length = hs.length ∧ Rs'.length = hs.length ∧ R2.length = hs.length ∧ ∀ (i h : Nat), hs[i]? = some h →
    ∃ R0 R R' RR, H[h]? = some R0 ∧ R0.mode = 0 ∧ Rs[i]? = some R ∧ R.mode = 0 ∧ R.esz = R0.esz ∧ R.e = R0.e ∧ PassS hs0 R0.cells R.cells ∧ Rs'[i]? = some R' ∧ R'.mode ≠ 1 ∧ R2[i]? = some RR ∧ RR.mode = R'.mode ∧ RR.esz = R'.esz ∧ RR.e = R'.e ∧ BkS hs0 n R'.cells RR.cells
  | _, _, _, _, .nil => ⟨rfl, rfl, rfl, fun i h hi => by simp at hi⟩
  | _, _, _, _, .cons hH hm hp hm' hb ht => by
    obtain ⟨e1, e2, e3, e4⟩ := ht.spec
    refine ⟨by simp [e1], by simp [e2], by simp [e3], fun i h hi => ?_⟩
    cases i with
    | zero =>
      simp at hi
      subst hi
      exact ⟨_, _, _, _, hH, hm, rfl, hm, rfl, rfl, hp, rfl, hm', rfl, rfl, rfl, rfl, hb⟩
    | succ i =>
      simp only [List.getElem?_cons_succ] at hi ⊢
      exact e4 i h hi
section
variable {P : Program} {o : Oper} {ρ : Operand → V} {H : List Reg}
theorem mE {f : FuncId} {args : List Operand} {ats : Array TypeId} {cargs : List V} {r r2 : V} {Rs Rs' R2 K K2 : List Reg} {al : Bool} (hs : List Nat) (hnd : hs.Nodup) [he : Ent P f] (ho : o.op = .call { callee := .value (.func f), args := args.toArray, argTypes := ats })
    (hm : zz P f cargs Rs r (Rs' ++ K) al) (hg : GiveN H hs H.length hs Rs Rs' R2) (hargs : PassS hs (args.map ρ) cargs) (hK : BkR hs H.length K K2) (hr : Bk hs H.length r r2) : z8 P o ρ H r2 (xM H hs R2 ++ K2) := by
  intro S hS hρ C φ a w hI next Q hn
  obtain ⟨hm2, ⟨A, hA, hrr⟩, hsz, hd0⟩ := hI
  subst hS
  obtain ⟨g1, g2, g2', g3⟩ := hg.spec
  obtain ⟨q1, q2⟩ := hK.get
  have hlen := hA.ok.len
  have hargr : z4 A w φ (args.map ρ) (fun i => (args.map a.eval).toArray[i]?) := wU fun x hx => by
    rw [← hρ x (by rw [ho]; simp only [Op.operands, Call.operands]; simp [hx])]
    exact wi hrr x
  have hlt : ∀ (i h : Nat), hs[i]? = some h → h < S.H.length := fun i h hi => by
    obtain ⟨R0, _, _, _, q, _⟩ := g3 i h hi
    exact (List.getElem?_eq_some_iff.1 q).1
  let hds : List Hd := hs.map fun h => φ.getD h ⟨none, 0, 0, 0⟩
  have hl1 : hds.length = hs.length := by simp [hds]
  have hget : ∀ (i h : Nat), hs[i]? = some h → ∃ hd, φ[h]? = some hd ∧ hds[i]? = some hd := fun i h hi => by
    have h1 : h < φ.length := by rw [hA.ok.len]; exact hlt i h hi
    refine ⟨φ[h], List.getElem?_eq_getElem h1, ?_⟩
    simp only [hds, List.getElem?_map, hi, Option.map_some, List.getD, List.getElem?_eq_getElem h1, Option.getD_some]
  have hback : ∀ (i : Nat) (d : Hd), hds[i]? = some d → ∃ h, hs[i]? = some h ∧ φ[h]? = some d := fun i d hi => by
    cases hx : hs[i]? with
    | none =>
      have : hds[i]? = none := by simp [hds, hx]
      rw [this] at hi
      cases hi
    | some h =>
      obtain ⟨hd, q1, q2⟩ := hget i h hx
      rw [q2] at hi
      cases hi
      exact ⟨h, rfl, q1⟩
  have hpas : ∀ (i h : Nat), hs[i]? = some h → ∀ hd, φ[h]? = some hd → hds[i]? = some hd := fun i h hi hd hhd => by
    obtain ⟨hd', p1, p2⟩ := hget i h hi
    rw [hhd] at p1
    cases p1
    exact p2
  have hli : ∀ j b, zy hds Rs j b → ∃ h, hs[j]? = some h ∧ zy φ S.H h b := fun j b ⟨d, r', q1, q2, q3, q4⟩ => by
    obtain ⟨h, p1, p2⟩ := hback j d q1
    obtain ⟨R0, R, R', RR, e1, e2, e3, _⟩ := g3 j h p1
    exact ⟨h, p1, d, R0, p2, e1, e2, q4⟩
  have hok1 : HeapOk A w hds Rs := by
    refine ⟨by rw [hl1, g1], fun j d r' q1 q2 q3 => ?_, fun j j' b q1 q2 => ?_, fun j b q1 => ?_, fun j d r' b q1 q2 q3 q4 => ?_, hA.ok.low⟩
    · obtain ⟨h, p1, p2⟩ := hback j d q1
      obtain ⟨R0, R, R', RR, e1, e2, e3, e4, e5, e6, e7, _⟩ := g3 j h p1
      rw [e3] at q2
      cases q2
      obtain ⟨f1, f2⟩ := hA.ok.regs h d R0 p2 e1 (by omega)
      refine ⟨⟨f1.1.trans e5.symm, f1.2.1.trans e6.symm, f1.2.2⟩, ?_⟩
      cases hk : d.blk with
      | none =>
        rw [hk] at f2
        have := PassS.length e7
        rw [f2.1] at this
        exact ⟨List.length_eq_zero_iff.1 this.symm, f2.2⟩
      | some b =>
        rw [hk] at f2
        obtain ⟨c, k1, k2, k3, k4⟩ := f2
        exact ⟨c, k1, k2, by rw [← PassS.length e7]; exact k3, PassS.rels hpas e7 k4⟩
    · obtain ⟨h, p1, p2⟩ := hli j b q1
      obtain ⟨h', p1', p2'⟩ := hli j' b q2
      have := hA.ok.inj _ _ _ p2 p2'
      subst this
      exact (List.getElem?_inj (List.getElem?_eq_some_iff.1 p1).1 hnd).1 (p1.trans p1'.symm)
    · obtain ⟨h, p1, p2⟩ := hli j b q1
      exact hA.ok.apart _ _ p2
    · obtain ⟨h, p1, p2⟩ := hback j d q1
      obtain ⟨R0, R, R', RR, e1, e2, e3, e4, _⟩ := g3 j h p1
      rw [e3] at q2
      cases q2
      omega
  have hcall := hm A hds w (args.map a.eval).toArray hok1 (PassS.rels hpas hargs hargr) (by simp [← PassS.length hargs])
  unfold Oper.wp
  rw [vf ho, Oper.upon_enter]
  refine hcall.mono ?_
  rintro e w' ⟨x, φ', A', rfl, k1, k2, k3, k4, k5, k6⟩
  obtain ⟨ψ', rfl⟩ : ∃ ψ', φ' = hds ++ ψ' := by
    refine ⟨φ'.drop hds.length, ?_⟩
    refine List.ext_getElem? fun i => ?_
    rcases Nat.lt_or_ge i hds.length with hi | hi
    · rw [List.getElem?_append_left hi, k6 i _ (List.getElem?_eq_getElem hi), List.getElem?_eq_getElem hi]
    · rw [List.getElem?_append_right hi, List.getElem?_drop, Nat.add_sub_cancel' hi]
  have hno : ∀ b, (∀ h ∈ hs, ¬ zy φ S.H h b) → ∀ j, ¬ zy hds Rs j b := fun b hn j hl => by
    obtain ⟨h, p1, p2⟩ := hli j b hl
    exact hn h (List.mem_of_getElem? p1) p2
  have hA' : ∀ b, A' b → A b ∨ w.heap.size ≤ b := fun b hb => (k3 b hb).imp (fun h => h.2) id
  have hl : ∀ j b, zy (hds ++ ψ') (Rs' ++ K) j b → w.heap.size ≤ b ∨ ∃ h ∈ hs, zy φ S.H h b := fun j b hl => (k4 j b hl).imp id fun ⟨j0, h⟩ => by obtain ⟨g, p1, p2⟩ := hli j0 b h; exact ⟨g, List.mem_of_getElem? p1, p2⟩
  have hoth : ∀ b, b < w.heap.size → (∀ h ∈ hs, ¬ zy φ S.H h b) → w'.heap[b]? = w.heap[b]? := fun b hb hn => k5.block b hb (hno b hn)
  have hset : ∀ (i h : Nat), hs[i]? = some h → (xM S.H hs R2)[h]? = R2[i]? := tf S.H hs R2 hnd g2' (fun x hx => by obtain ⟨i, hi⟩ := List.getElem?_of_mem hx; exact hlt i x hi)
  have hkeep : ∀ x, x ∉ hs → (xM S.H hs R2)[x]? = S.H[x]? := fun x hx => uI S.H hs R2 x hx
  have hl2 : (xM S.H hs R2).length = S.H.length := wn S.H hs R2
  generalize xM S.H hs R2 = H2 at hset hkeep hl2 hn
  have hφm : ∀ (i : Nat) (d : Hd), φ[i]? = some d → (φ ++ ψ')[i]? = some d := fun i d hh => za hh
  have hAm : ∀ b, A b → (A b ∨ A' b) ∧ w'.heap[b]? = w.heap[b]? := fun b hb => ⟨Or.inl hb, hoth b (hA.ok.low b hb) fun h _ hl => hA.ok.apart h b hl hb⟩
  have hψ : ψ'.length = K.length := by have := k1.len; rw [List.length_append, List.length_append, hl1, g2] at this; omega
  have hbk : ∀ (i : Nat) hd, (hds ++ ψ')[i]? = some hd → (φ ++ ψ')[bkI hs S.H.length i]? = some hd := fun i hd hi => by
    rcases Nat.lt_or_ge i hds.length with h1 | h1
    · rw [List.getElem?_append_left h1] at hi
      obtain ⟨h, p1, p2⟩ := hback i hd hi
      unfold bkI
      rw [p1]
      exact hφm _ _ p2
    · rw [List.getElem?_append_right h1] at hi
      unfold bkI
      rw [show hs[i]? = none from List.getElem?_eq_none (by omega), Option.getD_none, ← hlen, List.getElem?_append_right (by omega)]
      rw [← hi]
      congr 1
      omega
  have hleft : ∀ {α : Type} (a b : List α) (j : Nat), (a ++ b)[a.length + j]? = b[j]? := fun a b j => by
    rw [List.getElem?_append_right (Nat.le_add_right _ _), Nat.add_sub_cancel_left]
  have hsplit : ∀ (i : Nat) (d : Hd) (r : Reg), (φ ++ ψ')[i]? = some d → (H2 ++ K2)[i]? = some r → (∃ y R', i ∈ hs ∧ y < hs.length ∧ (hds ++ ψ')[y]? = some d ∧ (Rs' ++ K)[y]? = some R' ∧ (∃ R0, φ[i]? = some d ∧ S.H[i]? = some R0 ∧ R0.mode = 0) ∧ r.mode = R'.mode ∧ r.esz = R'.esz ∧ r.e = R'.e ∧ BkS hs S.H.length R'.cells r.cells ∧ R'.mode ≠ 1) ∨ (i ∉ hs ∧ φ[i]? = some d ∧ S.H[i]? = some r) ∨
      (∃ j R', i = φ.length + j ∧ (hds ++ ψ')[hs.length + j]? = some d ∧ (Rs' ++ K)[hs.length + j]? = some R' ∧ r.mode = R'.mode ∧ r.esz = R'.esz ∧ r.e = R'.e ∧ BkS hs S.H.length R'.cells r.cells) := fun i d r h1 h2 => by
    rcases Nat.lt_or_ge i φ.length with hlt | hge
    · rw [List.getElem?_append_left hlt] at h1
      rw [List.getElem?_append_left (by omega)] at h2
      by_cases hmm : i ∈ hs
      · obtain ⟨y, hy⟩ := List.getElem?_of_mem hmm
        obtain ⟨R0, R, R', RR, e1, e2, e3, e4, e5, e6, e7, e8, e9, e10, e11, e12, e13, e14⟩ := g3 y i hy
        rw [hset y i hy, e10] at h2
        cases h2
        exact Or.inl ⟨y, R', hmm, (List.getElem?_eq_some_iff.1 hy).1, za (hpas y i hy d h1), za e8, ⟨R0, h1, e1, e2⟩, e11, e12, e13, e14, e9⟩
      · rw [hkeep i hmm] at h2
        exact Or.inr (Or.inl ⟨hmm, h1, h2⟩)
    · rw [List.getElem?_append_right hge] at h1
      rw [List.getElem?_append_right (by omega), hl2, ← hlen] at h2
      obtain ⟨R', p1, p2, p3, p4, p5⟩ := q2 _ _ h2
      exact Or.inr (Or.inr ⟨i - φ.length, R', by omega, by rw [← hl1, hleft]; exact h1, by rw [← g2, hleft]; exact p1, p2, p3, p4, p5⟩)
  have hlive : ∀ i b, zy (φ ++ ψ') (H2 ++ K2) i b → (i ∈ hs ∧ zy φ S.H i b ∧ ∃ y, y < hs.length ∧ zy (hds ++ ψ') (Rs' ++ K) y b) ∨ (i ∉ hs ∧ zy φ S.H i b) ∨ (∃ j, i = φ.length + j ∧ zy (hds ++ ψ') (Rs' ++ K) (hs.length + j) b) := by
    rintro i b ⟨d, r, h1, h2, h3, h4⟩
    rcases hsplit i d r h1 h2 with ⟨y, R', p1, p2, p3, p4, ⟨R0, p5, p6, p7⟩, p8, _⟩ | ⟨hne, p1, p2⟩ | ⟨j, R', p0, p1, p2, p3, _⟩
    · exact Or.inl ⟨p1, ⟨d, R0, p5, p6, p7, h4⟩, y, p2, d, R', p3, p4, by omega, h4⟩
    · exact Or.inr (Or.inl ⟨hne, d, r, p1, p2, h3, h4⟩)
    · exact Or.inr (Or.inr ⟨j, p0, d, R', p1, p2, by omega, h4⟩)
  have hlow : ∀ i b, zy φ S.H i b → b < w.heap.size := fun i b ⟨d, r, h1, h2, h3, h4⟩ => xq hA.ok h1 h2 (by omega) h4
  have hcells : ∀ (d : Hd) (R' r : Reg) (y : Nat), (hds ++ ψ')[y]? = some d → (Rs' ++ K)[y]? = some R' → r.mode ≤ 1 → r.mode = R'.mode → r.esz = R'.esz → r.e = R'.e → BkS hs S.H.length R'.cells r.cells → cJ (fun b => A b ∨ A' b) w' (φ ++ ψ') d r := fun d R' r y p1 p2 p3 p4 p5 p6 p7 => by
    obtain ⟨e1, e2⟩ := k1.regs y d R' p1 p2 (by omega)
    refine ⟨⟨e1.1.trans p5.symm, e1.2.1.trans p6.symm, e1.2.2⟩, ?_⟩
    cases hk : d.blk with
    | none =>
      rw [hk] at e2
      have := BkS.length p7
      rw [e2.1] at this
      exact ⟨List.length_eq_zero_iff.1 this, e2.2⟩
    | some b =>
      rw [hk] at e2
      obtain ⟨c, c1, c2, c3, c4⟩ := e2
      exact ⟨c, c1, c2, by rw [BkS.length p7]; exact c3, z4.mono (fun b hb => ⟨Or.inr hb, rfl⟩) (fun _ _ h => h) (BkS.rels hbk p7 c4)⟩
  have hJ : InvA C (fun b => A b ∨ A' b) (φ ++ ψ') (H2 ++ K2) w' := by
    refine ⟨⟨by simp [hlen, hψ, hl2, q1], fun i d r h1 h2 h3 => ?_, fun i i' b h1 h2 => ?_, fun i b h1 => ?_, fun i d r b h1 h2 h3 h4 => ?_, fun b hb => ?_⟩, fun b hb => ?_, fun i b h1 => ?_, ?_, fun i d hh => hφm i d (hA.pre i d hh)⟩
    · rcases hsplit i d r h1 h2 with ⟨y, R', p1, p2, p3, p4, _, p8, p9, p10, p11, p12⟩ | ⟨hne, p1, p2⟩ | ⟨j, R', p0, p1, p2, p3, p4, p5, p6⟩
      · exact hcells d R' r y p3 p4 h3 p8 p9 p10 p11
      · obtain ⟨e1, e2⟩ := hA.ok.regs i d r p1 p2 h3
        refine ⟨e1, ?_⟩
        cases hk : d.blk with
        | none => rw [hk] at e2; exact e2
        | some b =>
          rw [hk] at e2
          obtain ⟨c, c1, c2, c3, c4⟩ := e2
          have hnl : ∀ h ∈ hs, ¬ zy φ S.H h b := fun h hmm hl => by
            rcases Nat.lt_or_ge r.mode 1 with hm1 | hm1
            · have := hA.ok.inj _ _ _ ⟨d, r, p1, p2, by omega, hk⟩ hl
              exact hne (this ▸ hmm)
            · exact hA.ok.apart h b hl (hA.ok.frz i d r b p1 p2 (by omega) hk)
          exact ⟨c, (hoth b (xq hA.ok p1 p2 h3 hk) hnl).trans c1, c2, c3, z4.mono hAm hφm c4⟩
      · exact hcells d R' r _ p1 p2 h3 p3 p4 p5 p6
    · have hnew : ∀ j i, i ∉ hs → zy φ S.H i b → zy (hds ++ ψ') (Rs' ++ K) (hs.length + j) b → False := fun j i hi h1 h2 => by
        rcases hl _ _ h2 with h3 | ⟨h, hmm, h3⟩
        · have := hlow _ _ h1; omega
        · have := hA.ok.inj _ _ _ h1 h3
          exact hi (this ▸ hmm)
      rcases hlive i b h1 with ⟨p1, p2, y, p3, p4⟩ | ⟨p1, p2⟩ | ⟨j, p1, p2⟩ <;> rcases hlive i' b h2 with ⟨r1, r2', y', r3, r4⟩ | ⟨r1, r2'⟩ | ⟨j', r1, r2'⟩
      · exact hA.ok.inj _ _ _ p2 r2'
      · exact hA.ok.inj _ _ _ p2 r2'
      · have := k1.inj _ _ _ p4 r2'; omega
      · exact hA.ok.inj _ _ _ p2 r2'
      · exact hA.ok.inj _ _ _ p2 r2'
      · exact (hnew j' i p1 p2 r2').elim
      · have := k1.inj _ _ _ r4 p2; omega
      · exact (hnew j i' r1 r2' p2).elim
      · have := k1.inj _ _ _ p2 r2'; omega
    · have xy : zy φ S.H i b → ¬ (A b ∨ A' b) := fun h1 hb => by
        rcases hb with hb | hb
        · exact hA.ok.apart _ _ h1 hb
        · rcases hA' b hb with hb | hb
          · exact hA.ok.apart _ _ h1 hb
          · have := hlow _ _ h1; omega
      rcases hlive i b h1 with ⟨p1, p2, _⟩ | ⟨p1, p2⟩ | ⟨j, p1, p2⟩
      · exact xy p2
      · exact xy p2
      · rintro (hb | hb)
        · rcases hl _ _ p2 with h3 | ⟨h, hmm, h3⟩
          · have := hA.ok.low b hb; omega
          · exact hA.ok.apart _ _ h3 hb
        · exact k1.apart _ _ p2 hb
    · rcases hsplit i d r h1 h2 with ⟨y, R', p1, p2, p3, p4, _, p8, p9, p10, p11, p12⟩ | ⟨hne, p1, p2⟩ | ⟨j, R', p0, p1, p2, p3, p4, p5, p6⟩
      · omega
      · exact Or.inl (hA.ok.frz i d r b p1 p2 h3 h4)
      · exact Or.inr (k1.frz (hs.length + j) d R' b p1 p2 (by omega) h4)
    · rcases hb with hb | hb
      · exact Nat.lt_of_lt_of_le (hA.ok.low b hb) k5.size
      · exact k1.low b hb
    · rcases hb with hb | hb
      · exact hA.old b hb
      · rcases hA' b hb with hb | hb
        · exact hA.old b hb
        · exact Or.inr (Nat.le_trans hA.frame.size hb)
    · rcases hlive i b h1 with ⟨p1, p2, _⟩ | ⟨p1, p2⟩ | ⟨j, p1, p2⟩
      · exact hA.own _ _ p2
      · exact hA.own _ _ p2
      · rcases hl _ _ p2 with h3 | ⟨h, hmm, h3⟩
        · exact Or.inl (Nat.le_trans hA.frame.size h3)
        · exact hA.own _ _ h3
    · obtain ⟨f1, f2, f3, f4, f5⟩ := hA.frame
      refine ⟨k5.os.trans f1, k5.tape.trans f2, k5.output.trans f3, Nat.le_trans f4 k5.size, fun i hi hnn => ?_⟩
      rw [← f5 i hi hnn]
      refine hoth i (Nat.lt_of_lt_of_le hi f4) fun h hmm hl => ?_
      rcases hA.own h i hl with h1 | ⟨h9, h1⟩
      · omega
      · exact hnn h9 h1
  have hr' : z4 (fun b => A b ∨ A' b) w' (φ ++ ψ') S.tmps (fun i => a.tmps[i]?) := z4.mono (fun b hb => ⟨Or.inl hb, k5.block b (hA.ok.low b hb) (hno b fun h hm hl => hA.ok.apart h b hl hb)⟩) (fun h hd hh => za hh) hrr
  have hx : Rel (fun b => A b ∨ A' b) w' (φ ++ ψ') r2 x := Bk.rel hbk hr (Rel.mono (fun b hb => ⟨Or.inr hb, rfl⟩) (fun _ _ h => h) k2)
  obtain ⟨h7, h8⟩ := wq (H := H2 ++ K2) hsz hr' hx o.dst
  refine hn x w' (φ ++ ψ') ⟨by cases o.dst <;> exact hm2, ⟨_, ?_, h7⟩, h8, by cases o.dst <;> exact hd0⟩
  rw [wA]
  exact hJ
theorem jK {f : FuncId} {args : List Operand} {ats : Array TypeId} {cargs : List V} {r r2 : V} {Rs Rs' R2 K K2 H' : List Reg} {al : Bool} (hs : List Nat) (hnd : hs.Nodup) [he : Ent P f] (ho : o.op = .call { callee := .value (.func f), args := args.toArray, argTypes := ats })
    (hm : zz P f cargs Rs r (Rs' ++ K) al) (hg : GiveN H hs H.length hs Rs Rs' R2) (hargs : PassS hs (args.map ρ) cargs) (hK : BkR hs H.length K K2) (hr : Bk hs H.length r r2) (hH : xM H hs R2 ++ K2 = H') : z8 P o ρ H r2 H' := by
  subst hH
  exact mE hs hnd ho hm hg hargs hK hr
end
end Go.Proofs.Ytojcojanokhnaaa.Ab
namespace Go.Proofs.Ytojcojanokhnaaa.Ab
open Go.RowKit
section
variable {P : Program} {o : Oper} {ρ : Operand → V} {H : List Reg} {l : List V}
theorem jt {t : TypeId} {fs : Array Field} (hu : P.underlying t = some (.struct fs)) (hh : P.stoodInHeld t = false) (hg : P.eqGuardType P.depth t = false)
    (h : fs.toList.zipIdx.all (fun p => !(p.1.name == "_") && Nat.beq p.1.offset p.2 && (match P.underlying p.1.type with | some (.int .i64) => true | _ => false)) = true) : IntFs P t fs := ⟨hu, hh, hg, fun i f hf => by
  rw [List.all_eq_true] at h
  have := h (f, i) (List.mem_of_getElem? (i := i) (by rw [List.getElem?_zipIdx, hf]; simp))
  simp only [Bool.and_eq_true, Bool.not_eq_true', Nat.beq_eq] at this
  refine ⟨this.1.1, this.1.2, ?_⟩
  have h2 := this.2
  split at h2
  · assumption
  · cases h2⟩
theorem kM {t t' : TypeId} {x y : Operand} {b : Bool} (ho : o.op = .binOp .neq t x y t') (hx : ρ x = B b) (hy : ρ y = B b) (ht : P.underlying t = some .bool) : z8 P o ρ H (B false) H := by
  have := qa (P := P) (H := H) ho hx hy ht
  simpa using this
theorem qh {t t' : TypeId} {x y : Operand} {k : IntKind} {a : Int} (ho : o.op = .binOp .neq t x y t') (hx : ρ x = .k (.int k a)) (hy : ρ y = .k (.int k a)) : z8 P o ρ H (B false) H := by
  have := pv (P := P) (H := H) ho hx hy
  simpa using this
end
section
variable {P : Program} {T : Tab} {ops : Array Oper} {ds d : List Nat} {n : Nat} {Q : Exit → St → Prop} {o : Oper} {l l' : List V} {H K : List Reg} {m : Nat}
end
section
variable {P : Program} {o : Oper} {ρ : Operand → V} {K : List Reg}
theorem hF {α : Type} (T : Ty α) {xs : List α} {i off : Nat} {z : α} {v : V} (hz : xs[i]? = some z) (hv : (T.enc z)[off]? = some v) : (T.flat xs)[i * T.n + off]? = some v := by
  rw [← List.getElem?_drop, pX T hz]
  exact za hv
theorem nb {α : Type} {T : Ty α} {t e h i off : Nat} {x : Operand} {xs : List α} {z : α} {v : V} [ht : Sc P t] (ho : o.op = .load t x) (hx : ρ x = .ptr h (i * T.n + off)) (hH : K[h]? = some (xL T e xs)) (hz : xs[i]? = some z) (hv : (T.enc z)[off]? = some v) : z8 P o ρ K v K :=
  vY ho hx hH (Nat.zero_le _) (hF T hz hv)
theorem yv {α : Type} {T : Ty α} {t e h i : Nat} {x : Operand} {xs : List α} {z : α} [ht : Ag P t T.n] (ho : o.op = .load t x) (hx : ρ x = .ptr h (i * T.n)) (hH : K[h]? = some (xL T e xs)) (hz : xs[i]? = some z) : z8 P o ρ K (.agg (T.enc z)) K := by
  have hlt := (List.getElem?_eq_some_iff.1 hz).1
  have := wQ (P := P) (o := o) (ρ := ρ) (H := K) (n := T.n) ho hx hH (Nat.zero_le _) (by
    show i * T.n + T.n ≤ (T.flat xs).length
    rw [yN, ← Nat.succ_mul]
    exact Nat.mul_le_mul_right _ hlt)
  have e : ((xL T e xs).cells.drop (i * T.n)).take T.n = T.enc z := by
    show ((T.flat xs).drop (i * T.n)).take T.n = _
    rw [pX T hz, ← T.len z, List.take_left']
    rfl
  rw [e] at this
  exact this
end
theorem GiveN.flat {H : List Reg} {hs0 : List Nat} {n h : Nat} {R R' : Reg} {hs : List Nat} {Rs Rs' R2 : List Reg} (hH : H[h]? = some R) (hm : R.mode = 0) (hm' : R'.mode = 0) (hN : NoH R.cells) (hN' : NoH R'.cells) (ht : GiveN H hs0 n hs Rs Rs' R2) : GiveN H hs0 n (h :: hs) (R :: Rs) (R' :: Rs') (R' :: R2) :=
  .cons (R0 := R) (R' := R') (cs := R.cells) (cs2 := R'.cells) hH hm (uW hN) (by omega) (.rest hN') ht
end Go.Proofs.Ytojcojanokhnaaa.Ab
namespace Go.Proofs.Ytojcojanokhnaaa.Ab
open Go.RowKit
theorem yh : ∀ {cs : List V}, NoH cs → noHs cs = true
  | [], _ => rfl
  | c :: cs, h => by simp only [noHs, h c (List.mem_cons_self ..), yh fun d hd => h d (List.mem_cons_of_mem _ hd), Bool.and_self]
def shR (k : Nat) (r : Reg) : Reg := { r with cells := v4 k r.cells }
section
variable {A A' : Nat → Prop} {w w' : World} {φ φ' : List Hd} {H : List Reg}
theorem InvA.joinN {C : Cx} (hA : InvA C A φ H w) {K : List Reg} (hK : HeapOk A' w' φ' K) (hA' : ∀ b, A' b → A b ∨ w.heap.size ≤ b) (hl : ∀ h b, zy φ' K h b → w.heap.size ≤ b) (hoth : ∀ b, b < w.heap.size → w'.heap[b]? = w.heap[b]?)
    (hsz : w.heap.size ≤ w'.heap.size) (hos : w'.os = w.os) (htape : w'.tape = w.tape) (hout : w'.output = w.output) :
    InvA C (fun b => A b ∨ A' b) (φ ++ φ') (H ++ K.map (shR H.length)) w' := by
  have hlen := hA.ok.len
  have hφ : ∀ (h : Nat) (hd : Hd), φ[h]? = some hd → (φ ++ φ')[h]? = some hd := fun h hd hh => za hh
  have hAm : ∀ b, A b → (A b ∨ A' b) ∧ w'.heap[b]? = w.heap[b]? := fun b hb => ⟨Or.inl hb, hoth b (hA.ok.low b hb)⟩
  have hsplit : ∀ (h : Nat) (hd : Hd) (r : Reg), (φ ++ φ')[h]? = some hd → (H ++ K.map (shR H.length))[h]? = some r → (φ[h]? = some hd ∧ H[h]? = some r) ∨ (∃ j r0, h = φ.length + j ∧ φ'[j]? = some hd ∧ K[j]? = some r0 ∧ r = shR H.length r0) := fun h hd r h1 h2 => by
    rcases Nat.lt_or_ge h φ.length with hh | hh
    · rw [List.getElem?_append_left hh] at h1
      rw [List.getElem?_append_left (by omega)] at h2
      exact Or.inl ⟨h1, h2⟩
    · rw [List.getElem?_append_right hh] at h1
      rw [List.getElem?_append_right (by omega), ← hlen] at h2
      rw [List.getElem?_map] at h2
      cases hq : K[h - φ.length]? with
      | none => rw [hq] at h2; cases h2
      | some r0 =>
        rw [hq] at h2
        simp only [Option.map_some, Option.some.injEq] at h2
        exact Or.inr ⟨h - φ.length, r0, by omega, h1, hq, by rw [← hlen]; exact h2.symm⟩
  have hlive : ∀ h b, zy (φ ++ φ') (H ++ K.map (shR H.length)) h b → zy φ H h b ∨ ∃ j, h = φ.length + j ∧ zy φ' K j b := by
    rintro h b ⟨hd, r, h1, h2, h3, h4⟩
    rcases hsplit h hd r h1 h2 with ⟨p1, p2⟩ | ⟨j, r0, p0, p1, p2, rfl⟩
    · exact Or.inl ⟨hd, r, p1, p2, h3, h4⟩
    · exact Or.inr ⟨j, p0, hd, r0, p1, p2, h3, h4⟩
  have hlow : ∀ h b, zy φ H h b → b < w.heap.size := fun h b ⟨hd, r, h1, h2, h3, h4⟩ => xq hA.ok h1 h2 (by omega) h4
  refine ⟨⟨by simp [hlen, hK.len], fun h hd r h1 h2 h3 => ?_, fun h h' b h1 h2 => ?_, fun h b h1 => ?_, fun h hd r b h1 h2 h3 h4 => ?_, fun b hb => ?_⟩, fun b hb => ?_, fun h b h1 => ?_, ?_, fun h hd hh => hφ h hd (hA.pre h hd hh)⟩
  · rcases hsplit h hd r h1 h2 with ⟨p1, p2⟩ | ⟨j, r0, p0, p1, p2, rfl⟩
    · obtain ⟨e1, e2⟩ := hA.ok.regs h hd r p1 p2 h3
      refine ⟨e1, ?_⟩
      cases hk : hd.blk with
      | none => rw [hk] at e2; exact e2
      | some b =>
        rw [hk] at e2
        obtain ⟨c, k1, k2, k3, k4⟩ := e2
        exact ⟨c, (hoth b (xq hA.ok p1 p2 h3 hk)).trans k1, k2, k3, z4.mono hAm hφ k4⟩
    · obtain ⟨e1, e2⟩ := hK.regs j hd r0 p1 p2 h3
      refine ⟨e1, ?_⟩
      cases hk : hd.blk with
      | none => rw [hk] at e2; refine ⟨?_, e2.2⟩; show v4 H.length r0.cells = []; rw [e2.1]; rfl
      | some b =>
        rw [hk] at e2
        obtain ⟨c, k1, k2, k3, k4⟩ := e2
        exact ⟨c, k1, k2, by show (v4 H.length r0.cells).length ≤ _; rw [wv]; exact k3, z4.mono (fun b hb => ⟨Or.inr hb, rfl⟩) (fun _ _ h => h) (by rw [← hlen]; exact uH k4)⟩
  · rcases hlive h b h1 with q1 | ⟨j, p1, q1⟩
    · rcases hlive h' b h2 with q2 | ⟨j', p2, q2⟩
      · exact hA.ok.inj _ _ _ q1 q2
      · have := hlow _ _ q1
        have := hl _ _ q2
        omega
    · rcases hlive h' b h2 with q2 | ⟨j', p2, q2⟩
      · have := hlow _ _ q2
        have := hl _ _ q1
        omega
      · rw [p1, p2, hK.inj _ _ _ q1 q2]
  · rcases hlive h b h1 with q1 | ⟨j, p1, q1⟩
    · rintro (hb | hb)
      · exact hA.ok.apart _ _ q1 hb
      · rcases hA' b hb with hb | hb
        · exact hA.ok.apart _ _ q1 hb
        · have := hlow _ _ q1
          omega
    · rintro (hb | hb)
      · have := hA.ok.low b hb
        have := hl _ _ q1
        omega
      · exact hK.apart _ _ q1 hb
  · rcases hsplit h hd r h1 h2 with ⟨p1, p2⟩ | ⟨j, r0, p0, p1, p2, rfl⟩
    · exact Or.inl (hA.ok.frz h hd r b p1 p2 h3 h4)
    · exact Or.inr (hK.frz j hd r0 b p1 p2 h3 h4)
  · rcases hb with hb | hb
    · exact Nat.lt_of_lt_of_le (hA.ok.low b hb) hsz
    · exact hK.low b hb
  · rcases hb with hb | hb
    · exact hA.old b hb
    · rcases hA' b hb with hb | hb
      · exact hA.old b hb
      · exact Or.inr (Nat.le_trans hA.frame.size hb)
  · rcases hlive h b h1 with q1 | ⟨j, p1, q1⟩
    · exact hA.own _ _ q1
    · exact Or.inl (Nat.le_trans hA.frame.size (hl _ _ q1))
  · obtain ⟨f1, f2, f3, f4, f5⟩ := hA.frame
    exact ⟨hos.trans f1, htape.trans f2, hout.trans f3, Nat.le_trans f4 hsz, fun i hi hno => (hoth i (Nat.lt_of_lt_of_le hi f4)).trans (f5 i hi hno)⟩
end
section
variable {P : Program} {o : Oper} {ρ : Operand → V} {H : List Reg}
theorem sk {f : FuncId} {vs cargs : List V} {r : V} {K : List Reg} {al : Bool}
    (hrun : ∀ (A : Nat → Prop) (φ : List Hd) (a : Act) (w : World), HeapOk A w φ H → (∀ x ∈ o.op.operands, Rel A w φ (ρ x) (a.eval x)) → ∃ xs : Array Value, (execOp a.eval o).run P w = .ok (.enter f xs) w ∧ xs.size = vs.length ∧ z4 A w φ vs (fun i => xs[i]?))
    (hm : zz P f cargs [] r K al) (hargs : Purs (!al) H vs cargs) : z8 P o ρ H (shV H.length r) (H ++ K.map (shR H.length)) := by
  intro S hS hρ C φ a w hI next Q hn
  obtain ⟨hm0, ⟨A, hA, hr⟩, hs, hd⟩ := hI
  subst hS
  obtain ⟨xs, hexec, hxl, hargr⟩ := hrun A φ a w hA.ok (fun x hx => by rw [← hρ x hx]; exact wi hr x)
  let A1 : Nat → Prop := fun b => A b ∨ (al = false ∧ b < w.heap.size)
  have hok1 : HeapOk A1 w [] [] := ⟨rfl, fun h hd r h1 => by simp at h1, fun h h' b ⟨hd, r, h1, _⟩ => by simp at h1, fun h b ⟨hd, r, h1, _⟩ => by simp at h1, fun h hd r b h1 => by simp at h1, fun b hb => by
    rcases hb with hb | hb
    · exact hA.ok.low b hb
    · exact hb.2⟩
  have hargs1 : z4 A1 w [] cargs (fun i => xs[i]?) := Purs.rels hA.ok (fun b hb => Or.inl hb) (fun hl h b hb => Or.inr ⟨by cases al <;> simp_all, by obtain ⟨hd, r, q1, q2, q3, q4⟩ := hb; exact xq hA.ok q1 q2 (by omega) q4⟩) hargs hargr
  have hcall := hm A1 [] w xs hok1 hargs1 (hxl.trans (Purs.length hargs))
  unfold Oper.wp
  rw [hexec, Oper.upon_enter]
  refine hcall.mono ?_
  rintro e w' ⟨x, φ', A', rfl, k1, k2, k3, k4, k5, k6⟩
  have hfr : ∀ b, b < w.heap.size → w'.heap[b]? = w.heap[b]? := fun b hb => k5.block b hb (fun h ⟨hd, r, h1, _⟩ => by simp at h1)
  have hJ : InvA C (fun b => A b ∨ A' b) (φ ++ φ') (S.H ++ K.map (shR S.H.length)) w' := hA.joinN k1 (fun b hb => by
      rcases k3 b hb with ⟨ha, hb | hb⟩ | hb
      · exact Or.inl hb
      · rw [ha] at hb; cases hb.1
      · exact Or.inr hb)
    (fun h b hl => by
      rcases k4 h b hl with h1 | ⟨h0, hd, r, h1, _⟩
      · exact h1
      · simp at h1) hfr k5.size k5.os k5.tape k5.output
  have hr' : z4 (fun b => A b ∨ A' b) w' (φ ++ φ') S.tmps (fun i => a.tmps[i]?) := z4.mono (fun b hb => ⟨Or.inl hb, hfr b (hA.ok.low b hb)⟩) (fun h hd hh => za hh) hr
  have hx : Rel (fun b => A b ∨ A' b) w' (φ ++ φ') (shV S.H.length r) x := by
    rw [← hA.ok.len]
    exact pE (Rel.mono (fun b hb => ⟨Or.inr hb, rfl⟩) (fun _ _ h => h) k2)
  obtain ⟨h7, h8⟩ := wq (H := S.H ++ K.map (shR S.H.length)) hs hr' hx o.dst
  refine hn x w' (φ ++ φ') ⟨by cases o.dst <;> exact hm0, ⟨_, ?_, h7⟩, h8, by cases o.dst <;> exact hd⟩
  rw [wA]
  exact hJ
theorem yQ {K H' : List Reg} {f : FuncId} {args : List Operand} {ats : Array TypeId} {cargs : List V} {r r' : V} {al : Bool} [he : Ent P f] (ho : o.op = .call { callee := .value (.func f), args := args.toArray, argTypes := ats })
    (hm : zz P f cargs [] r K al) (hargs : Purs (!al) H (args.map ρ) cargs) (hr : shV H.length r = r') (hH : H ++ K.map (shR H.length) = H') : z8 P o ρ H r' H' := by
  subst hr
  subst hH
  exact sk (fun A φ a w hok hh => ⟨_, vf ho, by simp, wU fun x hx => hh x (by rw [ho]; simp only [Op.operands, Call.operands]; simp [hx])⟩) hm hargs
end
section
variable {α : Type} {T : Ty α} {e : TypeId}
def nC (b : Nat) : List (List α) → List V
  | [] => []
  | x :: xs => .sl b 0 x.length :: nC (b + 1) xs
def nR (T : Ty α) (e : TypeId) (rs : List (List α)) : List Reg := rs.map (xL T e)
theorem xN : ∀ (b : Nat) (rs : List (List α)), (nC b rs).length = rs.length
  | _, [] => rfl
  | b, x :: xs => by simp [nC, xN (b + 1) xs]
theorem qi : ∀ (b : Nat) (rs ss : List (List α)), nC b (rs ++ ss) = nC b rs ++ nC (b + rs.length) ss
  | _, [], ss => by simp [nC]
  | b, x :: xs, ss => by
    simp only [List.cons_append, nC, List.length_cons]
    rw [qi (b + 1) xs ss]
    congr 3
    omega
theorem pD (n : Nat) : ∀ (b : Nat) (rs : List (List α)), v4 n (nC b rs) = nC (b + n) rs
  | _, [] => rfl
  | b, x :: xs => by
    simp only [nC, v4, shV]
    rw [pD n (b + 1) xs]
    congr 2
    omega
theorem zn (rs : List (List α)) : (nR T e rs).length = rs.length := by simp [nR]
theorem xT {rs : List (List α)} {j : Nat} {x : List α} (h : rs[j]? = some x) : (nR T e rs)[j]? = some (xL T e x) := by simp [nR, h]
theorem dq (n : Nat) (rs : List (List α)) : (nR T e rs).map (shR n) = nR T e rs := by
  rw [nR, List.map_map]
  refine List.map_congr_left fun x hx => ?_
  simp only [Function.comp, shR, yT n (yh (zJ T x))]
def lsT (T : Ty α) : Ty (List α) := ⟨1, fun xs => [xv T xs], fun _ => rfl, by decide, fun r c hc => by
  simp only [List.mem_cons, List.not_mem_nil, or_false] at hc
  subst hc
  exact ⟨rfl, rfl⟩⟩
theorem zr {H : List Reg} {h : Nat} {x : List α} (hH : H[h]? = some (xL T e x)) : Pur true H (.sl h 0 x.length) (xv T x) := pur_L hH rfl rfl rfl
theorem mN {H : List Reg} : ∀ {b : Nat} {rs : List (List α)}, (∀ j x, rs[j]? = some x → H[b + j]? = some (xL T e x)) → Purs true H (nC b rs) ((lsT T).flat rs)
  | _, [], _ => .nil
  | b, x :: xs, h => by
    rw [wh]
    exact .cons (zr (h 0 x rfl)) (mN fun j y hj => by have := h (j + 1) y (by simpa using hj); rw [show b + 1 + j = b + (j + 1) by omega]; exact this)
theorem jc {H : List Reg} {h b ty : Nat} {rs : List (List α)} (hH : H[h]? = some ⟨ty, 1, nC b rs, 0⟩) (hR : ∀ j x, rs[j]? = some x → H[b + j]? = some (xL T e x)) : Pur true H (.sl h 0 rs.length) (xv (lsT T) rs) :=
  .slN hH (Or.inr ⟨rfl, rfl⟩) (Nat.succ_pos 0) (by simp [xN]) (by
    have := mN (H := H) hR
    simpa [xN, List.take_of_length_le] using this)
theorem wH {ψ : List Nat} : ∀ {b b' : Nat} {rs : List (List α)}, (∀ j, j < rs.length → ψ[b + j]? = some (b' + j)) → Les ψ (nC b rs) (nC b' rs)
  | _, _, [], _ => zj
  | b, b', x :: xs, h => zZ (zk (h 0 (by simp)) rfl) (wH fun j hj => by
      have := h (j + 1) (by simp; omega)
      rw [show b + 1 + j = b + (j + 1) by omega, show b' + 1 + j = b' + (j + 1) by omega]
      exact this)
theorem wV (hs : List Nat) (b n j : Nat) (h : j < n) : (hs ++ List.range' b n)[hs.length + j]? = some (b + j) := by
  rw [List.getElem?_append_right (Nat.le_add_right _ _), Nat.add_sub_cancel_left]
  simp [h]
theorem xK {hs : List Nat} {b n : Nat} (h1 : hs.Nodup) (h2 : ∀ h ∈ hs, h < b ∨ b + n ≤ h) : (hs ++ List.range' b n).Nodup := by
  rw [List.nodup_append]
  refine ⟨h1, List.nodup_range', fun x hx y hy => ?_⟩
  rw [List.mem_range'_1] at hy
  have := h2 x hx
  omega
theorem qD {H : List Reg} {hs : List Nat} {K1 : List Reg} {rs : List (List α)} {b : Nat} (hn : (hs ++ List.range' b rs.length).Nodup) (h1 : HLes (hs ++ List.range' b rs.length) H hs K1) (h2 : ∀ j x, rs[j]? = some x → H[b + j]? = some (xL T e x)) :
    HLe (hs ++ List.range' b rs.length) (K1 ++ nR T e rs) H := by
  obtain ⟨e1, e2⟩ := h1.get
  refine ⟨by simp [e1, nR], hn, fun i h hi => ?_⟩
  rcases Nat.lt_or_ge i hs.length with hlt | hge
  · rw [List.getElem?_append_left hlt] at hi
    obtain ⟨r, r', q1, q2, q3⟩ := e2 i h hi
    exact ⟨r, r', za q1, q2, q3⟩
  · rw [List.getElem?_append_right hge] at hi
    have hlt : i - hs.length < rs.length := by
      have := (List.getElem?_eq_some_iff.1 hi).1
      simpa using this
    have hx := List.getElem?_eq_getElem hlt
    have hh : h = b + (i - hs.length) := by
      obtain ⟨_, q⟩ := List.getElem?_eq_some_iff.1 hi
      simp at q
      omega
    subst hh
    refine ⟨_, _, ?_, h2 _ _ hx, fun _ => ⟨rfl, rfl, rfl, zX (zJ T _)⟩⟩
    rw [List.getElem?_append_right (by omega), ← e1]
    exact xT hx
end
def v3 (cs : List V) : Prop := ∀ c ∈ cs, (match c with | .k _ | .sl _ _ _ | .ptr _ _ | .any => true | _ => false) = true
theorem qP.flatS {cs : List V} (h : qP cs) : v3 cs := fun c hc => by obtain ⟨v, rfl⟩ := h c hc; rfl
theorem tN {α : Type} : ∀ (b : Nat) (rs : List (List α)), v3 (nC b rs)
  | _, [] => fun c hc => by cases hc
  | b, x :: xs => fun c hc => by
    rcases List.mem_cons.1 hc with rfl | hc
    · rfl
    · exact tN (b + 1) xs c hc
theorem sP {al : Bool} {r v : V} {K : List Reg} {S : St} (ψ : List Nat) (hfix : ∀ i, i < S.m → ψ[i]? = some i) (hH : HLe ψ K S.H) (hr : Le ψ r v)
    (hal : al = true ∨ (tU r = true ∧ ∀ q ∈ K, q.mode ≠ 1 ∧ (q.mode = 0 → v3 q.cells))) : Out al r K v S := by
  intro C A φ w x hm hA hv
  obtain ⟨φ', h1, h2, h3, h4⟩ := hH.ok hA.ok
  have hown : ∀ h b, zy φ' K h b → C.w0.heap.size ≤ b ∨ ∃ h0, zy C.φ0 C.H0 h0 b := fun h b hl => by
    obtain ⟨h', hl'⟩ := h4 h b hl
    exact hA.own h' b hl'
  have hpre : ∀ (h : Nat) (hd : Hd), C.φ0[h]? = some hd → φ'[h]? = some hd := fun i hd hi =>
    h2 i i (hfix i (by rw [← hm]; exact (List.getElem?_eq_some_iff.1 hi).1)) hd (hA.pre i hd hi)
  rcases hal with hal | ⟨hf, hK⟩
  · exact ⟨φ', A, h3, Le.rel h2 hr hv, fun b hb => (hA.old b hb).imp (fun h => ⟨hal, h⟩) id, hown, hpre⟩
  · refine ⟨φ', fun _ => False, ⟨h3.len, fun h hd q q1 q2 q3 => ?_, h3.inj, fun _ _ _ h => h, fun h hd q b q1 q2 q3 q4 => absurd q3 (hK q (List.mem_of_getElem? q2)).1, fun _ h => h.elim⟩, nk hf (Le.rel h2 hr hv), fun _ h => h.elim, hown, hpre⟩
    obtain ⟨e1, e2⟩ := h3.regs h hd q q1 q2 q3
    have hq := hK q (List.mem_of_getElem? q2)
    refine ⟨e1, ?_⟩
    cases hb : hd.blk with
    | none => rw [hb] at e2; exact e2
    | some b =>
      rw [hb] at e2
      obtain ⟨c, k1, k2, k3, k4⟩ := e2
      have hs := hq.2 (by have := hq.1; omega)
      exact ⟨c, k1, k2, k3, uY (fun c hc x hx => wy hx (by have := hs c hc; cases c <;> first | rfl | exact this)) k4⟩
section
variable {l : List V} {H : List Reg}
theorem hM {al : Bool} {t : Tmp} {v r : V} {K : List Reg} (ψ : List Nat) (hv : evO l (.tmp t) = some v) (hH : HLe ψ K H) (hr : Le ψ r v) (hal : al = true ∨ (tU r = true ∧ ∀ q ∈ K, q.mode ≠ 1 ∧ (q.mode = 0 → v3 q.cells))) :
    (Exit.ret = .ret ∨ Exit.ret = .normal) ∧ Out al r K (vq ⟨l, H, 0⟩ [t]) ⟨l, H, 0⟩ := by
  have : vq ⟨l, H, 0⟩ [t] = v := uQ (H := H) (m := 0) (x := .tmp t) hv
  rw [this]
  exact ⟨Or.inl rfl, sP ψ (fun i hi => absurd hi (Nat.not_lt_zero _)) hH hr hal⟩
inductive EqS : List V → List V → Prop where
  | nil : EqS [] []
  | any {d : V} {cs ds : List V} (h : EqS cs ds) : EqS (.any :: cs) (d :: ds)
  | same {c d : V} {cs ds : List V} (hc : d = c) (h : EqS cs ds) : EqS (c :: cs) (d :: ds)
theorem EqS.length : ∀ {cs ds : List V}, EqS cs ds → ds.length = cs.length
  | _, _, .nil => rfl
  | _, _, .any h => by simp [EqS.length h]
  | _, _, .same _ h => by simp [EqS.length h]
theorem EqS.rels {A : Nat → Prop} {w : World} {φ : List Hd} : ∀ {cs ds : List V} {g : Nat → Option Value}, EqS cs ds → z4 A w φ ds g → z4 A w φ cs g
  | _, _, g, .nil, h => h
  | _, _, g, .any hs, h => by
    rw [z4] at h ⊢
    obtain ⟨⟨y, h1, h2⟩, h3⟩ := h
    exact ⟨⟨y, h1, by simp [Rel]⟩, EqS.rels hs h3⟩
  | _, _, g, .same hc hs, h => by
    subst hc
    rw [z4] at h ⊢
    obtain ⟨h1, h3⟩ := h
    exact ⟨h1, EqS.rels hs h3⟩
theorem yp {l' : List V} {H H' : List Reg} {m : Nat} (hH : H' = H) (ht : EqS l' l) : Sub ⟨l', H', m⟩ ⟨l, H, m⟩ := fun C φ a w hI => by
  subst hH
  obtain ⟨hm0, ⟨A, hA, hr⟩, hs, hd⟩ := hI
  exact ⟨φ, hm0, ⟨A, hA, EqS.rels ht hr⟩, hs.trans (EqS.length ht), hd⟩
end
theorem uO {i n : Nat} (h : i < n) (hn : n ≤ 1000000000000) : I (IntKind.i64.wrap ((i : Int) + 1)) = I ((i + 1 : Nat) : Int) := congrArg I (qX h hn)
section
variable {P : Program} {o : Oper} {ρ : Operand → V} {H : List Reg}
end
end Go.Proofs.Ytojcojanokhnaaa.Ab
namespace Go.Proofs.Ytojcojanokhnaaa.Ab
open Go.RowKit
section
variable {α : Type} {T : Ty α} {e : TypeId}
theorem eV (n ty : Nat) (rs : List (List α)) : ((⟨ty, 1, nC 1 rs, 0⟩ :: nR T e rs : List Reg)).map (shR n) = ⟨ty, 1, nC (1 + n) rs, 0⟩ :: nR T e rs := by
  rw [List.map_cons, dq]
  simp only [shR, pD]
theorem jZ {H D : List Reg} {rs : List (List α)} {b : Nat} {K0 : List Reg} (hb : b = K0.length) (hH : H = K0 ++ nR T e rs ++ D) : ∀ j x, rs[j]? = some x → H[b + j]? = some (xL T e x) := fun j x hx => by
  subst hb
  subst hH
  rw [List.append_assoc, List.getElem?_append_right (Nat.le_add_right _ _), Nat.add_sub_cancel_left]
  exact za (xT hx)
end
section
variable {P : Program} {o : Oper} {ρ : Operand → V} {H : List Reg}
end
end Go.Proofs.Ytojcojanokhnaaa.Ab
namespace Go.Proofs.Ytojcojanokhnaaa.Ab
theorem sc2 : Sc Go.Proofs.Try.prog 2 := wS Go.Proofs.Try.underlying2 rfl (by kernel_rfl)
instance : Sc Go.Proofs.Try.prog 2 := sc2
theorem ze2 : Ze Go.Proofs.Try.prog 2 [.int .i64 (0)] := yr (z := .int .i64 (0)) (by kernel_rfl) rfl
instance : Ze Go.Proofs.Try.prog 2 [.int .i64 (0)] := ze2
theorem ik2 : Ik Go.Proofs.Try.prog 2 .i64 := ⟨Go.Proofs.Try.underlying2⟩
instance : Ik Go.Proofs.Try.prog 2 .i64 := ik2
theorem sc3 : Sc Go.Proofs.Try.prog 3 := wS Go.Proofs.Try.underlying3 rfl (by kernel_rfl)
instance : Sc Go.Proofs.Try.prog 3 := sc3
theorem ze3 : Ze Go.Proofs.Try.prog 3 [.int .i64 (0)] := yr (z := .int .i64 (0)) (by kernel_rfl) rfl
instance : Ze Go.Proofs.Try.prog 3 [.int .i64 (0)] := ze3
theorem ik3 : Ik Go.Proofs.Try.prog 3 .i64 := ⟨Go.Proofs.Try.underlying3⟩
instance : Ik Go.Proofs.Try.prog 3 .i64 := ik3
theorem sc4 : Sc Go.Proofs.Try.prog 4 := wS Go.Proofs.Try.underlying4 rfl (by kernel_rfl)
instance : Sc Go.Proofs.Try.prog 4 := sc4
theorem ze4 : Ze Go.Proofs.Try.prog 4 [.bool false] := yr (z := .bool false) (by kernel_rfl) rfl
instance : Ze Go.Proofs.Try.prog 4 [.bool false] := ze4
theorem bl4 : Go.Proofs.Try.prog.underlying 4 = some .bool := Go.Proofs.Try.underlying4
theorem sc5 : Sc Go.Proofs.Try.prog 5 := wS Go.Proofs.Try.underlying5 rfl (by kernel_rfl)
instance : Sc Go.Proofs.Try.prog 5 := sc5
theorem ze5 : Ze Go.Proofs.Try.prog 5 [.int .u8 (0)] := yr (z := .int .u8 (0)) (by kernel_rfl) rfl
instance : Ze Go.Proofs.Try.prog 5 [.int .u8 (0)] := ze5
theorem ik5 : Ik Go.Proofs.Try.prog 5 .u8 := ⟨Go.Proofs.Try.underlying5⟩
instance : Ik Go.Proofs.Try.prog 5 .u8 := ik5
theorem sc9 : Sc Go.Proofs.Try.prog 9 := wS Go.Proofs.Try.underlying9 rfl (by kernel_rfl)
instance : Sc Go.Proofs.Try.prog 9 := sc9
theorem ze9 : Ze Go.Proofs.Try.prog 9 [.string .empty] := yr (z := .string .empty) (by kernel_rfl) rfl
instance : Ze Go.Proofs.Try.prog 9 [.string .empty] := ze9
theorem str9 : Str Go.Proofs.Try.prog 9 := ⟨Go.Proofs.Try.underlying9⟩
instance : Str Go.Proofs.Try.prog 9 := str9
theorem sc12 : Sc Go.Proofs.Try.prog 12 := wS Go.Proofs.Try.underlying12 rfl (by kernel_rfl)
instance : Sc Go.Proofs.Try.prog 12 := sc12
theorem ze12 : Ze Go.Proofs.Try.prog 12 [.int .u64 (0)] := yr (z := .int .u64 (0)) (by kernel_rfl) rfl
instance : Ze Go.Proofs.Try.prog 12 [.int .u64 (0)] := ze12
theorem ik12 : Ik Go.Proofs.Try.prog 12 .u64 := ⟨Go.Proofs.Try.underlying12⟩
instance : Ik Go.Proofs.Try.prog 12 .u64 := ik12
theorem ag13 : Ag Go.Proofs.Try.prog 13 2 := vB Go.Proofs.Try.underlying13 (by kernel_rfl)
instance : Ag Go.Proofs.Try.prog 13 2 := ag13
theorem fL : Fd Go.Proofs.Try.prog 13 0 0 1 false := yH Go.Proofs.Try.underlying13 (off := 0) (ft := 9) rfl Go.Proofs.Try.underlying9 (n := 1) (by kernel_rfl) rfl (by decide)
instance : Fd Go.Proofs.Try.prog 13 0 0 1 false := fL
theorem fK : Fd Go.Proofs.Try.prog 13 1 1 1 false := yH Go.Proofs.Try.underlying13 (off := 1) (ft := 12) rfl Go.Proofs.Try.underlying12 (n := 1) (by kernel_rfl) rfl (by decide)
instance : Fd Go.Proofs.Try.prog 13 1 1 1 false := fK
theorem pl13 : Pl Go.Proofs.Try.prog 13 [(0, 1), (1, 1)] := w7 Go.Proofs.Try.underlying13 (by kernel_rfl)
instance : Pl Go.Proofs.Try.prog 13 [(0, 1), (1, 1)] := pl13
theorem ze13 : Ze Go.Proofs.Try.prog 13 [.string .empty, .int .u64 (0)] := yr (z := .agg #[.string .empty, .int .u64 (0)]) (by kernel_rfl) rfl
instance : Ze Go.Proofs.Try.prog 13 [.string .empty, .int .u64 (0)] := ze13
theorem sc21 : Sc Go.Proofs.Try.prog 21 := wS Go.Proofs.Try.underlying21 rfl (by kernel_rfl)
instance : Sc Go.Proofs.Try.prog 21 := sc21
theorem ze21 : Ze Go.Proofs.Try.prog 21 [.int .i32 (0)] := yr (z := .int .i32 (0)) (by kernel_rfl) rfl
instance : Ze Go.Proofs.Try.prog 21 [.int .i32 (0)] := ze21
theorem ik21 : Ik Go.Proofs.Try.prog 21 .i32 := ⟨Go.Proofs.Try.underlying21⟩
instance : Ik Go.Proofs.Try.prog 21 .i32 := ik21
theorem sc22 : Sc Go.Proofs.Try.prog 22 := wS Go.Proofs.Try.underlying22 rfl (by kernel_rfl)
instance : Sc Go.Proofs.Try.prog 22 := sc22
theorem ze22 : Ze Go.Proofs.Try.prog 22 [.slice none 0 0] := yr (z := .slice none 0 0) (by kernel_rfl) rfl
instance : Ze Go.Proofs.Try.prog 22 [.slice none 0 0] := ze22
theorem sl22 : Sl Go.Proofs.Try.prog 22 5 1 1 := sr (z := .int .u8 (0)) Go.Proofs.Try.underlying22 (by kernel_rfl) rfl (by decide)
instance : Sl Go.Proofs.Try.prog 22 5 1 1 := sl22
theorem sc24 : Sc Go.Proofs.Try.prog 24 := wS Go.Proofs.Try.underlying24 rfl (by kernel_rfl)
instance : Sc Go.Proofs.Try.prog 24 := sc24
theorem ze24 : Ze Go.Proofs.Try.prog 24 [.slice none 0 0] := yr (z := .slice none 0 0) (by kernel_rfl) rfl
instance : Ze Go.Proofs.Try.prog 24 [.slice none 0 0] := ze24
theorem sl24 : Sl Go.Proofs.Try.prog 24 78 3 24 := sr (z := .agg #[.int .i64 (0), .int .i64 (0), .int .i64 (0)]) Go.Proofs.Try.underlying24 (by kernel_rfl) rfl (by decide)
instance : Sl Go.Proofs.Try.prog 24 78 3 24 := sl24
theorem sc25 : Sc Go.Proofs.Try.prog 25 := wS Go.Proofs.Try.underlying25 rfl (by kernel_rfl)
instance : Sc Go.Proofs.Try.prog 25 := sc25
theorem ze25 : Ze Go.Proofs.Try.prog 25 [.slice none 0 0] := yr (z := .slice none 0 0) (by kernel_rfl) rfl
instance : Ze Go.Proofs.Try.prog 25 [.slice none 0 0] := ze25
theorem sl25 : Sl Go.Proofs.Try.prog 25 84 1 24 := sr (z := .agg #[.slice none 0 0]) Go.Proofs.Try.underlying25 (by kernel_rfl) rfl (by decide)
instance : Sl Go.Proofs.Try.prog 25 84 1 24 := sl25
theorem ag26 : Ag Go.Proofs.Try.prog 26 10 := vB Go.Proofs.Try.underlying26 (by kernel_rfl)
instance : Ag Go.Proofs.Try.prog 26 10 := ag26
theorem fJ : Fd Go.Proofs.Try.prog 26 0 0 1 false := yH Go.Proofs.Try.underlying26 (off := 0) (ft := 24) rfl Go.Proofs.Try.underlying24 (n := 1) (by kernel_rfl) rfl (by decide)
instance : Fd Go.Proofs.Try.prog 26 0 0 1 false := fJ
theorem fI : Fd Go.Proofs.Try.prog 26 1 1 1 false := yH Go.Proofs.Try.underlying26 (off := 1) (ft := 3) rfl Go.Proofs.Try.underlying3 (n := 1) (by kernel_rfl) rfl (by decide)
instance : Fd Go.Proofs.Try.prog 26 1 1 1 false := fI
theorem fH : Fd Go.Proofs.Try.prog 26 2 2 1 false := yH Go.Proofs.Try.underlying26 (off := 2) (ft := 24) rfl Go.Proofs.Try.underlying24 (n := 1) (by kernel_rfl) rfl (by decide)
instance : Fd Go.Proofs.Try.prog 26 2 2 1 false := fH
theorem fG : Fd Go.Proofs.Try.prog 26 3 3 1 false := yH Go.Proofs.Try.underlying26 (off := 3) (ft := 24) rfl Go.Proofs.Try.underlying24 (n := 1) (by kernel_rfl) rfl (by decide)
instance : Fd Go.Proofs.Try.prog 26 3 3 1 false := fG
theorem fF : Fd Go.Proofs.Try.prog 26 4 4 1 false := yH Go.Proofs.Try.underlying26 (off := 4) (ft := 24) rfl Go.Proofs.Try.underlying24 (n := 1) (by kernel_rfl) rfl (by decide)
instance : Fd Go.Proofs.Try.prog 26 4 4 1 false := fF
theorem fE : Fd Go.Proofs.Try.prog 26 5 5 1 false := yH Go.Proofs.Try.underlying26 (off := 5) (ft := 25) rfl Go.Proofs.Try.underlying25 (n := 1) (by kernel_rfl) rfl (by decide)
instance : Fd Go.Proofs.Try.prog 26 5 5 1 false := fE
theorem fD : Fd Go.Proofs.Try.prog 26 6 6 1 false := yH Go.Proofs.Try.underlying26 (off := 6) (ft := 3) rfl Go.Proofs.Try.underlying3 (n := 1) (by kernel_rfl) rfl (by decide)
instance : Fd Go.Proofs.Try.prog 26 6 6 1 false := fD
theorem fC : Fd Go.Proofs.Try.prog 26 7 7 1 false := yH Go.Proofs.Try.underlying26 (off := 7) (ft := 3) rfl Go.Proofs.Try.underlying3 (n := 1) (by kernel_rfl) rfl (by decide)
instance : Fd Go.Proofs.Try.prog 26 7 7 1 false := fC
theorem fB : Fd Go.Proofs.Try.prog 26 8 8 1 false := yH Go.Proofs.Try.underlying26 (off := 8) (ft := 3) rfl Go.Proofs.Try.underlying3 (n := 1) (by kernel_rfl) rfl (by decide)
instance : Fd Go.Proofs.Try.prog 26 8 8 1 false := fB
theorem fA : Fd Go.Proofs.Try.prog 26 9 9 1 false := yH Go.Proofs.Try.underlying26 (off := 9) (ft := 3) rfl Go.Proofs.Try.underlying3 (n := 1) (by kernel_rfl) rfl (by decide)
instance : Fd Go.Proofs.Try.prog 26 9 9 1 false := fA
theorem pl26 : Pl Go.Proofs.Try.prog 26 [(0, 1), (1, 1), (2, 1), (3, 1), (4, 1), (5, 1), (6, 1), (7, 1), (8, 1), (9, 1)] := w7 Go.Proofs.Try.underlying26 (by kernel_rfl)
instance : Pl Go.Proofs.Try.prog 26 [(0, 1), (1, 1), (2, 1), (3, 1), (4, 1), (5, 1), (6, 1), (7, 1), (8, 1), (9, 1)] := pl26
theorem ze26 : Ze Go.Proofs.Try.prog 26 [.slice none 0 0, .int .i64 (0), .slice none 0 0, .slice none 0 0, .slice none 0 0, .slice none 0 0, .int .i64 (0), .int .i64 (0), .int .i64 (0), .int .i64 (0)] := yr (z := .agg #[.slice none 0 0, .int .i64 (0), .slice none 0 0, .slice none 0 0, .slice none 0 0, .slice none 0 0, .int .i64 (0), .int .i64 (0), .int .i64 (0), .int .i64 (0)]) (by kernel_rfl) rfl
instance : Ze Go.Proofs.Try.prog 26 [.slice none 0 0, .int .i64 (0), .slice none 0 0, .slice none 0 0, .slice none 0 0, .slice none 0 0, .int .i64 (0), .int .i64 (0), .int .i64 (0), .int .i64 (0)] := ze26
theorem ag27 : Ag Go.Proofs.Try.prog 27 10 := vB Go.Proofs.Try.underlying27 (by kernel_rfl)
instance : Ag Go.Proofs.Try.prog 27 10 := ag27
theorem g9 : Fd Go.Proofs.Try.prog 27 0 0 1 false := yH Go.Proofs.Try.underlying27 (off := 0) (ft := 24) rfl Go.Proofs.Try.underlying24 (n := 1) (by kernel_rfl) rfl (by decide)
instance : Fd Go.Proofs.Try.prog 27 0 0 1 false := g9
theorem gz : Fd Go.Proofs.Try.prog 27 1 1 1 false := yH Go.Proofs.Try.underlying27 (off := 1) (ft := 3) rfl Go.Proofs.Try.underlying3 (n := 1) (by kernel_rfl) rfl (by decide)
instance : Fd Go.Proofs.Try.prog 27 1 1 1 false := gz
theorem gv : Fd Go.Proofs.Try.prog 27 2 2 1 false := yH Go.Proofs.Try.underlying27 (off := 2) (ft := 24) rfl Go.Proofs.Try.underlying24 (n := 1) (by kernel_rfl) rfl (by decide)
instance : Fd Go.Proofs.Try.prog 27 2 2 1 false := gv
theorem gu : Fd Go.Proofs.Try.prog 27 3 3 1 false := yH Go.Proofs.Try.underlying27 (off := 3) (ft := 24) rfl Go.Proofs.Try.underlying24 (n := 1) (by kernel_rfl) rfl (by decide)
instance : Fd Go.Proofs.Try.prog 27 3 3 1 false := gu
theorem gt : Fd Go.Proofs.Try.prog 27 4 4 1 false := yH Go.Proofs.Try.underlying27 (off := 4) (ft := 24) rfl Go.Proofs.Try.underlying24 (n := 1) (by kernel_rfl) rfl (by decide)
instance : Fd Go.Proofs.Try.prog 27 4 4 1 false := gt
theorem gr : Fd Go.Proofs.Try.prog 27 5 5 1 false := yH Go.Proofs.Try.underlying27 (off := 5) (ft := 25) rfl Go.Proofs.Try.underlying25 (n := 1) (by kernel_rfl) rfl (by decide)
instance : Fd Go.Proofs.Try.prog 27 5 5 1 false := gr
theorem gq : Fd Go.Proofs.Try.prog 27 6 6 1 false := yH Go.Proofs.Try.underlying27 (off := 6) (ft := 3) rfl Go.Proofs.Try.underlying3 (n := 1) (by kernel_rfl) rfl (by decide)
instance : Fd Go.Proofs.Try.prog 27 6 6 1 false := gq
theorem gp : Fd Go.Proofs.Try.prog 27 7 7 1 false := yH Go.Proofs.Try.underlying27 (off := 7) (ft := 3) rfl Go.Proofs.Try.underlying3 (n := 1) (by kernel_rfl) rfl (by decide)
instance : Fd Go.Proofs.Try.prog 27 7 7 1 false := gp
theorem go : Fd Go.Proofs.Try.prog 27 8 8 1 false := yH Go.Proofs.Try.underlying27 (off := 8) (ft := 3) rfl Go.Proofs.Try.underlying3 (n := 1) (by kernel_rfl) rfl (by decide)
instance : Fd Go.Proofs.Try.prog 27 8 8 1 false := go
theorem gn : Fd Go.Proofs.Try.prog 27 9 9 1 false := yH Go.Proofs.Try.underlying27 (off := 9) (ft := 3) rfl Go.Proofs.Try.underlying3 (n := 1) (by kernel_rfl) rfl (by decide)
instance : Fd Go.Proofs.Try.prog 27 9 9 1 false := gn
theorem pl27 : Pl Go.Proofs.Try.prog 27 [(0, 1), (1, 1), (2, 1), (3, 1), (4, 1), (5, 1), (6, 1), (7, 1), (8, 1), (9, 1)] := w7 Go.Proofs.Try.underlying27 (by kernel_rfl)
instance : Pl Go.Proofs.Try.prog 27 [(0, 1), (1, 1), (2, 1), (3, 1), (4, 1), (5, 1), (6, 1), (7, 1), (8, 1), (9, 1)] := pl27
theorem ze27 : Ze Go.Proofs.Try.prog 27 [.slice none 0 0, .int .i64 (0), .slice none 0 0, .slice none 0 0, .slice none 0 0, .slice none 0 0, .int .i64 (0), .int .i64 (0), .int .i64 (0), .int .i64 (0)] := yr (z := .agg #[.slice none 0 0, .int .i64 (0), .slice none 0 0, .slice none 0 0, .slice none 0 0, .slice none 0 0, .int .i64 (0), .int .i64 (0), .int .i64 (0), .int .i64 (0)]) (by kernel_rfl) rfl
instance : Ze Go.Proofs.Try.prog 27 [.slice none 0 0, .int .i64 (0), .slice none 0 0, .slice none 0 0, .slice none 0 0, .slice none 0 0, .int .i64 (0), .int .i64 (0), .int .i64 (0), .int .i64 (0)] := ze27
theorem sc36 : Sc Go.Proofs.Try.prog 36 := wS Go.Proofs.Try.underlying36 rfl (by kernel_rfl)
instance : Sc Go.Proofs.Try.prog 36 := sc36
theorem ze36 : Ze Go.Proofs.Try.prog 36 [.slice none 0 0] := yr (z := .slice none 0 0) (by kernel_rfl) rfl
instance : Ze Go.Proofs.Try.prog 36 [.slice none 0 0] := ze36
theorem sl36 : Sl Go.Proofs.Try.prog 36 3 1 8 := sr (z := .int .i64 (0)) Go.Proofs.Try.underlying36 (by kernel_rfl) rfl (by decide)
instance : Sl Go.Proofs.Try.prog 36 3 1 8 := sl36
theorem ag39 : Ag Go.Proofs.Try.prog 39 4 := vB Go.Proofs.Try.underlying39 (by kernel_rfl)
instance : Ag Go.Proofs.Try.prog 39 4 := ag39
theorem gm : Fd Go.Proofs.Try.prog 39 0 0 1 false := yH Go.Proofs.Try.underlying39 (off := 0) (ft := 24) rfl Go.Proofs.Try.underlying24 (n := 1) (by kernel_rfl) rfl (by decide)
instance : Fd Go.Proofs.Try.prog 39 0 0 1 false := gm
theorem gl : Fd Go.Proofs.Try.prog 39 1 1 1 false := yH Go.Proofs.Try.underlying39 (off := 1) (ft := 3) rfl Go.Proofs.Try.underlying3 (n := 1) (by kernel_rfl) rfl (by decide)
instance : Fd Go.Proofs.Try.prog 39 1 1 1 false := gl
theorem gk : Fd Go.Proofs.Try.prog 39 2 2 1 false := yH Go.Proofs.Try.underlying39 (off := 2) (ft := 3) rfl Go.Proofs.Try.underlying3 (n := 1) (by kernel_rfl) rfl (by decide)
instance : Fd Go.Proofs.Try.prog 39 2 2 1 false := gk
theorem gj : Fd Go.Proofs.Try.prog 39 3 3 1 false := yH Go.Proofs.Try.underlying39 (off := 3) (ft := 3) rfl Go.Proofs.Try.underlying3 (n := 1) (by kernel_rfl) rfl (by decide)
instance : Fd Go.Proofs.Try.prog 39 3 3 1 false := gj
theorem pl39 : Pl Go.Proofs.Try.prog 39 [(0, 1), (1, 1), (2, 1), (3, 1)] := w7 Go.Proofs.Try.underlying39 (by kernel_rfl)
instance : Pl Go.Proofs.Try.prog 39 [(0, 1), (1, 1), (2, 1), (3, 1)] := pl39
theorem ze39 : Ze Go.Proofs.Try.prog 39 [.slice none 0 0, .int .i64 (0), .int .i64 (0), .int .i64 (0)] := yr (z := .agg #[.slice none 0 0, .int .i64 (0), .int .i64 (0), .int .i64 (0)]) (by kernel_rfl) rfl
instance : Ze Go.Proofs.Try.prog 39 [.slice none 0 0, .int .i64 (0), .int .i64 (0), .int .i64 (0)] := ze39
theorem ag40 : Ag Go.Proofs.Try.prog 40 4 := vB Go.Proofs.Try.underlying40 (by kernel_rfl)
instance : Ag Go.Proofs.Try.prog 40 4 := ag40
theorem gi : Fd Go.Proofs.Try.prog 40 0 0 1 false := yH Go.Proofs.Try.underlying40 (off := 0) (ft := 24) rfl Go.Proofs.Try.underlying24 (n := 1) (by kernel_rfl) rfl (by decide)
instance : Fd Go.Proofs.Try.prog 40 0 0 1 false := gi
theorem gh : Fd Go.Proofs.Try.prog 40 1 1 1 false := yH Go.Proofs.Try.underlying40 (off := 1) (ft := 3) rfl Go.Proofs.Try.underlying3 (n := 1) (by kernel_rfl) rfl (by decide)
instance : Fd Go.Proofs.Try.prog 40 1 1 1 false := gh
theorem gg : Fd Go.Proofs.Try.prog 40 2 2 1 false := yH Go.Proofs.Try.underlying40 (off := 2) (ft := 3) rfl Go.Proofs.Try.underlying3 (n := 1) (by kernel_rfl) rfl (by decide)
instance : Fd Go.Proofs.Try.prog 40 2 2 1 false := gg
theorem gf : Fd Go.Proofs.Try.prog 40 3 3 1 false := yH Go.Proofs.Try.underlying40 (off := 3) (ft := 3) rfl Go.Proofs.Try.underlying3 (n := 1) (by kernel_rfl) rfl (by decide)
instance : Fd Go.Proofs.Try.prog 40 3 3 1 false := gf
theorem pl40 : Pl Go.Proofs.Try.prog 40 [(0, 1), (1, 1), (2, 1), (3, 1)] := w7 Go.Proofs.Try.underlying40 (by kernel_rfl)
instance : Pl Go.Proofs.Try.prog 40 [(0, 1), (1, 1), (2, 1), (3, 1)] := pl40
theorem ze40 : Ze Go.Proofs.Try.prog 40 [.slice none 0 0, .int .i64 (0), .int .i64 (0), .int .i64 (0)] := yr (z := .agg #[.slice none 0 0, .int .i64 (0), .int .i64 (0), .int .i64 (0)]) (by kernel_rfl) rfl
instance : Ze Go.Proofs.Try.prog 40 [.slice none 0 0, .int .i64 (0), .int .i64 (0), .int .i64 (0)] := ze40
theorem sc50 : Sc Go.Proofs.Try.prog 50 := wS Go.Proofs.Try.underlying50 rfl (by kernel_rfl)
instance : Sc Go.Proofs.Try.prog 50 := sc50
theorem ze50 : Ze Go.Proofs.Try.prog 50 [.slice none 0 0] := yr (z := .slice none 0 0) (by kernel_rfl) rfl
instance : Ze Go.Proofs.Try.prog 50 [.slice none 0 0] := ze50
theorem sl50 : Sl Go.Proofs.Try.prog 50 105 3 24 := sr (z := .agg #[.int .i64 (0), .int .i64 (0), .int .i64 (0)]) Go.Proofs.Try.underlying50 (by kernel_rfl) rfl (by decide)
instance : Sl Go.Proofs.Try.prog 50 105 3 24 := sl50
theorem sc51 : Sc Go.Proofs.Try.prog 51 := wS Go.Proofs.Try.underlying51 rfl (by kernel_rfl)
instance : Sc Go.Proofs.Try.prog 51 := sc51
theorem ze51 : Ze Go.Proofs.Try.prog 51 [.slice none 0 0] := yr (z := .slice none 0 0) (by kernel_rfl) rfl
instance : Ze Go.Proofs.Try.prog 51 [.slice none 0 0] := ze51
theorem sl51 : Sl Go.Proofs.Try.prog 51 119 1 24 := sr (z := .agg #[.slice none 0 0]) Go.Proofs.Try.underlying51 (by kernel_rfl) rfl (by decide)
instance : Sl Go.Proofs.Try.prog 51 119 1 24 := sl51
theorem ag52 : Ag Go.Proofs.Try.prog 52 10 := vB Go.Proofs.Try.underlying52 (by kernel_rfl)
instance : Ag Go.Proofs.Try.prog 52 10 := ag52
theorem ge : Fd Go.Proofs.Try.prog 52 0 0 1 false := yH Go.Proofs.Try.underlying52 (off := 0) (ft := 50) rfl Go.Proofs.Try.underlying50 (n := 1) (by kernel_rfl) rfl (by decide)
instance : Fd Go.Proofs.Try.prog 52 0 0 1 false := ge
theorem gd : Fd Go.Proofs.Try.prog 52 1 1 1 false := yH Go.Proofs.Try.underlying52 (off := 1) (ft := 3) rfl Go.Proofs.Try.underlying3 (n := 1) (by kernel_rfl) rfl (by decide)
instance : Fd Go.Proofs.Try.prog 52 1 1 1 false := gd
theorem gc : Fd Go.Proofs.Try.prog 52 2 2 1 false := yH Go.Proofs.Try.underlying52 (off := 2) (ft := 50) rfl Go.Proofs.Try.underlying50 (n := 1) (by kernel_rfl) rfl (by decide)
instance : Fd Go.Proofs.Try.prog 52 2 2 1 false := gc
theorem gb : Fd Go.Proofs.Try.prog 52 3 3 1 false := yH Go.Proofs.Try.underlying52 (off := 3) (ft := 50) rfl Go.Proofs.Try.underlying50 (n := 1) (by kernel_rfl) rfl (by decide)
instance : Fd Go.Proofs.Try.prog 52 3 3 1 false := gb
theorem ga : Fd Go.Proofs.Try.prog 52 4 4 1 false := yH Go.Proofs.Try.underlying52 (off := 4) (ft := 50) rfl Go.Proofs.Try.underlying50 (n := 1) (by kernel_rfl) rfl (by decide)
instance : Fd Go.Proofs.Try.prog 52 4 4 1 false := ga
theorem gZ : Fd Go.Proofs.Try.prog 52 5 5 1 false := yH Go.Proofs.Try.underlying52 (off := 5) (ft := 51) rfl Go.Proofs.Try.underlying51 (n := 1) (by kernel_rfl) rfl (by decide)
instance : Fd Go.Proofs.Try.prog 52 5 5 1 false := gZ
theorem gY : Fd Go.Proofs.Try.prog 52 6 6 1 false := yH Go.Proofs.Try.underlying52 (off := 6) (ft := 3) rfl Go.Proofs.Try.underlying3 (n := 1) (by kernel_rfl) rfl (by decide)
instance : Fd Go.Proofs.Try.prog 52 6 6 1 false := gY
theorem gX : Fd Go.Proofs.Try.prog 52 7 7 1 false := yH Go.Proofs.Try.underlying52 (off := 7) (ft := 3) rfl Go.Proofs.Try.underlying3 (n := 1) (by kernel_rfl) rfl (by decide)
instance : Fd Go.Proofs.Try.prog 52 7 7 1 false := gX
theorem gW : Fd Go.Proofs.Try.prog 52 8 8 1 false := yH Go.Proofs.Try.underlying52 (off := 8) (ft := 3) rfl Go.Proofs.Try.underlying3 (n := 1) (by kernel_rfl) rfl (by decide)
instance : Fd Go.Proofs.Try.prog 52 8 8 1 false := gW
theorem gV : Fd Go.Proofs.Try.prog 52 9 9 1 false := yH Go.Proofs.Try.underlying52 (off := 9) (ft := 3) rfl Go.Proofs.Try.underlying3 (n := 1) (by kernel_rfl) rfl (by decide)
instance : Fd Go.Proofs.Try.prog 52 9 9 1 false := gV
theorem pl52 : Pl Go.Proofs.Try.prog 52 [(0, 1), (1, 1), (2, 1), (3, 1), (4, 1), (5, 1), (6, 1), (7, 1), (8, 1), (9, 1)] := w7 Go.Proofs.Try.underlying52 (by kernel_rfl)
instance : Pl Go.Proofs.Try.prog 52 [(0, 1), (1, 1), (2, 1), (3, 1), (4, 1), (5, 1), (6, 1), (7, 1), (8, 1), (9, 1)] := pl52
theorem ze52 : Ze Go.Proofs.Try.prog 52 [.slice none 0 0, .int .i64 (0), .slice none 0 0, .slice none 0 0, .slice none 0 0, .slice none 0 0, .int .i64 (0), .int .i64 (0), .int .i64 (0), .int .i64 (0)] := yr (z := .agg #[.slice none 0 0, .int .i64 (0), .slice none 0 0, .slice none 0 0, .slice none 0 0, .slice none 0 0, .int .i64 (0), .int .i64 (0), .int .i64 (0), .int .i64 (0)]) (by kernel_rfl) rfl
instance : Ze Go.Proofs.Try.prog 52 [.slice none 0 0, .int .i64 (0), .slice none 0 0, .slice none 0 0, .slice none 0 0, .slice none 0 0, .int .i64 (0), .int .i64 (0), .int .i64 (0), .int .i64 (0)] := ze52
theorem ag53 : Ag Go.Proofs.Try.prog 53 10 := vB Go.Proofs.Try.underlying53 (by kernel_rfl)
instance : Ag Go.Proofs.Try.prog 53 10 := ag53
theorem gU : Fd Go.Proofs.Try.prog 53 0 0 1 false := yH Go.Proofs.Try.underlying53 (off := 0) (ft := 50) rfl Go.Proofs.Try.underlying50 (n := 1) (by kernel_rfl) rfl (by decide)
instance : Fd Go.Proofs.Try.prog 53 0 0 1 false := gU
theorem gT : Fd Go.Proofs.Try.prog 53 1 1 1 false := yH Go.Proofs.Try.underlying53 (off := 1) (ft := 3) rfl Go.Proofs.Try.underlying3 (n := 1) (by kernel_rfl) rfl (by decide)
instance : Fd Go.Proofs.Try.prog 53 1 1 1 false := gT
theorem gS : Fd Go.Proofs.Try.prog 53 2 2 1 false := yH Go.Proofs.Try.underlying53 (off := 2) (ft := 50) rfl Go.Proofs.Try.underlying50 (n := 1) (by kernel_rfl) rfl (by decide)
instance : Fd Go.Proofs.Try.prog 53 2 2 1 false := gS
theorem gR : Fd Go.Proofs.Try.prog 53 3 3 1 false := yH Go.Proofs.Try.underlying53 (off := 3) (ft := 50) rfl Go.Proofs.Try.underlying50 (n := 1) (by kernel_rfl) rfl (by decide)
instance : Fd Go.Proofs.Try.prog 53 3 3 1 false := gR
theorem gQ : Fd Go.Proofs.Try.prog 53 4 4 1 false := yH Go.Proofs.Try.underlying53 (off := 4) (ft := 50) rfl Go.Proofs.Try.underlying50 (n := 1) (by kernel_rfl) rfl (by decide)
instance : Fd Go.Proofs.Try.prog 53 4 4 1 false := gQ
theorem gP : Fd Go.Proofs.Try.prog 53 5 5 1 false := yH Go.Proofs.Try.underlying53 (off := 5) (ft := 51) rfl Go.Proofs.Try.underlying51 (n := 1) (by kernel_rfl) rfl (by decide)
instance : Fd Go.Proofs.Try.prog 53 5 5 1 false := gP
theorem gO : Fd Go.Proofs.Try.prog 53 6 6 1 false := yH Go.Proofs.Try.underlying53 (off := 6) (ft := 3) rfl Go.Proofs.Try.underlying3 (n := 1) (by kernel_rfl) rfl (by decide)
instance : Fd Go.Proofs.Try.prog 53 6 6 1 false := gO
theorem gN : Fd Go.Proofs.Try.prog 53 7 7 1 false := yH Go.Proofs.Try.underlying53 (off := 7) (ft := 3) rfl Go.Proofs.Try.underlying3 (n := 1) (by kernel_rfl) rfl (by decide)
instance : Fd Go.Proofs.Try.prog 53 7 7 1 false := gN
theorem gL : Fd Go.Proofs.Try.prog 53 8 8 1 false := yH Go.Proofs.Try.underlying53 (off := 8) (ft := 3) rfl Go.Proofs.Try.underlying3 (n := 1) (by kernel_rfl) rfl (by decide)
instance : Fd Go.Proofs.Try.prog 53 8 8 1 false := gL
theorem gK : Fd Go.Proofs.Try.prog 53 9 9 1 false := yH Go.Proofs.Try.underlying53 (off := 9) (ft := 3) rfl Go.Proofs.Try.underlying3 (n := 1) (by kernel_rfl) rfl (by decide)
instance : Fd Go.Proofs.Try.prog 53 9 9 1 false := gK
theorem pl53 : Pl Go.Proofs.Try.prog 53 [(0, 1), (1, 1), (2, 1), (3, 1), (4, 1), (5, 1), (6, 1), (7, 1), (8, 1), (9, 1)] := w7 Go.Proofs.Try.underlying53 (by kernel_rfl)
instance : Pl Go.Proofs.Try.prog 53 [(0, 1), (1, 1), (2, 1), (3, 1), (4, 1), (5, 1), (6, 1), (7, 1), (8, 1), (9, 1)] := pl53
theorem ze53 : Ze Go.Proofs.Try.prog 53 [.slice none 0 0, .int .i64 (0), .slice none 0 0, .slice none 0 0, .slice none 0 0, .slice none 0 0, .int .i64 (0), .int .i64 (0), .int .i64 (0), .int .i64 (0)] := yr (z := .agg #[.slice none 0 0, .int .i64 (0), .slice none 0 0, .slice none 0 0, .slice none 0 0, .slice none 0 0, .int .i64 (0), .int .i64 (0), .int .i64 (0), .int .i64 (0)]) (by kernel_rfl) rfl
instance : Ze Go.Proofs.Try.prog 53 [.slice none 0 0, .int .i64 (0), .slice none 0 0, .slice none 0 0, .slice none 0 0, .slice none 0 0, .int .i64 (0), .int .i64 (0), .int .i64 (0), .int .i64 (0)] := ze53
theorem sc70 : Sc Go.Proofs.Try.prog 70 := wS Go.Proofs.Try.underlying70 rfl (by kernel_rfl)
instance : Sc Go.Proofs.Try.prog 70 := sc70
theorem ze70 : Ze Go.Proofs.Try.prog 70 [.pointer none] := yr (z := .pointer none) (by kernel_rfl) rfl
instance : Ze Go.Proofs.Try.prog 70 [.pointer none] := ze70
theorem ag77 : Ag Go.Proofs.Try.prog 77 3 := vB Go.Proofs.Try.underlying77 (by kernel_rfl)
instance : Ag Go.Proofs.Try.prog 77 3 := ag77
theorem gJ : Fd Go.Proofs.Try.prog 77 0 0 1 false := yH Go.Proofs.Try.underlying77 (off := 0) (ft := 3) rfl Go.Proofs.Try.underlying3 (n := 1) (by kernel_rfl) rfl (by decide)
instance : Fd Go.Proofs.Try.prog 77 0 0 1 false := gJ
theorem gI : Fd Go.Proofs.Try.prog 77 1 1 1 false := yH Go.Proofs.Try.underlying77 (off := 1) (ft := 3) rfl Go.Proofs.Try.underlying3 (n := 1) (by kernel_rfl) rfl (by decide)
instance : Fd Go.Proofs.Try.prog 77 1 1 1 false := gI
theorem gH : Fd Go.Proofs.Try.prog 77 2 2 1 false := yH Go.Proofs.Try.underlying77 (off := 2) (ft := 3) rfl Go.Proofs.Try.underlying3 (n := 1) (by kernel_rfl) rfl (by decide)
instance : Fd Go.Proofs.Try.prog 77 2 2 1 false := gH
theorem pl77 : Pl Go.Proofs.Try.prog 77 [(0, 1), (1, 1), (2, 1)] := w7 Go.Proofs.Try.underlying77 (by kernel_rfl)
instance : Pl Go.Proofs.Try.prog 77 [(0, 1), (1, 1), (2, 1)] := pl77
theorem ze77 : Ze Go.Proofs.Try.prog 77 [.int .i64 (0), .int .i64 (0), .int .i64 (0)] := yr (z := .agg #[.int .i64 (0), .int .i64 (0), .int .i64 (0)]) (by kernel_rfl) rfl
instance : Ze Go.Proofs.Try.prog 77 [.int .i64 (0), .int .i64 (0), .int .i64 (0)] := ze77
theorem ag78 : Ag Go.Proofs.Try.prog 78 3 := vB Go.Proofs.Try.underlying78 (by kernel_rfl)
instance : Ag Go.Proofs.Try.prog 78 3 := ag78
theorem gG : Fd Go.Proofs.Try.prog 78 0 0 1 false := yH Go.Proofs.Try.underlying78 (off := 0) (ft := 3) rfl Go.Proofs.Try.underlying3 (n := 1) (by kernel_rfl) rfl (by decide)
instance : Fd Go.Proofs.Try.prog 78 0 0 1 false := gG
theorem gF : Fd Go.Proofs.Try.prog 78 1 1 1 false := yH Go.Proofs.Try.underlying78 (off := 1) (ft := 3) rfl Go.Proofs.Try.underlying3 (n := 1) (by kernel_rfl) rfl (by decide)
instance : Fd Go.Proofs.Try.prog 78 1 1 1 false := gF
theorem gE : Fd Go.Proofs.Try.prog 78 2 2 1 false := yH Go.Proofs.Try.underlying78 (off := 2) (ft := 3) rfl Go.Proofs.Try.underlying3 (n := 1) (by kernel_rfl) rfl (by decide)
instance : Fd Go.Proofs.Try.prog 78 2 2 1 false := gE
theorem pl78 : Pl Go.Proofs.Try.prog 78 [(0, 1), (1, 1), (2, 1)] := w7 Go.Proofs.Try.underlying78 (by kernel_rfl)
instance : Pl Go.Proofs.Try.prog 78 [(0, 1), (1, 1), (2, 1)] := pl78
theorem ze78 : Ze Go.Proofs.Try.prog 78 [.int .i64 (0), .int .i64 (0), .int .i64 (0)] := yr (z := .agg #[.int .i64 (0), .int .i64 (0), .int .i64 (0)]) (by kernel_rfl) rfl
instance : Ze Go.Proofs.Try.prog 78 [.int .i64 (0), .int .i64 (0), .int .i64 (0)] := ze78
theorem sc81 : Sc Go.Proofs.Try.prog 81 := wS Go.Proofs.Try.underlying81 rfl (by kernel_rfl)
instance : Sc Go.Proofs.Try.prog 81 := sc81
theorem ze81 : Ze Go.Proofs.Try.prog 81 [.pointer none] := yr (z := .pointer none) (by kernel_rfl) rfl
instance : Ze Go.Proofs.Try.prog 81 [.pointer none] := ze81
theorem ag83 : Ag Go.Proofs.Try.prog 83 1 := vB Go.Proofs.Try.underlying83 (by kernel_rfl)
instance : Ag Go.Proofs.Try.prog 83 1 := ag83
theorem gD : Fd Go.Proofs.Try.prog 83 0 0 1 false := yH Go.Proofs.Try.underlying83 (off := 0) (ft := 24) rfl Go.Proofs.Try.underlying24 (n := 1) (by kernel_rfl) rfl (by decide)
instance : Fd Go.Proofs.Try.prog 83 0 0 1 false := gD
theorem pl83 : Pl Go.Proofs.Try.prog 83 [(0, 1)] := w7 Go.Proofs.Try.underlying83 (by kernel_rfl)
instance : Pl Go.Proofs.Try.prog 83 [(0, 1)] := pl83
theorem ze83 : Ze Go.Proofs.Try.prog 83 [.slice none 0 0] := yr (z := .agg #[.slice none 0 0]) (by kernel_rfl) rfl
instance : Ze Go.Proofs.Try.prog 83 [.slice none 0 0] := ze83
theorem ag84 : Ag Go.Proofs.Try.prog 84 1 := vB Go.Proofs.Try.underlying84 (by kernel_rfl)
instance : Ag Go.Proofs.Try.prog 84 1 := ag84
theorem gC : Fd Go.Proofs.Try.prog 84 0 0 1 false := yH Go.Proofs.Try.underlying84 (off := 0) (ft := 24) rfl Go.Proofs.Try.underlying24 (n := 1) (by kernel_rfl) rfl (by decide)
instance : Fd Go.Proofs.Try.prog 84 0 0 1 false := gC
theorem pl84 : Pl Go.Proofs.Try.prog 84 [(0, 1)] := w7 Go.Proofs.Try.underlying84 (by kernel_rfl)
instance : Pl Go.Proofs.Try.prog 84 [(0, 1)] := pl84
theorem ze84 : Ze Go.Proofs.Try.prog 84 [.slice none 0 0] := yr (z := .agg #[.slice none 0 0]) (by kernel_rfl) rfl
instance : Ze Go.Proofs.Try.prog 84 [.slice none 0 0] := ze84
theorem cI : Ag Go.Proofs.Try.prog 105 3 := vB Go.Proofs.Try.underlying105 (by kernel_rfl)
instance : Ag Go.Proofs.Try.prog 105 3 := cI
theorem lY : Fd Go.Proofs.Try.prog 105 0 0 1 false := yH Go.Proofs.Try.underlying105 (off := 0) (ft := 3) rfl Go.Proofs.Try.underlying3 (n := 1) (by kernel_rfl) rfl (by decide)
instance : Fd Go.Proofs.Try.prog 105 0 0 1 false := lY
theorem lX : Fd Go.Proofs.Try.prog 105 1 1 1 false := yH Go.Proofs.Try.underlying105 (off := 1) (ft := 3) rfl Go.Proofs.Try.underlying3 (n := 1) (by kernel_rfl) rfl (by decide)
instance : Fd Go.Proofs.Try.prog 105 1 1 1 false := lX
theorem lW : Fd Go.Proofs.Try.prog 105 2 2 1 false := yH Go.Proofs.Try.underlying105 (off := 2) (ft := 3) rfl Go.Proofs.Try.underlying3 (n := 1) (by kernel_rfl) rfl (by decide)
instance : Fd Go.Proofs.Try.prog 105 2 2 1 false := lW
theorem dp : Pl Go.Proofs.Try.prog 105 [(0, 1), (1, 1), (2, 1)] := w7 Go.Proofs.Try.underlying105 (by kernel_rfl)
instance : Pl Go.Proofs.Try.prog 105 [(0, 1), (1, 1), (2, 1)] := dp
theorem dZ : Ze Go.Proofs.Try.prog 105 [.int .i64 (0), .int .i64 (0), .int .i64 (0)] := yr (z := .agg #[.int .i64 (0), .int .i64 (0), .int .i64 (0)]) (by kernel_rfl) rfl
instance : Ze Go.Proofs.Try.prog 105 [.int .i64 (0), .int .i64 (0), .int .i64 (0)] := dZ
theorem cH : Ag Go.Proofs.Try.prog 108 3 := vB Go.Proofs.Try.underlying108 (by kernel_rfl)
instance : Ag Go.Proofs.Try.prog 108 3 := cH
theorem lV : Fd Go.Proofs.Try.prog 108 0 0 1 false := yH Go.Proofs.Try.underlying108 (off := 0) (ft := 22) rfl Go.Proofs.Try.underlying22 (n := 1) (by kernel_rfl) rfl (by decide)
instance : Fd Go.Proofs.Try.prog 108 0 0 1 false := lV
theorem lU : Fd Go.Proofs.Try.prog 108 1 1 1 false := yH Go.Proofs.Try.underlying108 (off := 1) (ft := 3) rfl Go.Proofs.Try.underlying3 (n := 1) (by kernel_rfl) rfl (by decide)
instance : Fd Go.Proofs.Try.prog 108 1 1 1 false := lU
theorem lS : Fd Go.Proofs.Try.prog 108 2 2 1 false := yH Go.Proofs.Try.underlying108 (off := 2) (ft := 3) rfl Go.Proofs.Try.underlying3 (n := 1) (by kernel_rfl) rfl (by decide)
instance : Fd Go.Proofs.Try.prog 108 2 2 1 false := lS
theorem dn : Pl Go.Proofs.Try.prog 108 [(0, 1), (1, 1), (2, 1)] := w7 Go.Proofs.Try.underlying108 (by kernel_rfl)
instance : Pl Go.Proofs.Try.prog 108 [(0, 1), (1, 1), (2, 1)] := dn
theorem dY : Ze Go.Proofs.Try.prog 108 [.slice none 0 0, .int .i64 (0), .int .i64 (0)] := yr (z := .agg #[.slice none 0 0, .int .i64 (0), .int .i64 (0)]) (by kernel_rfl) rfl
instance : Ze Go.Proofs.Try.prog 108 [.slice none 0 0, .int .i64 (0), .int .i64 (0)] := dY
theorem cG : Ag Go.Proofs.Try.prog 109 3 := vB Go.Proofs.Try.underlying109 (by kernel_rfl)
instance : Ag Go.Proofs.Try.prog 109 3 := cG
theorem lR : Fd Go.Proofs.Try.prog 109 0 0 1 false := yH Go.Proofs.Try.underlying109 (off := 0) (ft := 22) rfl Go.Proofs.Try.underlying22 (n := 1) (by kernel_rfl) rfl (by decide)
instance : Fd Go.Proofs.Try.prog 109 0 0 1 false := lR
theorem lQ : Fd Go.Proofs.Try.prog 109 1 1 1 false := yH Go.Proofs.Try.underlying109 (off := 1) (ft := 3) rfl Go.Proofs.Try.underlying3 (n := 1) (by kernel_rfl) rfl (by decide)
instance : Fd Go.Proofs.Try.prog 109 1 1 1 false := lQ
theorem lP : Fd Go.Proofs.Try.prog 109 2 2 1 false := yH Go.Proofs.Try.underlying109 (off := 2) (ft := 3) rfl Go.Proofs.Try.underlying3 (n := 1) (by kernel_rfl) rfl (by decide)
instance : Fd Go.Proofs.Try.prog 109 2 2 1 false := lP
theorem dm : Pl Go.Proofs.Try.prog 109 [(0, 1), (1, 1), (2, 1)] := w7 Go.Proofs.Try.underlying109 (by kernel_rfl)
instance : Pl Go.Proofs.Try.prog 109 [(0, 1), (1, 1), (2, 1)] := dm
theorem dX : Ze Go.Proofs.Try.prog 109 [.slice none 0 0, .int .i64 (0), .int .i64 (0)] := yr (z := .agg #[.slice none 0 0, .int .i64 (0), .int .i64 (0)]) (by kernel_rfl) rfl
instance : Ze Go.Proofs.Try.prog 109 [.slice none 0 0, .int .i64 (0), .int .i64 (0)] := dX
theorem dh : Sc Go.Proofs.Try.prog 115 := wS Go.Proofs.Try.underlying115 rfl (by kernel_rfl)
instance : Sc Go.Proofs.Try.prog 115 := dh
theorem dW : Ze Go.Proofs.Try.prog 115 [.slice none 0 0] := yr (z := .slice none 0 0) (by kernel_rfl) rfl
instance : Ze Go.Proofs.Try.prog 115 [.slice none 0 0] := dW
theorem dd : Sl Go.Proofs.Try.prog 115 24 1 24 := sr (z := .slice none 0 0) Go.Proofs.Try.underlying115 (by kernel_rfl) rfl (by decide)
instance : Sl Go.Proofs.Try.prog 115 24 1 24 := dd
theorem cF : Ag Go.Proofs.Try.prog 118 1 := vB Go.Proofs.Try.underlying118 (by kernel_rfl)
instance : Ag Go.Proofs.Try.prog 118 1 := cF
theorem lO : Fd Go.Proofs.Try.prog 118 0 0 1 false := yH Go.Proofs.Try.underlying118 (off := 0) (ft := 50) rfl Go.Proofs.Try.underlying50 (n := 1) (by kernel_rfl) rfl (by decide)
instance : Fd Go.Proofs.Try.prog 118 0 0 1 false := lO
theorem dk : Pl Go.Proofs.Try.prog 118 [(0, 1)] := w7 Go.Proofs.Try.underlying118 (by kernel_rfl)
instance : Pl Go.Proofs.Try.prog 118 [(0, 1)] := dk
theorem dV : Ze Go.Proofs.Try.prog 118 [.slice none 0 0] := yr (z := .agg #[.slice none 0 0]) (by kernel_rfl) rfl
instance : Ze Go.Proofs.Try.prog 118 [.slice none 0 0] := dV
theorem cE : Ag Go.Proofs.Try.prog 119 1 := vB Go.Proofs.Try.underlying119 (by kernel_rfl)
instance : Ag Go.Proofs.Try.prog 119 1 := cE
theorem lN : Fd Go.Proofs.Try.prog 119 0 0 1 false := yH Go.Proofs.Try.underlying119 (off := 0) (ft := 50) rfl Go.Proofs.Try.underlying50 (n := 1) (by kernel_rfl) rfl (by decide)
instance : Fd Go.Proofs.Try.prog 119 0 0 1 false := lN
theorem dj : Pl Go.Proofs.Try.prog 119 [(0, 1)] := w7 Go.Proofs.Try.underlying119 (by kernel_rfl)
instance : Pl Go.Proofs.Try.prog 119 [(0, 1)] := dj
theorem dU : Ze Go.Proofs.Try.prog 119 [.slice none 0 0] := yr (z := .agg #[.slice none 0 0]) (by kernel_rfl) rfl
instance : Ze Go.Proofs.Try.prog 119 [.slice none 0 0] := dU
theorem dg : Sc Go.Proofs.Try.prog 123 := wS Go.Proofs.Try.underlying123 rfl (by kernel_rfl)
instance : Sc Go.Proofs.Try.prog 123 := dg
theorem dT : Ze Go.Proofs.Try.prog 123 [.int .u64 (0)] := yr (z := .int .u64 (0)) (by kernel_rfl) rfl
instance : Ze Go.Proofs.Try.prog 123 [.int .u64 (0)] := dT
theorem dy : Ik Go.Proofs.Try.prog 123 .u64 := ⟨Go.Proofs.Try.underlying123⟩
instance : Ik Go.Proofs.Try.prog 123 .u64 := dy
theorem df : Sc Go.Proofs.Try.prog 134 := wS Go.Proofs.Try.underlying134 rfl (by kernel_rfl)
instance : Sc Go.Proofs.Try.prog 134 := df
theorem dS : Ze Go.Proofs.Try.prog 134 [.int .u32 (0)] := yr (z := .int .u32 (0)) (by kernel_rfl) rfl
instance : Ze Go.Proofs.Try.prog 134 [.int .u32 (0)] := dS
theorem dx : Ik Go.Proofs.Try.prog 134 .u32 := ⟨Go.Proofs.Try.underlying134⟩
instance : Ik Go.Proofs.Try.prog 134 .u32 := dx
theorem de : Sc Go.Proofs.Try.prog 138 := wS Go.Proofs.Try.underlying138 rfl (by kernel_rfl)
instance : Sc Go.Proofs.Try.prog 138 := de
theorem dR : Ze Go.Proofs.Try.prog 138 [.pointer none] := yr (z := .pointer none) (by kernel_rfl) rfl
instance : Ze Go.Proofs.Try.prog 138 [.pointer none] := dR
def tab : Tab where
  ag := [(13, 2), (26, 10), (27, 10), (39, 4), (40, 4), (52, 10), (53, 10), (77, 3), (78, 3), (83, 1), (84, 1), (105, 3), (108, 3), (109, 3), (118, 1), (119, 1)]
  sc := [2, 3, 4, 5, 9, 12, 21, 22, 24, 25, 36, 50, 51, 70, 81, 115, 123, 134, 138]
  fd := [((13, 0), (0, 1, false)), ((13, 1), (1, 1, false)), ((26, 0), (0, 1, false)), ((26, 1), (1, 1, false)), ((26, 2), (2, 1, false)), ((26, 3), (3, 1, false)), ((26, 4), (4, 1, false)), ((26, 5), (5, 1, false)), ((26, 6), (6, 1, false)), ((26, 7), (7, 1, false)), ((26, 8), (8, 1, false)), ((26, 9), (9, 1, false)), ((27, 0), (0, 1, false)), ((27, 1), (1, 1, false)), ((27, 2), (2, 1, false)), ((27, 3), (3, 1, false)), ((27, 4), (4, 1, false)), ((27, 5), (5, 1, false)), ((27, 6), (6, 1, false)), ((27, 7), (7, 1, false)), ((27, 8), (8, 1, false)), ((27, 9), (9, 1, false)), ((39, 0), (0, 1, false)), ((39, 1), (1, 1, false)), ((39, 2), (2, 1, false)), ((39, 3), (3, 1, false)), ((40, 0), (0, 1, false)), ((40, 1), (1, 1, false)), ((40, 2), (2, 1, false)), ((40, 3), (3, 1, false)), ((52, 0), (0, 1, false)), ((52, 1), (1, 1, false)), ((52, 2), (2, 1, false)), ((52, 3), (3, 1, false)), ((52, 4), (4, 1, false)), ((52, 5), (5, 1, false)), ((52, 6), (6, 1, false)), ((52, 7), (7, 1, false)), ((52, 8), (8, 1, false)), ((52, 9), (9, 1, false)), ((53, 0), (0, 1, false)), ((53, 1), (1, 1, false)), ((53, 2), (2, 1, false)), ((53, 3), (3, 1, false)), ((53, 4), (4, 1, false)), ((53, 5), (5, 1, false)), ((53, 6), (6, 1, false)), ((53, 7), (7, 1, false)), ((53, 8), (8, 1, false)), ((53, 9), (9, 1, false)), ((77, 0), (0, 1, false)), ((77, 1), (1, 1, false)), ((77, 2), (2, 1, false)), ((78, 0), (0, 1, false)), ((78, 1), (1, 1, false)), ((78, 2), (2, 1, false)), ((83, 0), (0, 1, false)), ((84, 0), (0, 1, false)), ((105, 0), (0, 1, false)), ((105, 1), (1, 1, false)), ((105, 2), (2, 1, false)), ((108, 0), (0, 1, false)), ((108, 1), (1, 1, false)), ((108, 2), (2, 1, false)), ((109, 0), (0, 1, false)), ((109, 1), (1, 1, false)), ((109, 2), (2, 1, false)), ((118, 0), (0, 1, false)), ((119, 0), (0, 1, false))]
  ze := [(2, [.int .i64 (0)]), (3, [.int .i64 (0)]), (4, [.bool false]), (5, [.int .u8 (0)]), (9, [.string .empty]), (12, [.int .u64 (0)]), (13, [.string .empty, .int .u64 (0)]), (21, [.int .i32 (0)]), (22, [.slice none 0 0]), (24, [.slice none 0 0]), (25, [.slice none 0 0]), (26, [.slice none 0 0, .int .i64 (0), .slice none 0 0, .slice none 0 0, .slice none 0 0, .slice none 0 0, .int .i64 (0), .int .i64 (0), .int .i64 (0), .int .i64 (0)]), (27, [.slice none 0 0, .int .i64 (0), .slice none 0 0, .slice none 0 0, .slice none 0 0, .slice none 0 0, .int .i64 (0), .int .i64 (0), .int .i64 (0), .int .i64 (0)]), (36, [.slice none 0 0]), (39, [.slice none 0 0, .int .i64 (0), .int .i64 (0), .int .i64 (0)]), (40, [.slice none 0 0, .int .i64 (0), .int .i64 (0), .int .i64 (0)]), (50, [.slice none 0 0]), (51, [.slice none 0 0]), (52, [.slice none 0 0, .int .i64 (0), .slice none 0 0, .slice none 0 0, .slice none 0 0, .slice none 0 0, .int .i64 (0), .int .i64 (0), .int .i64 (0), .int .i64 (0)]), (53, [.slice none 0 0, .int .i64 (0), .slice none 0 0, .slice none 0 0, .slice none 0 0, .slice none 0 0, .int .i64 (0), .int .i64 (0), .int .i64 (0), .int .i64 (0)]), (70, [.pointer none]), (77, [.int .i64 (0), .int .i64 (0), .int .i64 (0)]), (78, [.int .i64 (0), .int .i64 (0), .int .i64 (0)]), (81, [.pointer none]), (83, [.slice none 0 0]), (84, [.slice none 0 0]), (105, [.int .i64 (0), .int .i64 (0), .int .i64 (0)]), (108, [.slice none 0 0, .int .i64 (0), .int .i64 (0)]), (109, [.slice none 0 0, .int .i64 (0), .int .i64 (0)]), (115, [.slice none 0 0]), (118, [.slice none 0 0]), (119, [.slice none 0 0]), (123, [.int .u64 (0)]), (134, [.int .u32 (0)]), (138, [.pointer none])]
  pl := [(13, [(0, 1), (1, 1)]), (26, [(0, 1), (1, 1), (2, 1), (3, 1), (4, 1), (5, 1), (6, 1), (7, 1), (8, 1), (9, 1)]), (27, [(0, 1), (1, 1), (2, 1), (3, 1), (4, 1), (5, 1), (6, 1), (7, 1), (8, 1), (9, 1)]), (39, [(0, 1), (1, 1), (2, 1), (3, 1)]), (40, [(0, 1), (1, 1), (2, 1), (3, 1)]), (52, [(0, 1), (1, 1), (2, 1), (3, 1), (4, 1), (5, 1), (6, 1), (7, 1), (8, 1), (9, 1)]), (53, [(0, 1), (1, 1), (2, 1), (3, 1), (4, 1), (5, 1), (6, 1), (7, 1), (8, 1), (9, 1)]), (77, [(0, 1), (1, 1), (2, 1)]), (78, [(0, 1), (1, 1), (2, 1)]), (83, [(0, 1)]), (84, [(0, 1)]), (105, [(0, 1), (1, 1), (2, 1)]), (108, [(0, 1), (1, 1), (2, 1)]), (109, [(0, 1), (1, 1), (2, 1)]), (118, [(0, 1)]), (119, [(0, 1)])]
  sl := [(22, (5, 1, 1)), (24, (78, 3, 24)), (25, (84, 1, 24)), (36, (3, 1, 8)), (50, (105, 3, 24)), (51, (119, 1, 24)), (115, (24, 1, 24))]
  ik := [(2, .i64), (3, .i64), (5, .u8), (12, .u64), (21, .i32), (123, .u64), (134, .u32)]
  str := [9]
  bl := [4]
instance : TabC Go.Proofs.Try.prog tab := ⟨{ ag := zf ag13 (zf ag26 (zf ag27 (zf ag39 (zf ag40 (zf ag52 (zf ag53 (zf ag77 (zf ag78 (zf ag83 (zf ag84 (zf cI (zf cH (zf cG (zf cF (zf cE (vE)))))))))))))))), sc := zf sc2 (zf sc3 (zf sc4 (zf sc5 (zf sc9 (zf sc12 (zf sc21 (zf sc22 (zf sc24 (zf sc25 (zf sc36 (zf sc50 (zf sc51 (zf sc70 (zf sc81 (zf dh (zf dg (zf df (zf de (vE))))))))))))))))))), fd := zf fL (zf fK (zf fJ (zf fI (zf fH (zf fG (zf fF (zf fE (zf fD (zf fC (zf fB (zf fA (zf g9 (zf gz (zf gv (zf gu (zf gt (zf gr (zf gq (zf gp (zf go (zf gn (zf gm (zf gl (zf gk (zf gj (zf gi (zf gh (zf gg (zf gf (zf ge (zf gd (zf gc (zf gb (zf ga (zf gZ (zf gY (zf gX (zf gW (zf gV (zf gU (zf gT (zf gS (zf gR (zf gQ (zf gP (zf gO (zf gN (zf gL (zf gK (zf gJ (zf gI (zf gH (zf gG (zf gF (zf gE (zf gD (zf gC (zf lY (zf lX (zf lW (zf lV (zf lU (zf lS (zf lR (zf lQ (zf lP (zf lO (zf lN (vE))))))))))))))))))))))))))))))))))))))))))))))))))))))))))))))))))))), ze := zf ze2 (zf ze3 (zf ze4 (zf ze5 (zf ze9 (zf ze12 (zf ze13 (zf ze21 (zf ze22 (zf ze24 (zf ze25 (zf ze26 (zf ze27 (zf ze36 (zf ze39 (zf ze40 (zf ze50 (zf ze51 (zf ze52 (zf ze53 (zf ze70 (zf ze77 (zf ze78 (zf ze81 (zf ze83 (zf ze84 (zf dZ (zf dY (zf dX (zf dW (zf dV (zf dU (zf dT (zf dS (zf dR (vE))))))))))))))))))))))))))))))))))), pl := zf pl13 (zf pl26 (zf pl27 (zf pl39 (zf pl40 (zf pl52 (zf pl53 (zf pl77 (zf pl78 (zf pl83 (zf pl84 (zf dp (zf dn (zf dm (zf dk (zf dj (vE)))))))))))))))), sl := zf sl22 (zf sl24 (zf sl25 (zf sl36 (zf sl50 (zf sl51 (zf dd (vE))))))), ik := zf ik2 (zf ik3 (zf ik5 (zf ik12 (zf ik21 (zf dy (zf dx (vE))))))), str := zf str9 (vE), bl := zf bl4 (vE) }, by kernel_rfl⟩
instance : Ent Go.Proofs.Try.prog 3 := zt Go.Proofs.Try.func3 rfl (by decide)
instance : Ent Go.Proofs.Try.prog 4 := zt Go.Proofs.Try.func4 rfl (by decide)
instance : Ent Go.Proofs.Try.prog 5 := zt Go.Proofs.Try.func5 rfl (by decide)
instance : Ent Go.Proofs.Try.prog 6 := zt Go.Proofs.Try.func6 rfl (by decide)
instance : Ent Go.Proofs.Try.prog 7 := zt Go.Proofs.Try.func7 rfl (by decide)
instance : Ent Go.Proofs.Try.prog 8 := zt Go.Proofs.Try.func8 rfl (by decide)
instance : Ent Go.Proofs.Try.prog 9 := zt Go.Proofs.Try.func9 rfl (by decide)
instance : Ent Go.Proofs.Try.prog 10 := zt Go.Proofs.Try.func10 rfl (by decide)
instance : Ent Go.Proofs.Try.prog 11 := zt Go.Proofs.Try.func11 rfl (by decide)
instance : Ent Go.Proofs.Try.prog 12 := zt Go.Proofs.Try.func12 rfl (by decide)
instance : Ent Go.Proofs.Try.prog 13 := zt Go.Proofs.Try.func13 rfl (by decide)
instance : Ent Go.Proofs.Try.prog 14 := zt Go.Proofs.Try.func14 rfl (by decide)
instance : Ent Go.Proofs.Try.prog 15 := zt Go.Proofs.Try.func15 rfl (by decide)
instance : Ent Go.Proofs.Try.prog 16 := zt Go.Proofs.Try.func16 rfl (by decide)
instance : Ent Go.Proofs.Try.prog 17 := zt Go.Proofs.Try.func17 rfl (by decide)
instance : Ent Go.Proofs.Try.prog 18 := zt Go.Proofs.Try.func18 rfl (by decide)
instance : Ent Go.Proofs.Try.prog 19 := zt Go.Proofs.Try.func19 rfl (by decide)
instance : Ent Go.Proofs.Try.prog 20 := zt Go.Proofs.Try.func20 rfl (by decide)
instance : Ent Go.Proofs.Try.prog 21 := zt Go.Proofs.Try.func21 rfl (by decide)
instance : Ent Go.Proofs.Try.prog 22 := zt Go.Proofs.Try.func22 rfl (by decide)
instance : Ent Go.Proofs.Try.prog 23 := zt Go.Proofs.Try.func23 rfl (by decide)
instance : Ent Go.Proofs.Try.prog 24 := zt Go.Proofs.Try.func24 rfl (by decide)
instance : Ent Go.Proofs.Try.prog 25 := zt Go.Proofs.Try.func25 rfl (by decide)
instance : Ent Go.Proofs.Try.prog 26 := zt Go.Proofs.Try.func26 rfl (by decide)
instance : Ent Go.Proofs.Try.prog 27 := zt Go.Proofs.Try.func27 rfl (by decide)
instance : Ent Go.Proofs.Try.prog 28 := zt Go.Proofs.Try.func28 rfl (by decide)
instance : Ent Go.Proofs.Try.prog 29 := zt Go.Proofs.Try.func29 rfl (by decide)
instance : Ent Go.Proofs.Try.prog 30 := zt Go.Proofs.Try.func30 rfl (by decide)
instance : Ent Go.Proofs.Try.prog 31 := zt Go.Proofs.Try.func31 rfl (by decide)
instance : Ent Go.Proofs.Try.prog 32 := zt Go.Proofs.Try.func32 rfl (by decide)
instance : Ent Go.Proofs.Try.prog 33 := zt Go.Proofs.Try.func33 rfl (by decide)
instance : Ent Go.Proofs.Try.prog 34 := zt Go.Proofs.Try.func34 rfl (by decide)
instance : Ent Go.Proofs.Try.prog 35 := zt Go.Proofs.Try.func35 rfl (by decide)
instance : Ent Go.Proofs.Try.prog 36 := zt Go.Proofs.Try.func36 rfl (by decide)
instance : Ent Go.Proofs.Try.prog 37 := zt Go.Proofs.Try.func37 rfl (by decide)
instance : Ent Go.Proofs.Try.prog 38 := zt Go.Proofs.Try.func38 rfl (by decide)
instance : Ent Go.Proofs.Try.prog 39 := zt Go.Proofs.Try.func39 rfl (by decide)
instance : Ent Go.Proofs.Try.prog 40 := zt Go.Proofs.Try.func40 rfl (by decide)
instance : Ent Go.Proofs.Try.prog 41 := zt Go.Proofs.Try.func41 rfl (by decide)
instance : Ent Go.Proofs.Try.prog 42 := zt Go.Proofs.Try.func42 rfl (by decide)
instance : Ent Go.Proofs.Try.prog 43 := zt Go.Proofs.Try.func43 rfl (by decide)
instance : Ent Go.Proofs.Try.prog 44 := zt Go.Proofs.Try.func44 rfl (by decide)
instance : Ent Go.Proofs.Try.prog 45 := zt Go.Proofs.Try.func45 rfl (by decide)
instance : Ent Go.Proofs.Try.prog 46 := zt Go.Proofs.Try.func46 rfl (by decide)
instance : Ent Go.Proofs.Try.prog 47 := zt Go.Proofs.Try.func47 rfl (by decide)
instance : Ent Go.Proofs.Try.prog 48 := zt Go.Proofs.Try.func48 rfl (by decide)
instance : Ent Go.Proofs.Try.prog 49 := zt Go.Proofs.Try.func49 rfl (by decide)
instance : Ent Go.Proofs.Try.prog 50 := zt Go.Proofs.Try.func50 rfl (by decide)
instance : Ent Go.Proofs.Try.prog 51 := zt Go.Proofs.Try.func51 rfl (by decide)
instance : Ent Go.Proofs.Try.prog 52 := zt Go.Proofs.Try.func52 rfl (by decide)
instance : Ent Go.Proofs.Try.prog 53 := zt Go.Proofs.Try.func53 rfl (by decide)
instance : Ent Go.Proofs.Try.prog 54 := zt Go.Proofs.Try.func54 rfl (by decide)
instance : Ent Go.Proofs.Try.prog 55 := zt Go.Proofs.Try.func55 rfl (by decide)
instance : Ent Go.Proofs.Try.prog 56 := zt Go.Proofs.Try.func56 rfl (by decide)
instance : Ent Go.Proofs.Try.prog 57 := zt Go.Proofs.Try.func57 rfl (by decide)
instance : Ent Go.Proofs.Try.prog 58 := zt Go.Proofs.Try.func58 rfl (by decide)
instance : Ent Go.Proofs.Try.prog 59 := zt Go.Proofs.Try.func59 rfl (by decide)
instance : Ent Go.Proofs.Try.prog 60 := zt Go.Proofs.Try.func60 rfl (by decide)
instance : Ent Go.Proofs.Try.prog 61 := zt Go.Proofs.Try.func61 rfl (by decide)
instance : Ent Go.Proofs.Try.prog 62 := zt Go.Proofs.Try.func62 rfl (by decide)
instance : Ent Go.Proofs.Try.prog 63 := zt Go.Proofs.Try.func63 rfl (by decide)
instance : Ent Go.Proofs.Try.prog 64 := zt Go.Proofs.Try.func64 rfl (by decide)
instance : Ent Go.Proofs.Try.prog 65 := zt Go.Proofs.Try.func65 rfl (by decide)
instance : Ent Go.Proofs.Try.prog 66 := zt Go.Proofs.Try.func66 rfl (by decide)
instance : Ent Go.Proofs.Try.prog 67 := zt Go.Proofs.Try.func67 rfl (by decide)
instance : Ent Go.Proofs.Try.prog 68 := zt Go.Proofs.Try.func68 rfl (by decide)
instance : Ent Go.Proofs.Try.prog 69 := zt Go.Proofs.Try.func69 rfl (by decide)
instance : Ent Go.Proofs.Try.prog 70 := zt Go.Proofs.Try.func70 rfl (by decide)
instance : Ent Go.Proofs.Try.prog 71 := zt Go.Proofs.Try.func71 rfl (by decide)
instance : Ent Go.Proofs.Try.prog 72 := zt Go.Proofs.Try.func72 rfl (by decide)
instance : Ent Go.Proofs.Try.prog 73 := zt Go.Proofs.Try.func73 rfl (by decide)
instance : Ent Go.Proofs.Try.prog 74 := zt Go.Proofs.Try.func74 rfl (by decide)
instance : Ent Go.Proofs.Try.prog 75 := zt Go.Proofs.Try.func75 rfl (by decide)
instance : Ent Go.Proofs.Try.prog 76 := zt Go.Proofs.Try.func76 rfl (by decide)
instance : Ent Go.Proofs.Try.prog 77 := zt Go.Proofs.Try.func77 rfl (by decide)
instance : Ent Go.Proofs.Try.prog 78 := zt Go.Proofs.Try.func78 rfl (by decide)
instance : Ent Go.Proofs.Try.prog 79 := zt Go.Proofs.Try.func79 rfl (by decide)
instance : Ent Go.Proofs.Try.prog 80 := zt Go.Proofs.Try.func80 rfl (by decide)
instance : Ent Go.Proofs.Try.prog 81 := zt Go.Proofs.Try.func81 rfl (by decide)
instance : Ent Go.Proofs.Try.prog 82 := zt Go.Proofs.Try.func82 rfl (by decide)
instance : Ent Go.Proofs.Try.prog 83 := zt Go.Proofs.Try.func83 rfl (by decide)
instance : Ent Go.Proofs.Try.prog 84 := zt Go.Proofs.Try.func84 rfl (by decide)
instance : Ent Go.Proofs.Try.prog 85 := zt Go.Proofs.Try.func85 rfl (by decide)
instance : Ent Go.Proofs.Try.prog 86 := zt Go.Proofs.Try.func86 rfl (by decide)
instance : Ent Go.Proofs.Try.prog 87 := zt Go.Proofs.Try.func87 rfl (by decide)
instance : Ent Go.Proofs.Try.prog 88 := zt Go.Proofs.Try.func88 rfl (by decide)
instance : Ent Go.Proofs.Try.prog 89 := zt Go.Proofs.Try.func89 rfl (by decide)
instance : Ent Go.Proofs.Try.prog 90 := zt Go.Proofs.Try.func90 rfl (by decide)
instance : Ent Go.Proofs.Try.prog 91 := zt Go.Proofs.Try.func91 rfl (by decide)
instance : Ent Go.Proofs.Try.prog 92 := zt Go.Proofs.Try.func92 rfl (by decide)
instance : Ent Go.Proofs.Try.prog 93 := zt Go.Proofs.Try.func93 rfl (by decide)
instance : Ent Go.Proofs.Try.prog 94 := zt Go.Proofs.Try.func94 rfl (by decide)
instance : Ent Go.Proofs.Try.prog 95 := zt Go.Proofs.Try.func95 rfl (by decide)
instance : Ent Go.Proofs.Try.prog 96 := zt Go.Proofs.Try.func96 rfl (by decide)
instance : Ent Go.Proofs.Try.prog 97 := zt Go.Proofs.Try.func97 rfl (by decide)
instance : Ent Go.Proofs.Try.prog 98 := zt Go.Proofs.Try.func98 rfl (by decide)
instance : Ent Go.Proofs.Try.prog 99 := zt Go.Proofs.Try.func99 rfl (by decide)
instance : Ent Go.Proofs.Try.prog 100 := zt Go.Proofs.Try.func100 rfl (by decide)
instance : Ent Go.Proofs.Try.prog 101 := zt Go.Proofs.Try.func101 rfl (by decide)
instance : Ent Go.Proofs.Try.prog 102 := zt Go.Proofs.Try.func102 rfl (by decide)
instance : Ent Go.Proofs.Try.prog 103 := zt Go.Proofs.Try.func103 rfl (by decide)
instance : Ent Go.Proofs.Try.prog 104 := zt Go.Proofs.Try.func104 rfl (by decide)
instance : Ent Go.Proofs.Try.prog 105 := zt Go.Proofs.Try.func105 rfl (by decide)
instance : Ent Go.Proofs.Try.prog 106 := zt Go.Proofs.Try.func106 rfl (by decide)
instance : Ent Go.Proofs.Try.prog 107 := zt Go.Proofs.Try.func107 rfl (by decide)
instance : Ent Go.Proofs.Try.prog 108 := zt Go.Proofs.Try.func108 rfl (by decide)
instance : Ent Go.Proofs.Try.prog 109 := zt Go.Proofs.Try.func109 rfl (by decide)
instance : Ent Go.Proofs.Try.prog 110 := zt Go.Proofs.Try.func110 rfl (by decide)
instance : Ent Go.Proofs.Try.prog 111 := zt Go.Proofs.Try.func111 rfl (by decide)
instance : Ent Go.Proofs.Try.prog 112 := zt Go.Proofs.Try.func112 rfl (by decide)
instance : Ent Go.Proofs.Try.prog 113 := zt Go.Proofs.Try.func113 rfl (by decide)
instance : Ent Go.Proofs.Try.prog 114 := zt Go.Proofs.Try.func114 rfl (by decide)
instance : Ent Go.Proofs.Try.prog 115 := zt Go.Proofs.Try.func115 rfl (by decide)
instance : Ent Go.Proofs.Try.prog 116 := zt Go.Proofs.Try.func116 rfl (by decide)
instance : Ent Go.Proofs.Try.prog 117 := zt Go.Proofs.Try.func117 rfl (by decide)
instance : Ent Go.Proofs.Try.prog 118 := zt Go.Proofs.Try.func118 rfl (by decide)
instance : Ent Go.Proofs.Try.prog 119 := zt Go.Proofs.Try.func119 rfl (by decide)
instance : Ent Go.Proofs.Try.prog 120 := zt Go.Proofs.Try.func120 rfl (by decide)
instance : Ent Go.Proofs.Try.prog 121 := zt Go.Proofs.Try.func121 rfl (by decide)
instance : Ent Go.Proofs.Try.prog 122 := zt Go.Proofs.Try.func122 rfl (by decide)
instance : Ent Go.Proofs.Try.prog 123 := zt Go.Proofs.Try.func123 rfl (by decide)
instance : Ent Go.Proofs.Try.prog 124 := zt Go.Proofs.Try.func124 rfl (by decide)
instance : Ent Go.Proofs.Try.prog 125 := zt Go.Proofs.Try.func125 rfl (by decide)
instance : Ent Go.Proofs.Try.prog 126 := zt Go.Proofs.Try.func126 rfl (by decide)
instance : Ent Go.Proofs.Try.prog 127 := zt Go.Proofs.Try.func127 rfl (by decide)
instance : Ent Go.Proofs.Try.prog 128 := zt Go.Proofs.Try.func128 rfl (by decide)
instance : Ent Go.Proofs.Try.prog 129 := zt Go.Proofs.Try.func129 rfl (by decide)
instance : Ent Go.Proofs.Try.prog 130 := zt Go.Proofs.Try.func130 rfl (by decide)
instance : Ent Go.Proofs.Try.prog 131 := zt Go.Proofs.Try.func131 rfl (by decide)
instance : Ent Go.Proofs.Try.prog 132 := zt Go.Proofs.Try.func132 rfl (by decide)
instance : Ent Go.Proofs.Try.prog 133 := zt Go.Proofs.Try.func133 rfl (by decide)
end Go.Proofs.Ytojcojanokhnaaa.Ab
namespace Go.Proofs.Ytojcojanokhnaaa.Ab
open Go.RowKit
structure Rw where
  a : Int
  b : Int
  c : Int
def rwE (r : Rw) : List V := [I r.a, I r.b, I r.c]
def rwT : Ty Rw := ⟨3, rwE, fun _ => rfl, by decide, fun r c hc => by
  simp only [rwE, List.mem_cons, List.not_mem_nil, or_false] at hc
  rcases hc with rfl | rfl | rfl <;> exact ⟨rfl, rfl⟩⟩
abbrev rwL (xs : List Rw) : V := xv rwT xs
abbrev rwR (xs : List Rw) : Reg := xL rwT 78 xs
def szL (n : Nat) (left : Int) : Int := cond (decide (IntKind.i64.wrap (left - n) < 0)) (-1) (IntKind.i64.wrap (left - n))
def z3 : Rw := ⟨0, 0, 0⟩
def eqC (x y : Rw) : Bool := bif !(decide (x.a = y.a)) then false else bif !(decide (x.b = y.b)) then false else bif !(decide (x.c = y.c)) then false else true
def eqL : List Rw → List Rw → Bool
  | [], [] => true
  | x :: xs, y :: ys => eqC x y && eqL xs ys
  | _, _ => false
theorem xt (xs : List Rw) : qP (rwT.flat xs) := fun c hc => by
  simp only [Ty.flat, List.mem_flatMap] at hc
  obtain ⟨x, _, hx⟩ := hc
  simp only [rwT, rwE, List.mem_cons, List.not_mem_nil, or_false] at hx
  rcases hx with rfl | rfl | rfl <;> exact ⟨_, rfl⟩
def kk (k : Int) : Nat → Int
  | 0 => k
  | n + 1 => IntKind.i64.wrap (kk k n + 1)
def mkRw (k : Int) (j : Nat) : Rw := ⟨kk k (3 * j), kk k (3 * j + 1), kk k (3 * j + 2)⟩
def mkC (k : Int) (xs : List Rw) (i : Nat) : List Rw := (List.range i).map (mkRw k) ++ xs.drop i
end Go.Proofs.Ytojcojanokhnaaa.Ab
namespace Go.Proofs.Ytojcojanokhnaaa.Ab
open Go.RowKit
abbrev Rn := List Rw
abbrev rnT : Ty Rn := lsT rwT
abbrev rnL (rs : List Rn) : V := xv rnT rs
abbrev rnN (rs : List Rn) : List Reg := ⟨84, 1, nC 1 rs, 0⟩ :: nR rwT 78 rs
def sK (rs : List Rn) : Prop := rs.length ≤ 1000000000 ∧ ∀ x ∈ rs, x.length ≤ 1000000000
theorem sK.at {rs : List Rn} (h : sK rs) {i : Nat} {x : Rn} (hx : rs[i]? = some x) : x.length ≤ 1000000000 := h.2 x (List.mem_of_getElem? hx)
def szG : List Rn → Int → Int
  | [], l => l
  | x :: xs, l => cond (decide (szL x.length l < 0)) (-1) (szG xs (szL x.length l))
def szR (rs : List Rn) (l : Int) : Int := cond (decide (IntKind.i64.wrap (l - rs.length) < 0)) (-1) (szG rs (IntKind.i64.wrap (l - rs.length)))
theorem lF : ∀ {l : List Nat} {x : Nat}, x ∈ l → x ≤ l.sum
  | a :: l, x, h => by
    rw [List.sum_cons]
    rcases List.mem_cons.1 h with rfl | h
    · omega
    · have := lF h; omega
def tot (rs : List Rn) : Nat := (rs.map List.length).sum
abbrev vN : V := .k (.slice none 0 0)
theorem yw {α : Type} {rs : List α} {i : Nat} {z : α} (hz : rs[i]? = some z) : rs.take (i + 1) = rs.take i ++ [z] := by
  rw [List.take_add_one, hz]; rfl
end Go.Proofs.Ytojcojanokhnaaa.Ab
namespace Go.Proofs.Ytojcojanokhnaaa.Ab
open Go.RowKit
theorem yI {α : Type} {rs : List α} {i : Nat} {z : α} (hz : rs[i]? = some z) : rs.drop i = z :: rs.drop (i + 1) := by
  obtain ⟨h, e⟩ := List.getElem?_eq_some_iff.1 hz
  rw [List.drop_eq_getElem_cons h, e]
theorem ef (rs : List Rn) : HLe ([0] ++ List.range' 1 rs.length) (rnN rs) (rnN rs) :=
  qD (K1 := [⟨84, 1, nC 1 rs, 0⟩]) (xK (by simp) (by simp)) (.cons rfl rfl rfl rfl (wH fun j hj => wV [0] 1 rs.length j hj) .nil) (fun j x hx => by rw [Nat.add_comm]; exact xT hx)
theorem kG (rs : List Rn) : ∀ q ∈ rnN rs, q.mode ≠ 1 ∧ (q.mode = 0 → v3 q.cells) := fun q hq => by
  rcases List.mem_cons.1 hq with rfl | hq
  · exact ⟨Nat.zero_ne_one, fun _ => tN 1 rs⟩
  · obtain ⟨x, _, rfl⟩ := List.mem_map.1 hq
    exact ⟨Nat.zero_ne_one, fun _ => (xt x).flatS⟩
theorem sf {rs : List Rn} {i : Nat} {z : Rn} (hz : rs[i]? = some z) : tot (rs.take (i + 1)) = tot (rs.take i) + z.length := by
  rw [yw hz]
  simp [tot]
theorem n9 (rs : List Rn) (i : Nat) : tot (rs.take i) ≤ tot rs := by
  have : tot rs = tot (rs.take i ++ rs.drop i) := by rw [List.take_append_drop]
  rw [this]
  simp only [tot, List.map_append, List.sum_append]
  omega
def cY : Int → List Rn → List Rn
  | _, [] => []
  | k, x :: xs => mkC k x x.length :: cY (kk k (3 * x.length)) xs
def mid (k : Int) (rs : List Rn) (i : Nat) : List Rn := cY k (rs.take i) ++ rs.drop i
end Go.Proofs.Ytojcojanokhnaaa.Ab
namespace Go.Proofs.Ytojcojanokhnaaa.Ab
open Go.RowKit
def inV (x lo hi : Int) : Bool := decide (lo ≤ x) && decide (x ≤ hi)
theorem uR (x lo hi : Int) : zz Go.Proofs.Try.prog 66 [I x, I lo, I hi] [] (B (inV x lo hi)) [] false := by
  refine zw [6] Go.Proofs.Try.func66 rfl rfl ?_
  simp only [Go.Proofs.Try.ntmps66, List.length_cons, List.length_nil, Nat.reduceAdd, Nat.reduceSub, List.replicate_succ, List.replicate_zero, List.cons_append, List.nil_append]
  repeat' first | refine zK ?_ | refine zA ?_ | refine zP [] ?_ | (refine isA ?_; refine zd rfl ?_) | (refine isL ?_; refine zU rfl (by kernel_rfl) rfl rfl ?_) | (refine zb rfl ?_; refine zT rfl (by kernel_rfl) rfl rfl ?_) | exact yG rfl rfl (by first | ((try simp only [Bool.not_eq_true', Bool.not_eq_false'] at *); simp only [inV, *, Bool.true_and, Bool.false_and, Bool.and_true, Bool.and_false, Bool.true_or, Bool.false_or, Bool.or_true, Bool.or_false, Bool.not_true, Bool.not_false, cond_true, cond_false]; done) | (simp_all [inV]; done) | (simp_all [inV]; intros; omega)) | refine zD ?_ | refine zB _ rfl (by kernel_rfl) ?_ | refine zV rfl ?_ | refine zW rfl ?_ | refine zC ?_ | with_reducible refine zN ?_ | refine zH ?_ | refine zI ?_ | (with_reducible first | refine zL ?_ | refine zM ?_ | refine zE ?_ | refine zG ?_ | refine zF ?_) | refine zO ?_ | (refine wg ?_; refine yW rfl rfl (fun hbr => ?_) (fun hbr => ?_) <;> (fail_if_success (with_reducible (have hx : true = true := hbr))) <;> (fail_if_success (with_reducible (have hx : false = false := hbr)))) | (refine zb rfl ?_; refine yK rfl rfl rfl rfl (fun hbr => ?_) (fun hbr => ?_) <;> (fail_if_success (with_reducible (have hx : true = true := hbr))) <;> (fail_if_success (with_reducible (have hx : false = false := hbr))))
theorem wB (x lo hi : Int) : zz Go.Proofs.Try.prog 75 [I x, I lo, I hi] [] (B (inV x lo hi)) [] false := by
  refine zw [6] Go.Proofs.Try.func75 rfl rfl ?_
  simp only [Go.Proofs.Try.ntmps75, List.length_cons, List.length_nil, Nat.reduceAdd, Nat.reduceSub, List.replicate_succ, List.replicate_zero, List.cons_append, List.nil_append]
  repeat' first | refine zK ?_ | refine zA ?_ | refine zP [] ?_ | (refine isA ?_; refine zd rfl ?_) | (refine isL ?_; refine zU rfl (by kernel_rfl) rfl rfl ?_) | (refine zb rfl ?_; refine zT rfl (by kernel_rfl) rfl rfl ?_) | exact yG rfl rfl (by first | ((try simp only [Bool.not_eq_true', Bool.not_eq_false'] at *); simp only [inV, *, Bool.true_and, Bool.false_and, Bool.and_true, Bool.and_false, Bool.true_or, Bool.false_or, Bool.or_true, Bool.or_false, Bool.not_true, Bool.not_false, cond_true, cond_false]; done) | (simp_all [inV]; done) | (simp_all [inV]; intros; omega)) | refine zD ?_ | refine zB _ rfl (by kernel_rfl) ?_ | refine zV rfl ?_ | refine zW rfl ?_ | refine zC ?_ | with_reducible refine zN ?_ | refine zH ?_ | refine zI ?_ | (with_reducible first | refine zL ?_ | refine zM ?_ | refine zE ?_ | refine zG ?_ | refine zF ?_) | refine zO ?_ | (refine wg ?_; refine yW rfl rfl (fun hbr => ?_) (fun hbr => ?_) <;> (fail_if_success (with_reducible (have hx : true = true := hbr))) <;> (fail_if_success (with_reducible (have hx : false = false := hbr)))) | (refine zb rfl ?_; refine yK rfl rfl rfl rfl (fun hbr => ?_) (fun hbr => ?_) <;> (fail_if_success (with_reducible (have hx : true = true := hbr))) <;> (fail_if_success (with_reducible (have hx : false = false := hbr))))
def vRw (x : Rw) : Bool := inV x.a 0 9 && (inV x.b 0 99 && inV x.c 0 3)
theorem sT (x : Rw) : zz Go.Proofs.Try.prog 99 [.agg (rwE x)] [] (B (vRw x)) [] false := by
  refine zw [2] Go.Proofs.Try.func99 rfl rfl ?_
  simp only [Go.Proofs.Try.ntmps99, List.length_cons, List.length_nil, Nat.reduceAdd, Nat.reduceSub, List.replicate_succ, List.replicate_zero, List.cons_append, List.nil_append]
  repeat' first | refine zK ?_ | refine zA ?_ | refine zP [] ?_ | (refine isA ?_; refine zd rfl ?_) | (refine isL ?_; refine zU rfl (by kernel_rfl) rfl rfl ?_) | (refine zb rfl ?_; refine zT rfl (by kernel_rfl) rfl rfl ?_) | (refine zu 66 ?_; refine zc rfl (zQ rfl (uR _ _ _) (.cons (.same rfl) (.cons (.same rfl) (.cons (.same rfl) .nil))) rfl) rfl ?_) | (refine zv 66 rfl ?_; refine zY rfl (by kernel_rfl) rfl (zQ rfl (uR _ _ _) (.cons (.same rfl) (.cons (.same rfl) (.cons (.same rfl) .nil))) rfl) rfl ?_) | exact yG rfl rfl (by first | ((try simp only [Bool.not_eq_true', Bool.not_eq_false'] at *); simp only [vRw, *, Bool.true_and, Bool.false_and, Bool.and_true, Bool.and_false, Bool.true_or, Bool.false_or, Bool.or_true, Bool.or_false, Bool.not_true, Bool.not_false, cond_true, cond_false]; done) | (simp_all [vRw]; done) | (simp_all [vRw]; intros; omega)) | refine zD ?_ | refine zB _ rfl (by kernel_rfl) ?_ | refine zV rfl ?_ | refine zW rfl ?_ | refine zC ?_ | with_reducible refine zN ?_ | refine zH ?_ | refine zI ?_ | (with_reducible first | refine zL ?_ | refine zM ?_ | refine zE ?_ | refine zG ?_ | refine zF ?_) | refine zO ?_ | (refine wg ?_; refine yW rfl rfl (fun hbr => ?_) (fun hbr => ?_) <;> (fail_if_success (with_reducible (have hx : true = true := hbr))) <;> (fail_if_success (with_reducible (have hx : false = false := hbr)))) | (refine zb rfl ?_; refine yK rfl rfl rfl rfl (fun hbr => ?_) (fun hbr => ?_) <;> (fail_if_success (with_reducible (have hx : true = true := hbr))) <;> (fail_if_success (with_reducible (have hx : false = false := hbr))))
theorem sV (x : Rw) : zz Go.Proofs.Try.prog 116 [.agg (rwE x)] [] (B (vRw x)) [] false := by
  refine zw [2] Go.Proofs.Try.func116 rfl rfl ?_
  simp only [Go.Proofs.Try.ntmps116, List.length_cons, List.length_nil, Nat.reduceAdd, Nat.reduceSub, List.replicate_succ, List.replicate_zero, List.cons_append, List.nil_append]
  repeat' first | refine zK ?_ | refine zA ?_ | refine zP [] ?_ | (refine isA ?_; refine zd rfl ?_) | (refine isL ?_; refine zU rfl (by kernel_rfl) rfl rfl ?_) | (refine zb rfl ?_; refine zT rfl (by kernel_rfl) rfl rfl ?_) | (refine zu 75 ?_; refine zc rfl (zQ rfl (wB _ _ _) (.cons (.same rfl) (.cons (.same rfl) (.cons (.same rfl) .nil))) rfl) rfl ?_) | (refine zv 75 rfl ?_; refine zY rfl (by kernel_rfl) rfl (zQ rfl (wB _ _ _) (.cons (.same rfl) (.cons (.same rfl) (.cons (.same rfl) .nil))) rfl) rfl ?_) | exact yG rfl rfl (by first | ((try simp only [Bool.not_eq_true', Bool.not_eq_false'] at *); simp only [vRw, *, Bool.true_and, Bool.false_and, Bool.and_true, Bool.and_false, Bool.true_or, Bool.false_or, Bool.or_true, Bool.or_false, Bool.not_true, Bool.not_false, cond_true, cond_false]; done) | (simp_all [vRw]; done) | (simp_all [vRw]; intros; omega)) | refine zD ?_ | refine zB _ rfl (by kernel_rfl) ?_ | refine zV rfl ?_ | refine zW rfl ?_ | refine zC ?_ | with_reducible refine zN ?_ | refine zH ?_ | refine zI ?_ | (with_reducible first | refine zL ?_ | refine zM ?_ | refine zE ?_ | refine zG ?_ | refine zF ?_) | refine zO ?_ | (refine wg ?_; refine yW rfl rfl (fun hbr => ?_) (fun hbr => ?_) <;> (fail_if_success (with_reducible (have hx : true = true := hbr))) <;> (fail_if_success (with_reducible (have hx : false = false := hbr)))) | (refine zb rfl ?_; refine yK rfl rfl rfl rfl (fun hbr => ?_) (fun hbr => ?_) <;> (fail_if_success (with_reducible (have hx : true = true := hbr))) <;> (fail_if_success (with_reducible (have hx : false = false := hbr))))
theorem f7 {xs : List Rw} {i : Nat} {z : Rw} (hz : xs[i]? = some z) (h : vRw z = false) : xs.all vRw = false := by
  cases ha : xs.all vRw with
  | false => rfl
  | true => rw [List.all_eq_true] at ha; rw [ha z (List.mem_of_getElem? hz)] at h; cases h
theorem lv {xs : List Rw} (h : ∀ j z, j < xs.length → xs[j]? = some z → vRw z = true) : xs.all vRw = true := by
  rw [List.all_eq_true]
  intro x hx
  obtain ⟨i, hi⟩ := List.getElem?_of_mem hx
  exact h i x (List.getElem?_eq_some_iff.1 hi).1 hi
def avR (xs : List Rw) : Bool := xs.all vRw && decide ((xs.length : Int) ≤ 24)
theorem fr (xs : List Rw) (hl : xs.length ≤ 1000000000) : zz Go.Proofs.Try.prog 121 [rwL xs] [] (B (xs.all vRw)) [] false := by
  refine zw [2] Go.Proofs.Try.func121 rfl rfl ?_
  simp only [Go.Proofs.Try.ntmps121, List.length_cons, List.length_nil, Nat.reduceAdd, Nat.reduceSub, List.replicate_succ, List.replicate_zero, List.cons_append, List.nil_append]
  repeat' first | refine zK ?_ | refine zA ?_ | refine zP [] ?_ | (refine isA ?_; refine zd rfl ?_) | (refine isL ?_; refine zU rfl (by kernel_rfl) rfl rfl ?_) | (refine zb rfl ?_; refine zT rfl (by kernel_rfl) rfl rfl ?_) | refine zD ?_ | refine zB _ rfl (by kernel_rfl) ?_ | refine zV rfl ?_ | refine zW rfl ?_ | refine zC ?_ | with_reducible refine zN ?_ | refine zH ?_ | refine zI ?_ | (with_reducible first | refine zL ?_ | refine zM ?_ | refine zE ?_ | refine zG ?_ | refine zF ?_) | refine zO ?_
  refine z9 (α := { i : Nat // i ≤ xs.length ∧ ∀ j z, j < i → xs[j]? = some z → vRw z = true }) (fun i => ⟨[rwL xs, .any, .any, .any, .any, rwL xs, I xs.length, I i.1, .any, .any, .any, .any, .any, .any, .any], [], 0⟩) (fun i => xs.length - i.1) ⟨0, Nat.zero_le _, fun j z hj => absurd hj (Nat.not_lt_zero _)⟩ ?_ ?_
  · exact ye [] rfl rfl (by decide) .nil (by repeat' first | exact zj | refine zZ ?_ ?_ | exact zp | exact le_refl rfl | exact zk rfl rfl | exact zx rfl)
  · rintro ⟨i, hi, hb⟩
    repeat' first | refine zK ?_ | refine zA ?_ | refine zP [] ?_ | (refine isA ?_; refine zd rfl ?_) | (refine isL ?_; refine zU rfl (by kernel_rfl) rfl rfl ?_) | (refine zb rfl ?_; refine zT rfl (by kernel_rfl) rfl rfl ?_) | refine zD ?_ | refine zB _ rfl (by kernel_rfl) ?_ | refine zV rfl ?_ | refine zW rfl ?_ | refine zC ?_ | with_reducible refine zN ?_ | refine zH ?_ | refine zI ?_ | (with_reducible first | refine zL ?_ | refine zM ?_ | refine zE ?_ | refine zG ?_ | refine zF ?_) | refine zO ?_
    refine zh rfl (fun h => ?_) (fun h => ?_)
    · have hlt : i < xs.length := by simpa using h
      obtain ⟨z, hz⟩ : ∃ z, xs[i]? = some z := ⟨_, List.getElem?_eq_getElem hlt⟩
      repeat' first | refine zK ?_ | refine zA ?_ | refine zP [] ?_ | (refine isA ?_; refine zd rfl ?_) | (refine isL ?_; refine zU rfl (by kernel_rfl) rfl rfl ?_) | (refine zb rfl ?_; refine zT rfl (by kernel_rfl) rfl rfl ?_) | (refine yB ?_; refine zc rfl (z6 (t := rwT) (z := z) rfl rfl rfl rfl (Int.natCast_nonneg i) hz) rfl ?_) | (refine yA rfl ?_; refine zY rfl (by kernel_rfl) rfl (z6 (t := rwT) (z := z) rfl rfl rfl rfl (Int.natCast_nonneg i) hz) rfl ?_) | (refine zu 116 ?_; refine zc rfl (zQ rfl (sV z) (.cons (.same rfl) .nil) rfl) rfl ?_) | (refine zv 116 rfl ?_; refine zY rfl (by kernel_rfl) rfl (zQ rfl (sV z) (.cons (.same rfl) .nil) rfl) rfl ?_) | refine zD ?_ | refine zB _ rfl (by kernel_rfl) ?_ | refine zV rfl ?_ | refine zW rfl ?_ | refine zC ?_ | with_reducible refine zN ?_ | refine zH ?_ | refine zI ?_ | (with_reducible first | refine zL ?_ | refine zM ?_ | refine zE ?_ | refine zG ?_ | refine zF ?_) | refine zO ?_
      refine zh rfl (fun h1 => ?_) (fun h1 => ?_)
      · have h2 : vRw z = false := by simpa using h1
        repeat' first | refine zK ?_ | refine zA ?_ | refine zP [] ?_ | (refine isA ?_; refine zd rfl ?_) | (refine isL ?_; refine zU rfl (by kernel_rfl) rfl rfl ?_) | (refine zb rfl ?_; refine zT rfl (by kernel_rfl) rfl rfl ?_) | exact yG rfl rfl (by rw [f7 hz h2]) | refine zD ?_ | refine zB _ rfl (by kernel_rfl) ?_ | refine zV rfl ?_ | refine zW rfl ?_ | refine zC ?_ | with_reducible refine zN ?_ | refine zH ?_ | refine zI ?_ | (with_reducible first | refine zL ?_ | refine zM ?_ | refine zE ?_ | refine zG ?_ | refine zF ?_) | refine zO ?_
      · have h2 : vRw z = true := by simpa using h1
        repeat' first | refine zK ?_ | refine zA ?_ | refine zP [] ?_ | (refine isA ?_; refine zd rfl ?_) | (refine isL ?_; refine zU rfl (by kernel_rfl) rfl rfl ?_) | (refine zb rfl ?_; refine zT rfl (by kernel_rfl) rfl rfl ?_) | refine zD ?_ | refine zB _ rfl (by kernel_rfl) ?_ | refine zV rfl ?_ | refine zW rfl ?_ | refine zC ?_ | with_reducible refine zN ?_ | refine zH ?_ | refine zI ?_ | (with_reducible first | refine zL ?_ | refine zM ?_ | refine zE ?_ | refine zG ?_ | refine zF ?_) | refine zO ?_
        refine ⟨⟨i + 1, hlt, fun j y hj hy => ?_⟩, by simp only; omega, ?_⟩
        · rcases Nat.lt_succ_iff_lt_or_eq.1 hj with hj | rfl
          · exact hb j y hj hy
          · rw [hz] at hy; cases hy; exact h2
        · exact ye [] rfl rfl (by decide) .nil (by repeat' first | exact zj | refine zZ ?_ ?_ | exact zp | exact le_refl rfl | exact zk rfl rfl | exact zx rfl | exact xZ (by assumption) (by omega))
    · have hge : i = xs.length := by
        have : ¬ ((i : Int) < xs.length) := by simpa using h
        omega
      subst hge
      repeat' first | refine zK ?_ | refine zA ?_ | refine zP [] ?_ | (refine isA ?_; refine zd rfl ?_) | (refine isL ?_; refine zU rfl (by kernel_rfl) rfl rfl ?_) | (refine zb rfl ?_; refine zT rfl (by kernel_rfl) rfl rfl ?_) | exact yG rfl rfl (by rw [lv hb]) | refine zD ?_ | refine zB _ rfl (by kernel_rfl) ?_ | refine zV rfl ?_ | refine zW rfl ?_ | refine zC ?_ | with_reducible refine zN ?_ | refine zH ?_ | refine zI ?_ | (with_reducible first | refine zL ?_ | refine zM ?_ | refine zE ?_ | refine zG ?_ | refine zF ?_) | refine zO ?_
theorem qI (xs : List Rw) (hl : xs.length ≤ 1000000000) : zz Go.Proofs.Try.prog 25 [rwL xs] [] (B (avR xs)) [] false := by
  refine zw [2] Go.Proofs.Try.func25 rfl rfl ?_
  simp only [Go.Proofs.Try.ntmps25, List.length_cons, List.length_nil, Nat.reduceAdd, Nat.reduceSub, List.replicate_succ, List.replicate_zero, List.cons_append, List.nil_append]
  repeat' first | refine zK ?_ | refine zA ?_ | refine zP [] ?_ | (refine isA ?_; refine zd rfl ?_) | (refine isL ?_; refine zU rfl (by kernel_rfl) rfl rfl ?_) | (refine zb rfl ?_; refine zT rfl (by kernel_rfl) rfl rfl ?_) | refine zD ?_ | refine zB _ rfl (by kernel_rfl) ?_ | refine zV rfl ?_ | refine zW rfl ?_ | refine zC ?_ | with_reducible refine zN ?_ | refine zH ?_ | refine zI ?_ | (with_reducible first | refine zL ?_ | refine zM ?_ | refine zE ?_ | refine zG ?_ | refine zF ?_) | refine zO ?_
  refine z9 (α := { i : Nat // i ≤ xs.length ∧ ∀ j z, j < i → xs[j]? = some z → vRw z = true }) (fun i => ⟨[rwL xs, .any, .any, I i.1, .any, .any, .any, .any, .any, .any, .any, .any, .any, .any, .any, .any, .any, .any, .any], [], 0⟩) (fun i => xs.length - i.1) ⟨0, Nat.zero_le _, fun j z hj => absurd hj (Nat.not_lt_zero _)⟩ ?_ ?_
  · exact ye [] rfl rfl (by decide) .nil (by repeat' first | exact zj | refine zZ ?_ ?_ | exact zp | exact le_refl rfl | exact zk rfl rfl | exact zx rfl)
  · rintro ⟨i, hi, hb⟩
    repeat' first | refine zK ?_ | refine zA ?_ | refine zP [] ?_ | (refine isA ?_; refine zd rfl ?_) | (refine isL ?_; refine zU rfl (by kernel_rfl) rfl rfl ?_) | (refine zb rfl ?_; refine zT rfl (by kernel_rfl) rfl rfl ?_) | refine zD ?_ | refine zB _ rfl (by kernel_rfl) ?_ | refine zV rfl ?_ | refine zW rfl ?_ | refine zC ?_ | with_reducible refine zN ?_ | refine zH ?_ | refine zI ?_ | (with_reducible first | refine zL ?_ | refine zM ?_ | refine zE ?_ | refine zG ?_ | refine zF ?_) | refine zO ?_
    refine zh rfl (fun h => ?_) (fun h => ?_)
    · have hlt : i < xs.length := by simpa using h
      obtain ⟨z, hz⟩ : ∃ z, xs[i]? = some z := ⟨_, List.getElem?_eq_getElem hlt⟩
      repeat' first | refine zK ?_ | refine zA ?_ | refine zP [] ?_ | (refine isA ?_; refine zd rfl ?_) | (refine isL ?_; refine zU rfl (by kernel_rfl) rfl rfl ?_) | (refine zb rfl ?_; refine zT rfl (by kernel_rfl) rfl rfl ?_) | (refine yB ?_; refine zc rfl (z6 (t := rwT) (z := z) rfl rfl rfl rfl (Int.natCast_nonneg i) hz) rfl ?_) | (refine yA rfl ?_; refine zY rfl (by kernel_rfl) rfl (z6 (t := rwT) (z := z) rfl rfl rfl rfl (Int.natCast_nonneg i) hz) rfl ?_) | (refine zu 99 ?_; refine zc rfl (zQ rfl (sT z) (.cons (.same rfl) .nil) rfl) rfl ?_) | (refine zv 99 rfl ?_; refine zY rfl (by kernel_rfl) rfl (zQ rfl (sT z) (.cons (.same rfl) .nil) rfl) rfl ?_) | refine zD ?_ | refine zB _ rfl (by kernel_rfl) ?_ | refine zV rfl ?_ | refine zW rfl ?_ | refine zC ?_ | with_reducible refine zN ?_ | refine zH ?_ | refine zI ?_ | (with_reducible first | refine zL ?_ | refine zM ?_ | refine zE ?_ | refine zG ?_ | refine zF ?_) | refine zO ?_
      refine zh rfl (fun h1 => ?_) (fun h1 => ?_)
      · have h2 : vRw z = false := by simpa using h1
        repeat' first | refine zK ?_ | refine zA ?_ | refine zP [] ?_ | (refine isA ?_; refine zd rfl ?_) | (refine isL ?_; refine zU rfl (by kernel_rfl) rfl rfl ?_) | (refine zb rfl ?_; refine zT rfl (by kernel_rfl) rfl rfl ?_) | exact yG rfl rfl (by rw [avR, f7 hz h2, Bool.false_and]) | refine zD ?_ | refine zB _ rfl (by kernel_rfl) ?_ | refine zV rfl ?_ | refine zW rfl ?_ | refine zC ?_ | with_reducible refine zN ?_ | refine zH ?_ | refine zI ?_ | (with_reducible first | refine zL ?_ | refine zM ?_ | refine zE ?_ | refine zG ?_ | refine zF ?_) | refine zO ?_
      · have h2 : vRw z = true := by simpa using h1
        repeat' first | refine zK ?_ | refine zA ?_ | refine zP [] ?_ | (refine isA ?_; refine zd rfl ?_) | (refine isL ?_; refine zU rfl (by kernel_rfl) rfl rfl ?_) | (refine zb rfl ?_; refine zT rfl (by kernel_rfl) rfl rfl ?_) | refine zD ?_ | refine zB _ rfl (by kernel_rfl) ?_ | refine zV rfl ?_ | refine zW rfl ?_ | refine zC ?_ | with_reducible refine zN ?_ | refine zH ?_ | refine zI ?_ | (with_reducible first | refine zL ?_ | refine zM ?_ | refine zE ?_ | refine zG ?_ | refine zF ?_) | refine zO ?_
        refine ⟨⟨i + 1, hlt, fun j y hj hy => ?_⟩, by simp only; omega, ?_⟩
        · rcases Nat.lt_succ_iff_lt_or_eq.1 hj with hj | rfl
          · exact hb j y hj hy
          · rw [hz] at hy; cases hy; exact h2
        · exact ye [] rfl rfl (by decide) .nil (by repeat' first | exact zj | refine zZ ?_ ?_ | exact zp | exact le_refl rfl | exact zk rfl rfl | exact zx rfl | exact xZ (by assumption) (by omega))
    · have hge : i = xs.length := by
        have : ¬ ((i : Int) < xs.length) := by simpa using h
        omega
      subst hge
      repeat' first | refine zK ?_ | refine zA ?_ | refine zP [] ?_ | (refine isA ?_; refine zd rfl ?_) | (refine isL ?_; refine zU rfl (by kernel_rfl) rfl rfl ?_) | (refine zb rfl ?_; refine zT rfl (by kernel_rfl) rfl rfl ?_) | exact yG rfl rfl (by rw [avR, lv hb, Bool.true_and]) | refine zD ?_ | refine zB _ rfl (by kernel_rfl) ?_ | refine zV rfl ?_ | refine zW rfl ?_ | refine zC ?_ | with_reducible refine zN ?_ | refine zH ?_ | refine zI ?_ | (with_reducible first | refine zL ?_ | refine zM ?_ | refine zE ?_ | refine zG ?_ | refine zF ?_) | refine zO ?_
theorem tw (xs : List Rw) (hl : xs.length ≤ 1000000000) : zz Go.Proofs.Try.prog 74 [rwL xs] [] (B (avR xs)) [] false := by
  refine zw [2] Go.Proofs.Try.func74 rfl rfl ?_
  simp only [Go.Proofs.Try.ntmps74, List.length_cons, List.length_nil, Nat.reduceAdd, Nat.reduceSub, List.replicate_succ, List.replicate_zero, List.cons_append, List.nil_append]
  repeat' first | refine zK ?_ | refine zA ?_ | refine zP [] ?_ | (refine isA ?_; refine zd rfl ?_) | (refine isL ?_; refine zU rfl (by kernel_rfl) rfl rfl ?_) | (refine zb rfl ?_; refine zT rfl (by kernel_rfl) rfl rfl ?_) | (refine zu 121 ?_; refine zc rfl (zQ rfl (fr xs hl) (.cons (.same rfl) .nil) rfl) rfl ?_) | (refine zv 121 rfl ?_; refine zY rfl (by kernel_rfl) rfl (zQ rfl (fr xs hl) (.cons (.same rfl) .nil) rfl) rfl ?_) | exact yG rfl rfl (by first | ((try simp only [Bool.not_eq_true', Bool.not_eq_false'] at *); simp only [avR, *, Bool.true_and, Bool.false_and, Bool.and_true, Bool.and_false, Bool.true_or, Bool.false_or, Bool.or_true, Bool.or_false, Bool.not_true, Bool.not_false, cond_true, cond_false]; done) | (simp_all [avR]; done) | (simp_all [avR]; intros; omega)) | refine zD ?_ | refine zB _ rfl (by kernel_rfl) ?_ | refine zV rfl ?_ | refine zW rfl ?_ | refine zC ?_ | with_reducible refine zN ?_ | refine zH ?_ | refine zI ?_ | (with_reducible first | refine zL ?_ | refine zM ?_ | refine zE ?_ | refine zG ?_ | refine zF ?_) | refine zO ?_ | (refine wg ?_; refine yW rfl rfl (fun hbr => ?_) (fun hbr => ?_) <;> (fail_if_success (with_reducible (have hx : true = true := hbr))) <;> (fail_if_success (with_reducible (have hx : false = false := hbr)))) | (refine zb rfl ?_; refine yK rfl rfl rfl rfl (fun hbr => ?_) (fun hbr => ?_) <;> (fail_if_success (with_reducible (have hx : true = true := hbr))) <;> (fail_if_success (with_reducible (have hx : false = false := hbr))))
theorem wE (xs : List Rw) (hl : xs.length ≤ 1000000000) : zz Go.Proofs.Try.prog 114 [rwL xs] [] (.sl 0 0 xs.length) [rwR xs] false := by
  refine zw [2] Go.Proofs.Try.func114 rfl rfl ?_
  simp only [Go.Proofs.Try.ntmps114, List.length_cons, List.length_nil, Nat.reduceAdd, Nat.reduceSub, List.replicate_succ, List.replicate_zero, List.cons_append, List.nil_append]
  repeat' first | refine zK ?_ | refine zA ?_ | refine zP [] ?_ | (refine isA ?_; refine zd rfl ?_) | (refine isL ?_; refine zU rfl (by kernel_rfl) rfl rfl ?_) | (refine zb rfl ?_; refine zT rfl (by kernel_rfl) rfl rfl ?_) | (refine xR ?_; refine zc rfl (cC (T := rwT) (xs := xs) rfl rfl rfl rfl hl rfl) rfl ?_) | (refine xC rfl ?_; refine zY rfl (by kernel_rfl) rfl (cC (T := rwT) (xs := xs) rfl rfl rfl rfl hl rfl) rfl ?_) | exact hM [0] rfl (wX (by decide) (.cons rfl rfl rfl rfl (zX (zJ _ _)) .nil)) (zk rfl rfl) (Or.inr ⟨rfl, fun q hq => by simp at hq; subst hq; exact ⟨Nat.zero_ne_one, fun _ => (xt _).flatS⟩⟩) | refine zD ?_ | refine zB _ rfl (by kernel_rfl) ?_ | refine zV rfl ?_ | refine zW rfl ?_ | refine zC ?_ | with_reducible refine zN ?_ | refine zH ?_ | refine zI ?_ | (with_reducible first | refine zL ?_ | refine zM ?_ | refine zE ?_ | refine zG ?_ | refine zF ?_) | refine zO ?_
end Go.Proofs.Ytojcojanokhnaaa.Ab
namespace Go.Proofs.Ytojcojanokhnaaa.Ab
open Go.RowKit
def uy (a b : Int) : Int := cond (decide (a < b)) (-1) (cond (decide (b < a)) 1 0)
def u9 : List Int → List Int → Int
  | x :: xs, y :: ys => cond (decide (x < y)) (-1) (cond (decide (y < x)) 1 (u9 xs ys))
  | _, _ => 0
def rwN (x : Rw) : List Int := [x.a, x.b, x.c]
def yu (x y : Rw) : Int := u9 (rwN x) (rwN y)
theorem ua (a b : Int) : zz Go.Proofs.Try.prog 117 [I a, I b] [] (I (uy a b)) [] false := by
  refine zw [4] Go.Proofs.Try.func117 rfl rfl ?_
  simp only [Go.Proofs.Try.ntmps117, List.length_cons, List.length_nil, Nat.reduceAdd, Nat.reduceSub, List.replicate_succ, List.replicate_zero, List.cons_append, List.nil_append]
  repeat' first | refine zK ?_ | refine zA ?_ | refine zP [] ?_ | (refine isA ?_; refine zd rfl ?_) | (refine isL ?_; refine zU rfl (by kernel_rfl) rfl rfl ?_) | (refine zb rfl ?_; refine zT rfl (by kernel_rfl) rfl rfl ?_) | exact yG rfl rfl (by simp only [uy, *, cond_true, cond_false]) | refine zD ?_ | refine zB _ rfl (by kernel_rfl) ?_ | refine zV rfl ?_ | refine zW rfl ?_ | refine zC ?_ | with_reducible refine zN ?_ | refine zH ?_ | refine zI ?_ | (with_reducible first | refine zL ?_ | refine zM ?_ | refine zE ?_ | refine zG ?_ | refine zF ?_) | refine zO ?_ | refine zh rfl (fun hbr => ?_) (fun hbr => ?_) | (refine wg ?_; refine yW rfl rfl (fun hbr => ?_) (fun hbr => ?_) <;> (fail_if_success (with_reducible (have hx : true = true := hbr))) <;> (fail_if_success (with_reducible (have hx : false = false := hbr)))) | (refine zb rfl ?_; refine yK rfl rfl rfl rfl (fun hbr => ?_) (fun hbr => ?_) <;> (fail_if_success (with_reducible (have hx : true = true := hbr))) <;> (fail_if_success (with_reducible (have hx : false = false := hbr))))
theorem fP {a b : Int} {xs ys : List Int} (h : uy a b ≠ 0) : u9 (a :: xs) (b :: ys) = uy a b := by
  rw [u9]
  unfold uy at h ⊢
  generalize decide (a < b) = p at h ⊢
  generalize decide (b < a) = q at h ⊢
  cases p
  · cases q
    · exact absurd rfl h
    · rfl
  · rfl
theorem mW {a b : Int} {xs ys : List Int} (h : uy a b = 0) : u9 (a :: xs) (b :: ys) = u9 xs ys := by
  rw [u9]
  unfold uy at h
  generalize decide (a < b) = p at h ⊢
  generalize decide (b < a) = q at h ⊢
  cases p
  · cases q
    · rfl
    · cases h
  · cases h
theorem ez {a b : Int} : u9 [a] [b] = uy a b := rfl
theorem xP (x y : Rw) : zz Go.Proofs.Try.prog 64 [.agg (rwE x), .agg (rwE y)] [] (I (yu x y)) [] false := by
  refine zw [4] Go.Proofs.Try.func64 rfl rfl ?_
  simp only [Go.Proofs.Try.ntmps64, List.length_cons, List.length_nil, Nat.reduceAdd, Nat.reduceSub, List.replicate_succ, List.replicate_zero, List.cons_append, List.nil_append]
  repeat' first | refine zK ?_ | refine zA ?_ | refine zP [] ?_ | (refine isA ?_; refine zd rfl ?_) | (refine isL ?_; refine zU rfl (by kernel_rfl) rfl rfl ?_) | (refine zb rfl ?_; refine zT rfl (by kernel_rfl) rfl rfl ?_) | (refine zu 117 ?_; refine zc rfl (zQ rfl (ua _ _) (.cons (.same rfl) (.cons (.same rfl) .nil)) rfl) rfl ?_) | (refine zv 117 rfl ?_; refine zY rfl (by kernel_rfl) rfl (zQ rfl (ua _ _) (.cons (.same rfl) (.cons (.same rfl) .nil)) rfl) rfl ?_) | refine zD ?_ | refine zB _ rfl (by kernel_rfl) ?_ | refine zV rfl ?_ | refine zW rfl ?_ | refine zC ?_ | with_reducible refine zN ?_ | refine zH ?_ | refine zI ?_ | (with_reducible first | refine zL ?_ | refine zM ?_ | refine zE ?_ | refine zG ?_ | refine zF ?_) | refine zO ?_
  refine zh rfl (fun h => ?_) (fun h => ?_)
  · have h1 : uy x.a y.a ≠ 0 := by simpa using h
    have e : yu x y = uy x.a y.a := fP h1
    repeat' first | refine zK ?_ | refine zA ?_ | refine zP [] ?_ | (refine isA ?_; refine zd rfl ?_) | (refine isL ?_; refine zU rfl (by kernel_rfl) rfl rfl ?_) | (refine zb rfl ?_; refine zT rfl (by kernel_rfl) rfl rfl ?_) | exact yG rfl rfl (by rw [e]) | refine zD ?_ | refine zB _ rfl (by kernel_rfl) ?_ | refine zV rfl ?_ | refine zW rfl ?_ | refine zC ?_ | with_reducible refine zN ?_ | refine zH ?_ | refine zI ?_ | (with_reducible first | refine zL ?_ | refine zM ?_ | refine zE ?_ | refine zG ?_ | refine zF ?_) | refine zO ?_
  have h1 : uy x.a y.a = 0 := by simpa using h
  repeat' first | refine zK ?_ | refine zA ?_ | refine zP [] ?_ | (refine isA ?_; refine zd rfl ?_) | (refine isL ?_; refine zU rfl (by kernel_rfl) rfl rfl ?_) | (refine zb rfl ?_; refine zT rfl (by kernel_rfl) rfl rfl ?_) | (refine zu 117 ?_; refine zc rfl (zQ rfl (ua _ _) (.cons (.same rfl) (.cons (.same rfl) .nil)) rfl) rfl ?_) | (refine zv 117 rfl ?_; refine zY rfl (by kernel_rfl) rfl (zQ rfl (ua _ _) (.cons (.same rfl) (.cons (.same rfl) .nil)) rfl) rfl ?_) | refine zD ?_ | refine zB _ rfl (by kernel_rfl) ?_ | refine zV rfl ?_ | refine zW rfl ?_ | refine zC ?_ | with_reducible refine zN ?_ | refine zH ?_ | refine zI ?_ | (with_reducible first | refine zL ?_ | refine zM ?_ | refine zE ?_ | refine zG ?_ | refine zF ?_) | refine zO ?_
  refine zh rfl (fun h => ?_) (fun h => ?_)
  · have h2 : uy x.b y.b ≠ 0 := by simpa using h
    have e : yu x y = uy x.b y.b := (mW h1).trans (fP h2)
    repeat' first | refine zK ?_ | refine zA ?_ | refine zP [] ?_ | (refine isA ?_; refine zd rfl ?_) | (refine isL ?_; refine zU rfl (by kernel_rfl) rfl rfl ?_) | (refine zb rfl ?_; refine zT rfl (by kernel_rfl) rfl rfl ?_) | exact yG rfl rfl (by rw [e]) | refine zD ?_ | refine zB _ rfl (by kernel_rfl) ?_ | refine zV rfl ?_ | refine zW rfl ?_ | refine zC ?_ | with_reducible refine zN ?_ | refine zH ?_ | refine zI ?_ | (with_reducible first | refine zL ?_ | refine zM ?_ | refine zE ?_ | refine zG ?_ | refine zF ?_) | refine zO ?_
  have h2 : uy x.b y.b = 0 := by simpa using h
  have e : yu x y = uy x.c y.c := (mW h1).trans ((mW h2).trans ez)
  repeat' first | refine zK ?_ | refine zA ?_ | refine zP [] ?_ | (refine isA ?_; refine zd rfl ?_) | (refine isL ?_; refine zU rfl (by kernel_rfl) rfl rfl ?_) | (refine zb rfl ?_; refine zT rfl (by kernel_rfl) rfl rfl ?_) | (refine zu 117 ?_; refine zc rfl (zQ rfl (ua _ _) (.cons (.same rfl) (.cons (.same rfl) .nil)) rfl) rfl ?_) | (refine zv 117 rfl ?_; refine zY rfl (by kernel_rfl) rfl (zQ rfl (ua _ _) (.cons (.same rfl) (.cons (.same rfl) .nil)) rfl) rfl ?_) | exact yG rfl rfl (by rw [e]) | refine zD ?_ | refine zB _ rfl (by kernel_rfl) ?_ | refine zV rfl ?_ | refine zW rfl ?_ | refine zC ?_ | with_reducible refine zN ?_ | refine zH ?_ | refine zI ?_ | (with_reducible first | refine zL ?_ | refine zM ?_ | refine zE ?_ | refine zG ?_ | refine zF ?_) | refine zO ?_
def xf : Ty Int := ⟨1, fun n => [I n], fun _ => rfl, by decide, fun r c hc => by
  simp only [List.mem_cons, List.not_mem_nil, or_false] at hc
  subst hc
  exact ⟨rfl, rfl⟩⟩
theorem cl {xs ys : List Int} {i : Nat} {a b : Int} (hx : xs[i]? = some a) (hy : ys[i]? = some b) : u9 (xs.drop i) (ys.drop i) = cond (decide (a < b)) (-1) (cond (decide (b < a)) 1 (u9 (xs.drop (i + 1)) (ys.drop (i + 1)))) := by
  rw [yI hx, yI hy, u9]
theorem xz (x y : Rw) : zz Go.Proofs.Try.prog 68 [.agg (rwE x), .agg (rwE y)] [] (I (yu x y)) [] false := by
  refine zw [4] Go.Proofs.Try.func68 rfl rfl ?_
  simp only [Go.Proofs.Try.ntmps68, List.length_cons, List.length_nil, Nat.reduceAdd, Nat.reduceSub, List.replicate_succ, List.replicate_zero, List.cons_append, List.nil_append]
  repeat' first | refine zK ?_ | refine zA ?_ | refine zP [] ?_ | (refine isA ?_; refine zd rfl ?_) | (refine isL ?_; refine zU rfl (by kernel_rfl) rfl rfl ?_) | (refine zb rfl ?_; refine zT rfl (by kernel_rfl) rfl rfl ?_) | refine zD ?_ | refine zB _ rfl (by kernel_rfl) ?_ | refine zV rfl ?_ | refine zW rfl ?_ | refine zC ?_ | with_reducible refine zN ?_ | refine zH ?_ | refine zI ?_ | (with_reducible first | refine zL ?_ | refine zM ?_ | refine zE ?_ | refine zG ?_ | refine zF ?_) | refine zO ?_
  refine z9 (α := { i : Nat // i ≤ 3 ∧ u9 ((rwN x).drop i) ((rwN y).drop i) = yu x y }) (fun i => ⟨[.any, .any, .any, .any, .any, .sl 0 0 3, .sl 1 0 3, I i.1, .any, .any, .any, .any, .any, .any, .any, .any, .any, .any, .any, .any, .any, .any, .any, .any, .any, .any, .any, .any, .any, .any, .any, .any, .any, .any, .any, .any, .any, .any, .any, .any, .any, .any, .any, .any], [xL xf 3 (rwN x), xL xf 3 (rwN y)], 0⟩) (fun i => 3 - i.1) ⟨0, Nat.zero_le _, rfl⟩ ?_ ?_
  · exact ye [2, 3] rfl rfl (by decide) (.cons rfl rfl rfl rfl (z5 rfl) (.cons rfl rfl rfl rfl (z5 rfl) .nil)) (by repeat' first | exact zj | refine zZ ?_ ?_ | exact zp | exact le_refl rfl | exact zk rfl rfl | exact zx rfl)
  · rintro ⟨i, hi, hq⟩
    repeat' first | refine zK ?_ | refine zA ?_ | refine zP [] ?_ | (refine isA ?_; refine zd rfl ?_) | (refine isL ?_; refine zU rfl (by kernel_rfl) rfl rfl ?_) | (refine zb rfl ?_; refine zT rfl (by kernel_rfl) rfl rfl ?_) | refine zD ?_ | refine zB _ rfl (by kernel_rfl) ?_ | refine zV rfl ?_ | refine zW rfl ?_ | refine zC ?_ | with_reducible refine zN ?_ | refine zH ?_ | refine zI ?_ | (with_reducible first | refine zL ?_ | refine zM ?_ | refine zE ?_ | refine zG ?_ | refine zF ?_) | refine zO ?_
    refine zh rfl (fun h => ?_) (fun h => ?_)
    · have hlt : i < 3 := by have := of_decide_eq_true h; simp only at this; omega
      obtain ⟨a, ha⟩ : ∃ z, (rwN x)[i]? = some z := ⟨_, List.getElem?_eq_getElem hlt⟩
      obtain ⟨b, hb⟩ : ∃ z, (rwN y)[i]? = some z := ⟨_, List.getElem?_eq_getElem hlt⟩
      rw [cl ha hb] at hq
      repeat' first | refine zK ?_ | refine zA ?_ | refine zP [] ?_ | (refine isA ?_; refine zd rfl ?_) | (refine isL ?_; refine zU rfl (by kernel_rfl) rfl rfl ?_) | (refine zb rfl ?_; refine zT rfl (by kernel_rfl) rfl rfl ?_) | (refine yB (x := .tmp 26) ?_; refine zc rfl (sL (t := xf) (xs := rwN x) rfl rfl rfl rfl rfl (Int.natCast_nonneg i) (by simp only; show (i : Int) < 3; omega)) rfl ?_) | (refine yA (x := .tmp 26) rfl ?_; refine zY rfl (by kernel_rfl) rfl (sL (t := xf) (xs := rwN x) rfl rfl rfl rfl rfl (Int.natCast_nonneg i) (by simp only; show (i : Int) < 3; omega)) rfl ?_) | (refine yB (x := .tmp 30) ?_; refine zc rfl (sL (t := xf) (xs := rwN y) rfl rfl rfl rfl rfl (Int.natCast_nonneg i) (by simp only; show (i : Int) < 3; omega)) rfl ?_) | (refine yA (x := .tmp 30) rfl ?_; refine zY rfl (by kernel_rfl) rfl (sL (t := xf) (xs := rwN y) rfl rfl rfl rfl rfl (Int.natCast_nonneg i) (by simp only; show (i : Int) < 3; omega)) rfl ?_) | (refine xe (x := .tmp 28) ?_; refine zc rfl (nb (T := xf) (i := i) (off := 0) (xs := rwN x) (z := a) rfl rfl rfl ha rfl) rfl ?_) | (refine xi (x := .tmp 28) rfl ?_; refine zY rfl (by kernel_rfl) rfl (nb (T := xf) (i := i) (off := 0) (xs := rwN x) (z := a) rfl rfl rfl ha rfl) rfl ?_) | (refine xe (x := .tmp 32) ?_; refine zc rfl (nb (T := xf) (i := i) (off := 0) (xs := rwN y) (z := b) rfl rfl rfl hb rfl) rfl ?_) | (refine xi (x := .tmp 32) rfl ?_; refine zY rfl (by kernel_rfl) rfl (nb (T := xf) (i := i) (off := 0) (xs := rwN y) (z := b) rfl rfl rfl hb rfl) rfl ?_) | refine zD ?_ | refine zB _ rfl (by kernel_rfl) ?_ | refine zV rfl ?_ | refine zW rfl ?_ | refine zC ?_ | with_reducible refine zN ?_ | refine zH ?_ | refine zI ?_ | (with_reducible first | refine zL ?_ | refine zM ?_ | refine zE ?_ | refine zG ?_ | refine zF ?_) | refine zO ?_
      refine zh rfl (fun h1 => ?_) (fun h1 => ?_)
      · rw [h1, cond_true] at hq
        repeat' first | refine zK ?_ | refine zA ?_ | refine zP [] ?_ | (refine isA ?_; refine zd rfl ?_) | (refine isL ?_; refine zU rfl (by kernel_rfl) rfl rfl ?_) | (refine zb rfl ?_; refine zT rfl (by kernel_rfl) rfl rfl ?_) | exact yG rfl rfl (congrArg I hq) | refine zD ?_ | refine zB _ rfl (by kernel_rfl) ?_ | refine zV rfl ?_ | refine zW rfl ?_ | refine zC ?_ | with_reducible refine zN ?_ | refine zH ?_ | refine zI ?_ | (with_reducible first | refine zL ?_ | refine zM ?_ | refine zE ?_ | refine zG ?_ | refine zF ?_) | refine zO ?_
      rw [h1, cond_false] at hq
      repeat' first | refine zK ?_ | refine zA ?_ | refine zP [] ?_ | (refine isA ?_; refine zd rfl ?_) | (refine isL ?_; refine zU rfl (by kernel_rfl) rfl rfl ?_) | (refine zb rfl ?_; refine zT rfl (by kernel_rfl) rfl rfl ?_) | (refine yB (x := .tmp 35) ?_; refine zc rfl (sL (t := xf) (xs := rwN x) rfl rfl rfl rfl rfl (Int.natCast_nonneg i) (by simp only; show (i : Int) < 3; omega)) rfl ?_) | (refine yA (x := .tmp 35) rfl ?_; refine zY rfl (by kernel_rfl) rfl (sL (t := xf) (xs := rwN x) rfl rfl rfl rfl rfl (Int.natCast_nonneg i) (by simp only; show (i : Int) < 3; omega)) rfl ?_) | (refine yB (x := .tmp 39) ?_; refine zc rfl (sL (t := xf) (xs := rwN y) rfl rfl rfl rfl rfl (Int.natCast_nonneg i) (by simp only; show (i : Int) < 3; omega)) rfl ?_) | (refine yA (x := .tmp 39) rfl ?_; refine zY rfl (by kernel_rfl) rfl (sL (t := xf) (xs := rwN y) rfl rfl rfl rfl rfl (Int.natCast_nonneg i) (by simp only; show (i : Int) < 3; omega)) rfl ?_) | (refine xe (x := .tmp 37) ?_; refine zc rfl (nb (T := xf) (i := i) (off := 0) (xs := rwN x) (z := a) rfl rfl rfl ha rfl) rfl ?_) | (refine xi (x := .tmp 37) rfl ?_; refine zY rfl (by kernel_rfl) rfl (nb (T := xf) (i := i) (off := 0) (xs := rwN x) (z := a) rfl rfl rfl ha rfl) rfl ?_) | (refine xe (x := .tmp 41) ?_; refine zc rfl (nb (T := xf) (i := i) (off := 0) (xs := rwN y) (z := b) rfl rfl rfl hb rfl) rfl ?_) | (refine xi (x := .tmp 41) rfl ?_; refine zY rfl (by kernel_rfl) rfl (nb (T := xf) (i := i) (off := 0) (xs := rwN y) (z := b) rfl rfl rfl hb rfl) rfl ?_) | refine zD ?_ | refine zB _ rfl (by kernel_rfl) ?_ | refine zV rfl ?_ | refine zW rfl ?_ | refine zC ?_ | with_reducible refine zN ?_ | refine zH ?_ | refine zI ?_ | (with_reducible first | refine zL ?_ | refine zM ?_ | refine zE ?_ | refine zG ?_ | refine zF ?_) | refine zO ?_
      refine zh rfl (fun h2 => ?_) (fun h2 => ?_)
      · rw [h2, cond_true] at hq
        repeat' first | refine zK ?_ | refine zA ?_ | refine zP [] ?_ | (refine isA ?_; refine zd rfl ?_) | (refine isL ?_; refine zU rfl (by kernel_rfl) rfl rfl ?_) | (refine zb rfl ?_; refine zT rfl (by kernel_rfl) rfl rfl ?_) | exact yG rfl rfl (congrArg I hq) | refine zD ?_ | refine zB _ rfl (by kernel_rfl) ?_ | refine zV rfl ?_ | refine zW rfl ?_ | refine zC ?_ | with_reducible refine zN ?_ | refine zH ?_ | refine zI ?_ | (with_reducible first | refine zL ?_ | refine zM ?_ | refine zE ?_ | refine zG ?_ | refine zF ?_) | refine zO ?_
      rw [h2, cond_false] at hq
      repeat' first | refine zK ?_ | refine zA ?_ | refine zP [] ?_ | (refine isA ?_; refine zd rfl ?_) | (refine isL ?_; refine zU rfl (by kernel_rfl) rfl rfl ?_) | (refine zb rfl ?_; refine zT rfl (by kernel_rfl) rfl rfl ?_) | refine zD ?_ | refine zB _ rfl (by kernel_rfl) ?_ | refine zV rfl ?_ | refine zW rfl ?_ | refine zC ?_ | with_reducible refine zN ?_ | refine zH ?_ | refine zI ?_ | (with_reducible first | refine zL ?_ | refine zM ?_ | refine zE ?_ | refine zG ?_ | refine zF ?_) | refine zO ?_
      refine ⟨⟨i + 1, hlt, hq⟩, by simp only; omega, ?_⟩
      exact ye [0, 1] rfl rfl (by decide) (.cons rfl rfl rfl rfl (z5 rfl) (.cons rfl rfl rfl rfl (z5 rfl) .nil)) (by
        repeat' first | exact zj | refine zZ ?_ ?_ | exact zp | exact le_refl rfl | exact zk rfl rfl | exact xZ hlt (by omega))
    · have hge : i = 3 := by have := of_decide_eq_false h; simp only at this; omega
      subst hge
      repeat' first | refine zK ?_ | refine zA ?_ | refine zP [] ?_ | (refine isA ?_; refine zd rfl ?_) | (refine isL ?_; refine zU rfl (by kernel_rfl) rfl rfl ?_) | (refine zb rfl ?_; refine zT rfl (by kernel_rfl) rfl rfl ?_) | exact yG rfl rfl (congrArg I hq) | refine zD ?_ | refine zB _ rfl (by kernel_rfl) ?_ | refine zV rfl ?_ | refine zW rfl ?_ | refine zC ?_ | with_reducible refine zN ?_ | refine zH ?_ | refine zI ?_ | (with_reducible first | refine zL ?_ | refine zM ?_ | refine zE ?_ | refine zG ?_ | refine zF ?_) | refine zO ?_
def mgV : List Rw → List Rw → List Rw
  | [], ys => ys
  | x :: xs, [] => x :: xs
  | x :: xs, y :: ys => cond (decide (yu x y ≤ 0)) (x :: mgV xs (y :: ys)) (y :: mgV (x :: xs) ys)
termination_by xs ys => xs.length + ys.length
theorem uK (ys : List Rw) : mgV [] ys = ys := by rw [mgV]
theorem tP (xs : List Rw) : mgV xs [] = xs := by cases xs <;> rw [mgV]
theorem lD {x y : Rw} {xs ys : List Rw} (h : decide (yu x y ≤ 0) = true) : mgV (x :: xs) (y :: ys) = x :: mgV xs (y :: ys) := by rw [mgV, h, cond_true]
theorem lE {x y : Rw} {xs ys : List Rw} (h : decide (yu x y ≤ 0) = false) : mgV (x :: xs) (y :: ys) = y :: mgV (x :: xs) ys := by rw [mgV, h, cond_false]
theorem tl : ∀ (xs ys : List Rw), (mgV xs ys).length = xs.length + ys.length
  | [], ys => by rw [uK]; simp
  | x :: xs, [] => by rw [tP]; simp
  | x :: xs, y :: ys => by
    cases h : decide (yu x y ≤ 0) with
    | true => rw [lD h, List.length_cons, tl xs (y :: ys)]; simp; omega
    | false => rw [lE h, List.length_cons, tl (x :: xs) ys]; simp; omega
termination_by xs ys => xs.length + ys.length
theorem mgA1 {a b : List Rw} {i k : Nat} {x : Rw} (hx : a[i]? = some x) (hk : b.length ≤ k) : mgV (a.drop i) (b.drop k) = x :: mgV (a.drop (i + 1)) (b.drop k) := by
  rw [yI hx, List.drop_of_length_le hk, tP, tP]
theorem mgA2 {a b : List Rw} {i k : Nat} {x y : Rw} (hx : a[i]? = some x) (hy : b[k]? = some y) (h : decide (yu x y ≤ 0) = true) : mgV (a.drop i) (b.drop k) = x :: mgV (a.drop (i + 1)) (b.drop k) := by
  rw [yI hx, yI hy, lD h]
theorem mgB1 {a b : List Rw} {i k : Nat} {x y : Rw} (hx : a[i]? = some x) (hy : b[k]? = some y) (h : decide (yu x y ≤ 0) = false) : mgV (a.drop i) (b.drop k) = y :: mgV (a.drop i) (b.drop (k + 1)) := by
  rw [yI hx, yI hy, lE h]
theorem mgB2 {a b : List Rw} {i k : Nat} {y : Rw} (hy : b[k]? = some y) (hi : a.length ≤ i) : mgV (a.drop i) (b.drop k) = y :: mgV (a.drop i) (b.drop (k + 1)) := by
  rw [yI hy, List.drop_of_length_le hi, uK, uK]
theorem d7 (a b : List Rw) (h1 : a.length ≤ 100000000) (h2 : b.length ≤ 100000000) : zz Go.Proofs.Try.prog 87 [rwL a, rwL b] [] (.sl 0 0 (mgV a b).length) [rwR (mgV a b)] false := by
  refine zw [4] Go.Proofs.Try.func87 rfl rfl ?_
  simp only [Go.Proofs.Try.ntmps87, List.length_cons, List.length_nil, Nat.reduceAdd, Nat.reduceSub, List.replicate_succ, List.replicate_zero, List.cons_append, List.nil_append]
  repeat' first | refine zK ?_ | refine zA ?_ | refine zP [] ?_ | (refine isA ?_; refine zd rfl ?_) | (refine isL ?_; refine zU rfl (by kernel_rfl) rfl rfl ?_) | (refine zb rfl ?_; refine zT rfl (by kernel_rfl) rfl rfl ?_) | refine zD ?_ | refine zB _ rfl (by kernel_rfl) ?_ | refine zV rfl ?_ | refine zW rfl ?_ | refine zC ?_ | with_reducible refine zN ?_ | refine zH ?_ | refine zI ?_ | (with_reducible first | refine zL ?_ | refine zM ?_ | refine zE ?_ | refine zG ?_ | refine zF ?_) | refine zO ?_
  refine z9 (α := { p : Nat × Nat × List Rw // p.1 ≤ a.length ∧ p.2.1 ≤ b.length ∧ p.2.2.length = p.1 + p.2.1 ∧ p.2.2 ++ mgV (a.drop p.1) (b.drop p.2.1) = mgV a b }) (fun p => ⟨((rwL a) :: (rwL b) :: .any :: .any :: .any :: (.sl 0 0 p.1.2.2.length) :: (I p.1.1) :: (I p.1.2.1) :: .any :: .any :: .any :: .any :: .any :: .any :: .any :: .any :: .any :: .any :: .any :: .any :: .any :: .any :: .any :: .any :: .any :: .any :: .any :: .any :: .any :: .any :: .any :: .any :: .any :: .any :: .any :: .any :: .any :: .any :: .any :: .any :: .any :: .any :: .any :: .any :: .any :: .any :: .any :: .any :: .any :: .any :: .any :: .any :: .any :: .any :: .any :: .any :: .any :: .any :: .any :: .any :: []), [rwR p.1.2.2], 0⟩) (fun p => a.length + b.length - p.1.1 - p.1.2.1) ⟨(0, 0, []), Nat.zero_le _, Nat.zero_le _, rfl, rfl⟩ ?_ ?_
  · exact ye [0] rfl rfl (by decide) (.cons rfl rfl rfl rfl (zX (zJ _ _)) .nil) (by repeat' first | exact zj | refine zZ ?_ ?_ | exact zp | exact le_refl rfl | exact zk rfl rfl | exact zx rfl)
  · rintro ⟨⟨i, k, out⟩, hi, hk, ho, hq⟩
    simp only at hi hk ho hq
    repeat' first | refine zK ?_ | refine zA ?_ | refine zP [] ?_ | (refine isA ?_; refine zd rfl ?_) | (refine isL ?_; refine zU rfl (by kernel_rfl) rfl rfl ?_) | (refine zb rfl ?_; refine zT rfl (by kernel_rfl) rfl rfl ?_) | refine zD ?_ | refine zB _ rfl (by kernel_rfl) ?_ | refine zV rfl ?_ | refine zW rfl ?_ | refine zC ?_ | with_reducible refine zN ?_ | refine zH ?_ | refine zI ?_ | (with_reducible first | refine zL ?_ | refine zM ?_ | refine zE ?_ | refine zG ?_ | refine zF ?_) | refine zO ?_
    refine yW rfl rfl (fun p1 => ?_) (fun p1 => ?_)
    · have q1 : i < a.length := by have := of_decide_eq_true p1; simp only at this; omega
      obtain ⟨x, hx⟩ : ∃ z, a[i]? = some z := ⟨_, List.getElem?_eq_getElem q1⟩
      repeat' first | refine zK ?_ | refine zA ?_ | refine zP [] ?_ | (refine isA ?_; refine zd rfl ?_) | (refine isL ?_; refine zU rfl (by kernel_rfl) rfl rfl ?_) | (refine zb rfl ?_; refine zT rfl (by kernel_rfl) rfl rfl ?_) | refine zD ?_ | refine zB _ rfl (by kernel_rfl) ?_ | refine zV rfl ?_ | refine zW rfl ?_ | refine zC ?_ | with_reducible refine zN ?_ | refine zH ?_ | refine zI ?_ | (with_reducible first | refine zL ?_ | refine zM ?_ | refine zE ?_ | refine zG ?_ | refine zF ?_) | refine zO ?_
      refine yK rfl rfl rfl rfl (fun p2 => ?_) (fun p2 => ?_)
      · have q2 : b.length ≤ k := by have := of_decide_eq_true p2; simp only at this; omega
        repeat' first | refine zK ?_ | refine zA ?_ | refine zP [] ?_ | (refine isA ?_; refine zd rfl ?_) | (refine isL ?_; refine zU rfl (by kernel_rfl) rfl rfl ?_) | (refine zb rfl ?_; refine zT rfl (by kernel_rfl) rfl rfl ?_) | (refine yB (x := .tmp 42) ?_; refine zc rfl (z6 (t := rwT) (z := x) rfl rfl rfl rfl (Int.natCast_nonneg i) hx) rfl ?_) | (refine yA (x := .tmp 42) rfl ?_; refine zY rfl (by kernel_rfl) rfl (z6 (t := rwT) (z := x) rfl rfl rfl rfl (Int.natCast_nonneg i) hx) rfl ?_) | (refine xR ?_; refine zc rfl (yV (t := rwT) (xs := out) (ys := [x]) rfl rfl rfl rfl (xc rfl rfl rfl rfl) (by simp; omega) rfl) rfl ?_) | (refine xC rfl ?_; refine zY rfl (by kernel_rfl) rfl (yV (t := rwT) (xs := out) (ys := [x]) rfl rfl rfl rfl (xc rfl rfl rfl rfl) (by simp; omega) rfl) rfl ?_) | refine zD ?_ | refine zB _ rfl (by kernel_rfl) ?_ | refine zV rfl ?_ | refine zW rfl ?_ | refine zC ?_ | with_reducible refine zN ?_ | refine zH ?_ | refine zI ?_ | (with_reducible first | refine zL ?_ | refine zM ?_ | refine zE ?_ | refine zG ?_ | refine zF ?_) | refine zO ?_
        refine ⟨⟨(i + 1, k, out ++ [x]), by simp only; omega, by simp only; omega, by simp only [List.length_append, List.length_singleton]; omega, by simp only [List.append_assoc, List.singleton_append]; rw [← hq, mgA1 hx q2]⟩, by simp only; omega, ?_⟩
        exact ye [2] rfl rfl (by decide) (.cons rfl rfl rfl rfl (zX (zJ _ _)) .nil) (by
            repeat' first | exact zj | refine zZ ?_ ?_ | exact zp | exact le_refl rfl | exact zk rfl rfl | exact zk rfl (by simp) | exact xZ (n := a.length) (by omega) (by omega) | exact xZ (n := b.length) (by omega) (by omega))
      · have q2 : k < b.length := by have := of_decide_eq_false p2; simp only at this; omega
        obtain ⟨y, hy⟩ : ∃ z, b[k]? = some z := ⟨_, List.getElem?_eq_getElem q2⟩
        repeat' first | refine zK ?_ | refine zA ?_ | refine zP [] ?_ | (refine isA ?_; refine zd rfl ?_) | (refine isL ?_; refine zU rfl (by kernel_rfl) rfl rfl ?_) | (refine zb rfl ?_; refine zT rfl (by kernel_rfl) rfl rfl ?_) | refine zD ?_ | refine zB _ rfl (by kernel_rfl) ?_ | refine zV rfl ?_ | refine zW rfl ?_ | refine zC ?_ | with_reducible refine zN ?_ | refine zH ?_ | refine zI ?_ | (with_reducible first | refine zL ?_ | refine zM ?_ | refine zE ?_ | refine zG ?_ | refine zF ?_) | refine zO ?_
        refine yK rfl rfl rfl rfl (fun _ => ?_) (fun k => absurd (of_decide_eq_false k) (by simp only; omega))
        repeat' first | refine zK ?_ | refine zA ?_ | refine zP [] ?_ | (refine isA ?_; refine zd rfl ?_) | (refine isL ?_; refine zU rfl (by kernel_rfl) rfl rfl ?_) | (refine zb rfl ?_; refine zT rfl (by kernel_rfl) rfl rfl ?_) | (refine yB (x := .tmp 29) ?_; refine zc rfl (z6 (t := rwT) (z := x) rfl rfl rfl rfl (Int.natCast_nonneg i) hx) rfl ?_) | (refine yA (x := .tmp 29) rfl ?_; refine zY rfl (by kernel_rfl) rfl (z6 (t := rwT) (z := x) rfl rfl rfl rfl (Int.natCast_nonneg i) hx) rfl ?_) | (refine yB (x := .tmp 33) ?_; refine zc rfl (z6 (t := rwT) (z := y) rfl rfl rfl rfl (Int.natCast_nonneg k) hy) rfl ?_) | (refine yA (x := .tmp 33) rfl ?_; refine zY rfl (by kernel_rfl) rfl (z6 (t := rwT) (z := y) rfl rfl rfl rfl (Int.natCast_nonneg k) hy) rfl ?_) | (refine zu 68 ?_; refine zc rfl (zQ rfl (xz x y) (.cons (.same rfl) (.cons (.same rfl) .nil)) rfl) rfl ?_) | (refine zv 68 rfl ?_; refine zY rfl (by kernel_rfl) rfl (zQ rfl (xz x y) (.cons (.same rfl) (.cons (.same rfl) .nil)) rfl) rfl ?_) | refine zD ?_ | refine zB _ rfl (by kernel_rfl) ?_ | refine zV rfl ?_ | refine zW rfl ?_ | refine zC ?_ | with_reducible refine zN ?_ | refine zH ?_ | refine zI ?_ | (with_reducible first | refine zL ?_ | refine zM ?_ | refine zE ?_ | refine zG ?_ | refine zF ?_) | refine zO ?_
        refine zh rfl (fun p3 => ?_) (fun p3 => ?_)
        · skip
          repeat' first | refine zK ?_ | refine zA ?_ | refine zP [] ?_ | (refine isA ?_; refine zd rfl ?_) | (refine isL ?_; refine zU rfl (by kernel_rfl) rfl rfl ?_) | (refine zb rfl ?_; refine zT rfl (by kernel_rfl) rfl rfl ?_) | (refine yB (x := .tmp 42) ?_; refine zc rfl (z6 (t := rwT) (z := x) rfl rfl rfl rfl (Int.natCast_nonneg i) hx) rfl ?_) | (refine yA (x := .tmp 42) rfl ?_; refine zY rfl (by kernel_rfl) rfl (z6 (t := rwT) (z := x) rfl rfl rfl rfl (Int.natCast_nonneg i) hx) rfl ?_) | (refine xR ?_; refine zc rfl (yV (t := rwT) (xs := out) (ys := [x]) rfl rfl rfl rfl (xc rfl rfl rfl rfl) (by simp; omega) rfl) rfl ?_) | (refine xC rfl ?_; refine zY rfl (by kernel_rfl) rfl (yV (t := rwT) (xs := out) (ys := [x]) rfl rfl rfl rfl (xc rfl rfl rfl rfl) (by simp; omega) rfl) rfl ?_) | refine zD ?_ | refine zB _ rfl (by kernel_rfl) ?_ | refine zV rfl ?_ | refine zW rfl ?_ | refine zC ?_ | with_reducible refine zN ?_ | refine zH ?_ | refine zI ?_ | (with_reducible first | refine zL ?_ | refine zM ?_ | refine zE ?_ | refine zG ?_ | refine zF ?_) | refine zO ?_
          refine ⟨⟨(i + 1, k, out ++ [x]), by simp only; omega, by simp only; omega, by simp only [List.length_append, List.length_singleton]; omega, by simp only [List.append_assoc, List.singleton_append]; rw [← hq, mgA2 hx hy p3]⟩, by simp only; omega, ?_⟩
          exact ye [2] rfl rfl (by decide) (.cons rfl rfl rfl rfl (zX (zJ _ _)) .nil) (by
              repeat' first | exact zj | refine zZ ?_ ?_ | exact zp | exact le_refl rfl | exact zk rfl rfl | exact zk rfl (by simp) | exact xZ (n := a.length) (by omega) (by omega) | exact xZ (n := b.length) (by omega) (by omega))
        · skip
          repeat' first | refine zK ?_ | refine zA ?_ | refine zP [] ?_ | (refine isA ?_; refine zd rfl ?_) | (refine isL ?_; refine zU rfl (by kernel_rfl) rfl rfl ?_) | (refine zb rfl ?_; refine zT rfl (by kernel_rfl) rfl rfl ?_) | (refine yB (x := .tmp 51) ?_; refine zc rfl (z6 (t := rwT) (z := y) rfl rfl rfl rfl (Int.natCast_nonneg k) hy) rfl ?_) | (refine yA (x := .tmp 51) rfl ?_; refine zY rfl (by kernel_rfl) rfl (z6 (t := rwT) (z := y) rfl rfl rfl rfl (Int.natCast_nonneg k) hy) rfl ?_) | (refine xR ?_; refine zc rfl (yV (t := rwT) (xs := out) (ys := [y]) rfl rfl rfl rfl (xc rfl rfl rfl rfl) (by simp; omega) rfl) rfl ?_) | (refine xC rfl ?_; refine zY rfl (by kernel_rfl) rfl (yV (t := rwT) (xs := out) (ys := [y]) rfl rfl rfl rfl (xc rfl rfl rfl rfl) (by simp; omega) rfl) rfl ?_) | refine zD ?_ | refine zB _ rfl (by kernel_rfl) ?_ | refine zV rfl ?_ | refine zW rfl ?_ | refine zC ?_ | with_reducible refine zN ?_ | refine zH ?_ | refine zI ?_ | (with_reducible first | refine zL ?_ | refine zM ?_ | refine zE ?_ | refine zG ?_ | refine zF ?_) | refine zO ?_
          refine ⟨⟨(i, k + 1, out ++ [y]), by simp only; omega, by simp only; omega, by simp only [List.length_append, List.length_singleton]; omega, by simp only [List.append_assoc, List.singleton_append]; rw [← hq, mgB1 hx hy p3]⟩, by simp only; omega, ?_⟩
          exact ye [2] rfl rfl (by decide) (.cons rfl rfl rfl rfl (zX (zJ _ _)) .nil) (by
              repeat' first | exact zj | refine zZ ?_ ?_ | exact zp | exact le_refl rfl | exact zk rfl rfl | exact zk rfl (by simp) | exact xZ (n := a.length) (by omega) (by omega) | exact xZ (n := b.length) (by omega) (by omega))
    · have q1 : a.length ≤ i := by have := of_decide_eq_false p1; simp only at this; omega
      repeat' first | refine zK ?_ | refine zA ?_ | refine zP [] ?_ | (refine isA ?_; refine zd rfl ?_) | (refine isL ?_; refine zU rfl (by kernel_rfl) rfl rfl ?_) | (refine zb rfl ?_; refine zT rfl (by kernel_rfl) rfl rfl ?_) | refine zD ?_ | refine zB _ rfl (by kernel_rfl) ?_ | refine zV rfl ?_ | refine zW rfl ?_ | refine zC ?_ | with_reducible refine zN ?_ | refine zH ?_ | refine zI ?_ | (with_reducible first | refine zL ?_ | refine zM ?_ | refine zE ?_ | refine zG ?_ | refine zF ?_) | refine zO ?_
      refine zh rfl (fun p2 => ?_) (fun p2 => ?_)
      · have q2 : k < b.length := by have := of_decide_eq_true p2; simp only at this; omega
        obtain ⟨y, hy⟩ : ∃ z, b[k]? = some z := ⟨_, List.getElem?_eq_getElem q2⟩
        repeat' first | refine zK ?_ | refine zA ?_ | refine zP [] ?_ | (refine isA ?_; refine zd rfl ?_) | (refine isL ?_; refine zU rfl (by kernel_rfl) rfl rfl ?_) | (refine zb rfl ?_; refine zT rfl (by kernel_rfl) rfl rfl ?_) | refine zD ?_ | refine zB _ rfl (by kernel_rfl) ?_ | refine zV rfl ?_ | refine zW rfl ?_ | refine zC ?_ | with_reducible refine zN ?_ | refine zH ?_ | refine zI ?_ | (with_reducible first | refine zL ?_ | refine zM ?_ | refine zE ?_ | refine zG ?_ | refine zF ?_) | refine zO ?_
        refine yK rfl rfl rfl rfl (fun k => absurd (of_decide_eq_true k) (by simp only; omega)) (fun _ => ?_)
        repeat' first | refine zK ?_ | refine zA ?_ | refine zP [] ?_ | (refine isA ?_; refine zd rfl ?_) | (refine isL ?_; refine zU rfl (by kernel_rfl) rfl rfl ?_) | (refine zb rfl ?_; refine zT rfl (by kernel_rfl) rfl rfl ?_) | refine zD ?_ | refine zB _ rfl (by kernel_rfl) ?_ | refine zV rfl ?_ | refine zW rfl ?_ | refine zC ?_ | with_reducible refine zN ?_ | refine zH ?_ | refine zI ?_ | (with_reducible first | refine zL ?_ | refine zM ?_ | refine zE ?_ | refine zG ?_ | refine zF ?_) | refine zO ?_
        refine yK rfl rfl rfl rfl (fun k => absurd (of_decide_eq_true k) (by simp only; omega)) (fun _ => ?_)
        repeat' first | refine zK ?_ | refine zA ?_ | refine zP [] ?_ | (refine isA ?_; refine zd rfl ?_) | (refine isL ?_; refine zU rfl (by kernel_rfl) rfl rfl ?_) | (refine zb rfl ?_; refine zT rfl (by kernel_rfl) rfl rfl ?_) | (refine yB (x := .tmp 51) ?_; refine zc rfl (z6 (t := rwT) (z := y) rfl rfl rfl rfl (Int.natCast_nonneg k) hy) rfl ?_) | (refine yA (x := .tmp 51) rfl ?_; refine zY rfl (by kernel_rfl) rfl (z6 (t := rwT) (z := y) rfl rfl rfl rfl (Int.natCast_nonneg k) hy) rfl ?_) | (refine xR ?_; refine zc rfl (yV (t := rwT) (xs := out) (ys := [y]) rfl rfl rfl rfl (xc rfl rfl rfl rfl) (by simp; omega) rfl) rfl ?_) | (refine xC rfl ?_; refine zY rfl (by kernel_rfl) rfl (yV (t := rwT) (xs := out) (ys := [y]) rfl rfl rfl rfl (xc rfl rfl rfl rfl) (by simp; omega) rfl) rfl ?_) | refine zD ?_ | refine zB _ rfl (by kernel_rfl) ?_ | refine zV rfl ?_ | refine zW rfl ?_ | refine zC ?_ | with_reducible refine zN ?_ | refine zH ?_ | refine zI ?_ | (with_reducible first | refine zL ?_ | refine zM ?_ | refine zE ?_ | refine zG ?_ | refine zF ?_) | refine zO ?_
        refine ⟨⟨(i, k + 1, out ++ [y]), by simp only; omega, by simp only; omega, by simp only [List.length_append, List.length_singleton]; omega, by simp only [List.append_assoc, List.singleton_append]; rw [← hq, mgB2 hy q1]⟩, by simp only; omega, ?_⟩
        exact ye [2] rfl rfl (by decide) (.cons rfl rfl rfl rfl (zX (zJ _ _)) .nil) (by
            repeat' first | exact zj | refine zZ ?_ ?_ | exact zp | exact le_refl rfl | exact zk rfl rfl | exact zk rfl (by simp) | exact xZ (n := a.length) (by omega) (by omega) | exact xZ (n := b.length) (by omega) (by omega))
      · have q2 : b.length ≤ k := by have := of_decide_eq_false p2; simp only at this; omega
        rw [List.drop_of_length_le q1, List.drop_of_length_le q2, uK, List.append_nil] at hq
        subst hq
        repeat' first | refine zK ?_ | refine zA ?_ | refine zP [] ?_ | (refine isA ?_; refine zd rfl ?_) | (refine isL ?_; refine zU rfl (by kernel_rfl) rfl rfl ?_) | (refine zb rfl ?_; refine zT rfl (by kernel_rfl) rfl rfl ?_) | exact kT (ty := rwT) rfl rfl rfl rfl rfl rfl (xt _) | refine zD ?_ | refine zB _ rfl (by kernel_rfl) ?_ | refine zV rfl ?_ | refine zW rfl ?_ | refine zC ?_ | with_reducible refine zN ?_ | refine zH ?_ | refine zI ?_ | (with_reducible first | refine zL ?_ | refine zM ?_ | refine zE ?_ | refine zG ?_ | refine zF ?_) | refine zO ?_
theorem kh (xs : List Rw) (k : Nat) : ((rwT.flat xs).drop (0 * 3)).take ((k - 0) * 3) = rwT.flat (xs.take k) := by
  rw [Nat.zero_mul, List.drop_zero, Nat.sub_zero, show k * 3 = k * rwT.n from rfl, tq]
theorem fO (xs : List Rw) (k : Nat) : ((rwT.flat xs).drop (k * 3)).take ((xs.length - k) * 3) = rwT.flat (xs.drop k) := by
  rw [show k * 3 = k * rwT.n from rfl, tt, show (xs.length - k) * 3 = (xs.length - k) * rwT.n from rfl, tq, List.take_of_length_le (by simp)]
theorem yj {o : Oper} {ρ : Operand → V} {H : List Reg} {x y : Operand} {xs : List Rw} {k : Nat} {kk : IntKind} (ho : o.op = .slice 24 x none (some y) none) (hx : ρ x = rwL xs) (hy : ρ y = .k (.int kk k)) (hk : k ≤ xs.length) : z8 Go.Proofs.Try.prog o ρ H (rwL (xs.take k)) H := by
  have := uB (P := Go.Proofs.Try.prog) (o := o) (ρ := ρ) (H := H) (l := 0) (h := k) ho hx (.no 0) (.yes _ hy) (yN rwT xs) (by omega) (by omega) (by omega)
  rw [Int.toNat_natCast, show Int.toNat 0 = 0 from rfl] at this
  rw [show rwL (xs.take k) = .lst (k - 0) (((rwT.flat xs).drop (0 * 3)).take ((k - 0) * 3)) by rw [kh]; simp [xv]; omega]
  exact this
theorem xl {o : Oper} {ρ : Operand → V} {H : List Reg} {x y : Operand} {xs : List Rw} {k : Nat} {j : Int} {kk : IntKind} (ho : o.op = .slice 24 x (some y) none none) (hx : ρ x = rwL xs) (hy : ρ y = .k (.int kk j)) (hj : j = (k : Int)) (hk : k ≤ xs.length) : z8 Go.Proofs.Try.prog o ρ H (rwL (xs.drop k)) H := by
  subst hj
  have := uB (P := Go.Proofs.Try.prog) (o := o) (ρ := ρ) (H := H) (l := k) (h := xs.length) ho hx (.yes _ hy) (.no _) (yN rwT xs) (by omega) (by omega) (by omega)
  rw [Int.toNat_natCast, Int.toNat_natCast] at this
  rw [show rwL (xs.drop k) = .lst (xs.length - k) (((rwT.flat xs).drop (k * 3)).take ((xs.length - k) * 3)) by rw [fO]; simp [xv]]
  exact this
theorem cA (a b : List Rw) (h1 : a.length ≤ 100000000) (h2 : b.length ≤ 100000000) : zz Go.Proofs.Try.prog 82 [rwL a, rwL b] [] (.sl 0 0 (mgV a b).length) [rwR (mgV a b)] false := by
  refine zw [4] Go.Proofs.Try.func82 rfl rfl ?_
  simp only [Go.Proofs.Try.ntmps82, List.length_cons, List.length_nil, Nat.reduceAdd, Nat.reduceSub, List.replicate_succ, List.replicate_zero, List.cons_append, List.nil_append]
  repeat' first | refine zK ?_ | refine zA ?_ | refine zP [] ?_ | (refine isA ?_; refine zd rfl ?_) | (refine isL ?_; refine zU rfl (by kernel_rfl) rfl rfl ?_) | (refine zb rfl ?_; refine zT rfl (by kernel_rfl) rfl rfl ?_) | refine zD ?_ | refine zB _ rfl (by kernel_rfl) ?_ | refine zV rfl ?_ | refine zW rfl ?_ | refine zC ?_ | with_reducible refine zN ?_ | refine zH ?_ | refine zI ?_ | (with_reducible first | refine zL ?_ | refine zM ?_ | refine zE ?_ | refine zG ?_ | refine zF ?_) | refine zO ?_
  refine z9 (α := { p : List Rw × List Rw × List Rw // p.2.2.length + p.1.length + p.2.1.length = a.length + b.length ∧ p.2.2 ++ mgV p.1 p.2.1 = mgV a b }) (fun p => ⟨[rwL p.1.1, rwL p.1.2.1, .any, .any, .any, .sl 0 0 p.1.2.2.length, .any, .any, .any, .any, .any, .any, .any, .any, .any, .any, .any, .any, .any, .any, .any, .any, .any, .any, .any, .any, .any, .any, .any, .any, .any, .any, .any, .any, .any, .any, .any, .any, .any, .any, .any, .any, .any, .any, .any, .any, .any, .any, .any, .any], [rwR p.1.2.2], 0⟩) (fun p => p.1.1.length + p.1.2.1.length) ⟨(a, b, []), by simp, rfl⟩ ?_ ?_
  · exact ye [0] rfl rfl (by decide) (.cons rfl rfl rfl rfl (zX (zJ _ _)) .nil) (by repeat' first | exact zj | refine zZ ?_ ?_ | exact zp | exact le_refl rfl | exact zk rfl rfl | exact zx rfl)
  · rintro ⟨⟨c, d, out⟩, ho, hq⟩
    simp only at ho hq
    repeat' first | refine zK ?_ | refine zA ?_ | refine zP [] ?_ | (refine isA ?_; refine zd rfl ?_) | (refine isL ?_; refine zU rfl (by kernel_rfl) rfl rfl ?_) | (refine zb rfl ?_; refine zT rfl (by kernel_rfl) rfl rfl ?_) | refine zD ?_ | refine zB _ rfl (by kernel_rfl) ?_ | refine zV rfl ?_ | refine zW rfl ?_ | refine zC ?_ | with_reducible refine zN ?_ | refine zH ?_ | refine zI ?_ | (with_reducible first | refine zL ?_ | refine zM ?_ | refine zE ?_ | refine zG ?_ | refine zF ?_) | refine zO ?_
    refine yW rfl rfl (fun p1 => ?_) (fun p1 => ?_)
    · have q1 : 1 ≤ c.length := by have := of_decide_eq_true p1; simp only at this; omega
      obtain ⟨x, hx⟩ : ∃ z, c[0]? = some z := ⟨_, List.getElem?_eq_getElem q1⟩
      repeat' first | refine zK ?_ | refine zA ?_ | refine zP [] ?_ | (refine isA ?_; refine zd rfl ?_) | (refine isL ?_; refine zU rfl (by kernel_rfl) rfl rfl ?_) | (refine zb rfl ?_; refine zT rfl (by kernel_rfl) rfl rfl ?_) | refine zD ?_ | refine zB _ rfl (by kernel_rfl) ?_ | refine zV rfl ?_ | refine zW rfl ?_ | refine zC ?_ | with_reducible refine zN ?_ | refine zH ?_ | refine zI ?_ | (with_reducible first | refine zL ?_ | refine zM ?_ | refine zE ?_ | refine zG ?_ | refine zF ?_) | refine zO ?_
      refine yK rfl rfl rfl rfl (fun p2 => ?_) (fun p2 => ?_)
      · have q2 : d.length ≤ 0 := by have := of_decide_eq_true p2; simp only at this; omega
        have e : mgV c d = x :: mgV (c.drop 1) d := mgA1 (i := 0) (k := 0) hx q2
        repeat' first | refine zK ?_ | refine zA ?_ | refine zP [] ?_ | (refine isA ?_; refine zd rfl ?_) | (refine isL ?_; refine zU rfl (by kernel_rfl) rfl rfl ?_) | (refine zb rfl ?_; refine zT rfl (by kernel_rfl) rfl rfl ?_) | (refine yB (x := .tmp 34) ?_; refine zc rfl (z6 (t := rwT) (z := x) rfl rfl rfl rfl (Int.le_refl 0) hx) rfl ?_) | (refine yA (x := .tmp 34) rfl ?_; refine zY rfl (by kernel_rfl) rfl (z6 (t := rwT) (z := x) rfl rfl rfl rfl (Int.le_refl 0) hx) rfl ?_) | (refine xR ?_; refine zc rfl (yV (t := rwT) (xs := out) (ys := [x]) rfl rfl rfl rfl (xc rfl rfl rfl rfl) (by simp; omega) rfl) rfl ?_) | (refine xC rfl ?_; refine zY rfl (by kernel_rfl) rfl (yV (t := rwT) (xs := out) (ys := [x]) rfl rfl rfl rfl (xc rfl rfl rfl rfl) (by simp; omega) rfl) rfl ?_) | (refine uN ?_; refine zc rfl (xl (k := 1) rfl rfl rfl rfl q1) rfl ?_) | (refine uM rfl ?_; refine zY rfl (by kernel_rfl) rfl (xl (k := 1) rfl rfl rfl rfl q1) rfl ?_) | refine zD ?_ | refine zB _ rfl (by kernel_rfl) ?_ | refine zV rfl ?_ | refine zW rfl ?_ | refine zC ?_ | with_reducible refine zN ?_ | refine zH ?_ | refine zI ?_ | (with_reducible first | refine zL ?_ | refine zM ?_ | refine zE ?_ | refine zG ?_ | refine zF ?_) | refine zO ?_
        refine ⟨⟨(c.drop 1, d, out ++ [x]), by simp only [List.length_append, List.length_singleton, List.length_drop]; omega, by simp only [List.append_assoc, List.singleton_append]; rw [← hq, e]⟩, by simp only [List.length_drop]; omega, ?_⟩
        exact ye [2] rfl rfl (by decide) (.cons rfl rfl rfl rfl (zX (zJ _ _)) .nil) (by
            repeat' first | exact zj | refine zZ ?_ ?_ | exact zp | exact le_refl rfl | exact zk rfl rfl | exact zk rfl (by simp))
      · have q2 : 1 ≤ d.length := by have := of_decide_eq_false p2; simp only at this; omega
        obtain ⟨y, hy⟩ : ∃ z, d[0]? = some z := ⟨_, List.getElem?_eq_getElem q2⟩
        repeat' first | refine zK ?_ | refine zA ?_ | refine zP [] ?_ | (refine isA ?_; refine zd rfl ?_) | (refine isL ?_; refine zU rfl (by kernel_rfl) rfl rfl ?_) | (refine zb rfl ?_; refine zT rfl (by kernel_rfl) rfl rfl ?_) | refine zD ?_ | refine zB _ rfl (by kernel_rfl) ?_ | refine zV rfl ?_ | refine zW rfl ?_ | refine zC ?_ | with_reducible refine zN ?_ | refine zH ?_ | refine zI ?_ | (with_reducible first | refine zL ?_ | refine zM ?_ | refine zE ?_ | refine zG ?_ | refine zF ?_) | refine zO ?_
        refine yK rfl rfl rfl rfl (fun _ => ?_) (fun k => absurd (of_decide_eq_false k) (by simp only; omega))
        repeat' first | refine zK ?_ | refine zA ?_ | refine zP [] ?_ | (refine isA ?_; refine zd rfl ?_) | (refine isL ?_; refine zU rfl (by kernel_rfl) rfl rfl ?_) | (refine zb rfl ?_; refine zT rfl (by kernel_rfl) rfl rfl ?_) | (refine yB (x := .tmp 23) ?_; refine zc rfl (z6 (t := rwT) (z := x) rfl rfl rfl rfl (Int.le_refl 0) hx) rfl ?_) | (refine yA (x := .tmp 23) rfl ?_; refine zY rfl (by kernel_rfl) rfl (z6 (t := rwT) (z := x) rfl rfl rfl rfl (Int.le_refl 0) hx) rfl ?_) | (refine yB (x := .tmp 26) ?_; refine zc rfl (z6 (t := rwT) (z := y) rfl rfl rfl rfl (Int.le_refl 0) hy) rfl ?_) | (refine yA (x := .tmp 26) rfl ?_; refine zY rfl (by kernel_rfl) rfl (z6 (t := rwT) (z := y) rfl rfl rfl rfl (Int.le_refl 0) hy) rfl ?_) | (refine zu 64 ?_; refine zc rfl (zQ rfl (xP x y) (.cons (.same rfl) (.cons (.same rfl) .nil)) rfl) rfl ?_) | (refine zv 64 rfl ?_; refine zY rfl (by kernel_rfl) rfl (zQ rfl (xP x y) (.cons (.same rfl) (.cons (.same rfl) .nil)) rfl) rfl ?_) | refine zD ?_ | refine zB _ rfl (by kernel_rfl) ?_ | refine zV rfl ?_ | refine zW rfl ?_ | refine zC ?_ | with_reducible refine zN ?_ | refine zH ?_ | refine zI ?_ | (with_reducible first | refine zL ?_ | refine zM ?_ | refine zE ?_ | refine zG ?_ | refine zF ?_) | refine zO ?_
        refine zh rfl (fun p3 => ?_) (fun p3 => ?_)
        · skip
          have e : mgV c d = x :: mgV (c.drop 1) d := mgA2 (i := 0) (k := 0) hx hy p3
          repeat' first | refine zK ?_ | refine zA ?_ | refine zP [] ?_ | (refine isA ?_; refine zd rfl ?_) | (refine isL ?_; refine zU rfl (by kernel_rfl) rfl rfl ?_) | (refine zb rfl ?_; refine zT rfl (by kernel_rfl) rfl rfl ?_) | (refine yB (x := .tmp 34) ?_; refine zc rfl (z6 (t := rwT) (z := x) rfl rfl rfl rfl (Int.le_refl 0) hx) rfl ?_) | (refine yA (x := .tmp 34) rfl ?_; refine zY rfl (by kernel_rfl) rfl (z6 (t := rwT) (z := x) rfl rfl rfl rfl (Int.le_refl 0) hx) rfl ?_) | (refine xR ?_; refine zc rfl (yV (t := rwT) (xs := out) (ys := [x]) rfl rfl rfl rfl (xc rfl rfl rfl rfl) (by simp; omega) rfl) rfl ?_) | (refine xC rfl ?_; refine zY rfl (by kernel_rfl) rfl (yV (t := rwT) (xs := out) (ys := [x]) rfl rfl rfl rfl (xc rfl rfl rfl rfl) (by simp; omega) rfl) rfl ?_) | (refine uN ?_; refine zc rfl (xl (k := 1) rfl rfl rfl rfl q1) rfl ?_) | (refine uM rfl ?_; refine zY rfl (by kernel_rfl) rfl (xl (k := 1) rfl rfl rfl rfl q1) rfl ?_) | refine zD ?_ | refine zB _ rfl (by kernel_rfl) ?_ | refine zV rfl ?_ | refine zW rfl ?_ | refine zC ?_ | with_reducible refine zN ?_ | refine zH ?_ | refine zI ?_ | (with_reducible first | refine zL ?_ | refine zM ?_ | refine zE ?_ | refine zG ?_ | refine zF ?_) | refine zO ?_
          refine ⟨⟨(c.drop 1, d, out ++ [x]), by simp only [List.length_append, List.length_singleton, List.length_drop]; omega, by simp only [List.append_assoc, List.singleton_append]; rw [← hq, e]⟩, by simp only [List.length_drop]; omega, ?_⟩
          exact ye [2] rfl rfl (by decide) (.cons rfl rfl rfl rfl (zX (zJ _ _)) .nil) (by
              repeat' first | exact zj | refine zZ ?_ ?_ | exact zp | exact le_refl rfl | exact zk rfl rfl | exact zk rfl (by simp))
        · skip
          have e : mgV c d = y :: mgV c (d.drop 1) := mgB1 (i := 0) (k := 0) hx hy p3
          repeat' first | refine zK ?_ | refine zA ?_ | refine zP [] ?_ | (refine isA ?_; refine zd rfl ?_) | (refine isL ?_; refine zU rfl (by kernel_rfl) rfl rfl ?_) | (refine zb rfl ?_; refine zT rfl (by kernel_rfl) rfl rfl ?_) | (refine yB (x := .tmp 42) ?_; refine zc rfl (z6 (t := rwT) (z := y) rfl rfl rfl rfl (Int.le_refl 0) hy) rfl ?_) | (refine yA (x := .tmp 42) rfl ?_; refine zY rfl (by kernel_rfl) rfl (z6 (t := rwT) (z := y) rfl rfl rfl rfl (Int.le_refl 0) hy) rfl ?_) | (refine xR ?_; refine zc rfl (yV (t := rwT) (xs := out) (ys := [y]) rfl rfl rfl rfl (xc rfl rfl rfl rfl) (by simp; omega) rfl) rfl ?_) | (refine xC rfl ?_; refine zY rfl (by kernel_rfl) rfl (yV (t := rwT) (xs := out) (ys := [y]) rfl rfl rfl rfl (xc rfl rfl rfl rfl) (by simp; omega) rfl) rfl ?_) | (refine uN ?_; refine zc rfl (xl (k := 1) rfl rfl rfl rfl q2) rfl ?_) | (refine uM rfl ?_; refine zY rfl (by kernel_rfl) rfl (xl (k := 1) rfl rfl rfl rfl q2) rfl ?_) | refine zD ?_ | refine zB _ rfl (by kernel_rfl) ?_ | refine zV rfl ?_ | refine zW rfl ?_ | refine zC ?_ | with_reducible refine zN ?_ | refine zH ?_ | refine zI ?_ | (with_reducible first | refine zL ?_ | refine zM ?_ | refine zE ?_ | refine zG ?_ | refine zF ?_) | refine zO ?_
          refine ⟨⟨(c, d.drop 1, out ++ [y]), by simp only [List.length_append, List.length_singleton, List.length_drop]; omega, by simp only [List.append_assoc, List.singleton_append]; rw [← hq, e]⟩, by simp only [List.length_drop]; omega, ?_⟩
          exact ye [2] rfl rfl (by decide) (.cons rfl rfl rfl rfl (zX (zJ _ _)) .nil) (by
              repeat' first | exact zj | refine zZ ?_ ?_ | exact zp | exact le_refl rfl | exact zk rfl rfl | exact zk rfl (by simp))
    · have q1 : c.length ≤ 0 := by have := of_decide_eq_false p1; simp only at this; omega
      repeat' first | refine zK ?_ | refine zA ?_ | refine zP [] ?_ | (refine isA ?_; refine zd rfl ?_) | (refine isL ?_; refine zU rfl (by kernel_rfl) rfl rfl ?_) | (refine zb rfl ?_; refine zT rfl (by kernel_rfl) rfl rfl ?_) | refine zD ?_ | refine zB _ rfl (by kernel_rfl) ?_ | refine zV rfl ?_ | refine zW rfl ?_ | refine zC ?_ | with_reducible refine zN ?_ | refine zH ?_ | refine zI ?_ | (with_reducible first | refine zL ?_ | refine zM ?_ | refine zE ?_ | refine zG ?_ | refine zF ?_) | refine zO ?_
      refine zh rfl (fun p2 => ?_) (fun p2 => ?_)
      · have q2 : 1 ≤ d.length := by have := of_decide_eq_true p2; simp only at this; omega
        obtain ⟨y, hy⟩ : ∃ z, d[0]? = some z := ⟨_, List.getElem?_eq_getElem q2⟩
        repeat' first | refine zK ?_ | refine zA ?_ | refine zP [] ?_ | (refine isA ?_; refine zd rfl ?_) | (refine isL ?_; refine zU rfl (by kernel_rfl) rfl rfl ?_) | (refine zb rfl ?_; refine zT rfl (by kernel_rfl) rfl rfl ?_) | refine zD ?_ | refine zB _ rfl (by kernel_rfl) ?_ | refine zV rfl ?_ | refine zW rfl ?_ | refine zC ?_ | with_reducible refine zN ?_ | refine zH ?_ | refine zI ?_ | (with_reducible first | refine zL ?_ | refine zM ?_ | refine zE ?_ | refine zG ?_ | refine zF ?_) | refine zO ?_
        refine yK rfl rfl rfl rfl (fun k => absurd (of_decide_eq_true k) (by simp only; omega)) (fun _ => ?_)
        repeat' first | refine zK ?_ | refine zA ?_ | refine zP [] ?_ | (refine isA ?_; refine zd rfl ?_) | (refine isL ?_; refine zU rfl (by kernel_rfl) rfl rfl ?_) | (refine zb rfl ?_; refine zT rfl (by kernel_rfl) rfl rfl ?_) | refine zD ?_ | refine zB _ rfl (by kernel_rfl) ?_ | refine zV rfl ?_ | refine zW rfl ?_ | refine zC ?_ | with_reducible refine zN ?_ | refine zH ?_ | refine zI ?_ | (with_reducible first | refine zL ?_ | refine zM ?_ | refine zE ?_ | refine zG ?_ | refine zF ?_) | refine zO ?_
        refine yK rfl rfl rfl rfl (fun k => absurd (of_decide_eq_true k) (by simp only; omega)) (fun _ => ?_)
        have e : mgV c d = y :: mgV c (d.drop 1) := mgB2 (i := 0) (k := 0) hy q1
        repeat' first | refine zK ?_ | refine zA ?_ | refine zP [] ?_ | (refine isA ?_; refine zd rfl ?_) | (refine isL ?_; refine zU rfl (by kernel_rfl) rfl rfl ?_) | (refine zb rfl ?_; refine zT rfl (by kernel_rfl) rfl rfl ?_) | (refine yB (x := .tmp 42) ?_; refine zc rfl (z6 (t := rwT) (z := y) rfl rfl rfl rfl (Int.le_refl 0) hy) rfl ?_) | (refine yA (x := .tmp 42) rfl ?_; refine zY rfl (by kernel_rfl) rfl (z6 (t := rwT) (z := y) rfl rfl rfl rfl (Int.le_refl 0) hy) rfl ?_) | (refine xR ?_; refine zc rfl (yV (t := rwT) (xs := out) (ys := [y]) rfl rfl rfl rfl (xc rfl rfl rfl rfl) (by simp; omega) rfl) rfl ?_) | (refine xC rfl ?_; refine zY rfl (by kernel_rfl) rfl (yV (t := rwT) (xs := out) (ys := [y]) rfl rfl rfl rfl (xc rfl rfl rfl rfl) (by simp; omega) rfl) rfl ?_) | (refine uN ?_; refine zc rfl (xl (k := 1) rfl rfl rfl rfl q2) rfl ?_) | (refine uM rfl ?_; refine zY rfl (by kernel_rfl) rfl (xl (k := 1) rfl rfl rfl rfl q2) rfl ?_) | refine zD ?_ | refine zB _ rfl (by kernel_rfl) ?_ | refine zV rfl ?_ | refine zW rfl ?_ | refine zC ?_ | with_reducible refine zN ?_ | refine zH ?_ | refine zI ?_ | (with_reducible first | refine zL ?_ | refine zM ?_ | refine zE ?_ | refine zG ?_ | refine zF ?_) | refine zO ?_
        refine ⟨⟨(c, d.drop 1, out ++ [y]), by simp only [List.length_append, List.length_singleton, List.length_drop]; omega, by simp only [List.append_assoc, List.singleton_append]; rw [← hq, e]⟩, by simp only [List.length_drop]; omega, ?_⟩
        exact ye [2] rfl rfl (by decide) (.cons rfl rfl rfl rfl (zX (zJ _ _)) .nil) (by
            repeat' first | exact zj | refine zZ ?_ ?_ | exact zp | exact le_refl rfl | exact zk rfl rfl | exact zk rfl (by simp))
      · have q2 : d.length ≤ 0 := by have := of_decide_eq_false p2; simp only at this; omega
        have c0 : c = [] := List.eq_nil_of_length_eq_zero (by omega)
        have d0 : d = [] := List.eq_nil_of_length_eq_zero (by omega)
        subst c0 d0
        rw [uK, List.append_nil] at hq
        subst hq
        repeat' first | refine zK ?_ | refine zA ?_ | refine zP [] ?_ | (refine isA ?_; refine zd rfl ?_) | (refine isL ?_; refine zU rfl (by kernel_rfl) rfl rfl ?_) | (refine zb rfl ?_; refine zT rfl (by kernel_rfl) rfl rfl ?_) | exact kT (ty := rwT) rfl rfl rfl rfl rfl rfl (xt _) | refine zD ?_ | refine zB _ rfl (by kernel_rfl) ?_ | refine zV rfl ?_ | refine zW rfl ?_ | refine zC ?_ | with_reducible refine zN ?_ | refine zH ?_ | refine zI ?_ | (with_reducible first | refine zL ?_ | refine zM ?_ | refine zE ?_ | refine zG ?_ | refine zF ?_) | refine zO ?_
end Go.Proofs.Ytojcojanokhnaaa.Ab
namespace Go.Proofs.Ytojcojanokhnaaa.Ab
open Go.RowKit
theorem vb {x y : Rw} : yu x y ≤ 0 ↔ x.a < y.a ∨ (x.a = y.a ∧ (x.b < y.b ∨ (x.b = y.b ∧ x.c ≤ y.c))) := by
  unfold yu rwN
  simp only [u9]
  rcases Int.lt_trichotomy x.a y.a with h | h | h
  · rw [decide_eq_true h]; simp only [cond_true]; constructor
    · intro _; exact Or.inl h
    · intro _; omega
  · rw [decide_eq_false (show ¬ x.a < y.a by omega), decide_eq_false (show ¬ y.a < x.a by omega)]
    simp only [cond_false]
    rcases Int.lt_trichotomy x.b y.b with k | k | k
    · rw [decide_eq_true k]; simp only [cond_true]; omega
    · rw [decide_eq_false (show ¬ x.b < y.b by omega), decide_eq_false (show ¬ y.b < x.b by omega)]
      simp only [cond_false]
      rcases Int.lt_trichotomy x.c y.c with m | m | m
      · rw [decide_eq_true m]; simp only [cond_true]; omega
      · rw [decide_eq_false (show ¬ x.c < y.c by omega), decide_eq_false (show ¬ y.c < x.c by omega)]
        simp only [cond_false]; omega
      · rw [decide_eq_false (show ¬ x.c < y.c by omega), decide_eq_true m]
        simp only [cond_false, cond_true]; omega
    · rw [decide_eq_false (show ¬ x.b < y.b by omega), decide_eq_true k]
      simp only [cond_false, cond_true]; omega
  · rw [decide_eq_false (show ¬ x.a < y.a by omega), decide_eq_true h]
    simp only [cond_false, cond_true]; omega
def leW (x y : Rw) : Prop := yu x y ≤ 0
theorem qC (x : Rw) : leW x x := vb.2 (by omega)
theorem xa {x y z : Rw} (h : leW x y) (k : leW y z) : leW x z := vb.2 (by have := vb.1 h; have := vb.1 k; omega)
theorem kR (x y : Rw) : leW x y ∨ leW y x := by
  rcases Int.lt_or_le 0 (yu x y) with h | h
  · right
    have : ¬ yu x y ≤ 0 := by omega
    rw [vb] at this
    exact vb.2 (by omega)
  · exact Or.inl h
theorem na {x y : Rw} (h : leW x y) (k : leW y x) : x = y := by
  have h1 := vb.1 h
  have h2 := vb.1 k
  cases x; cases y
  simp only at h1 h2
  congr <;> omega
theorem vD {x y : Rw} (h : ¬ leW x y) : leW y x := (kR x y).resolve_left h
theorem xh {x y : Rw} : yu x y < 0 ↔ ¬ leW y x := by
  have a1 := @vb x y
  have a2 := @vb y x
  constructor
  · intro h k
    have e := na (show leW x y from by show yu x y ≤ 0; omega) k
    subst e
    have : yu x x = 0 := by unfold yu rwN; simp [u9]
    omega
  · intro h
    have h1 : ¬ yu y x ≤ 0 := h
    rcases Int.lt_or_le (yu x y) 0 with q | q
    · exact q
    · exfalso
      have hx : leW x y := vD h
      have e : yu x y = 0 := by have : yu x y ≤ 0 := hx; omega
      unfold yu rwN at e
      simp only [u9] at e
      have h2 := mt a2.2 h1
      have h3 := a1.1 hx
      rcases Int.lt_trichotomy x.a y.a with m | m | m
      · rw [decide_eq_true m] at e; cases e
      · rw [decide_eq_false (show ¬ x.a < y.a by omega), decide_eq_false (show ¬ y.a < x.a by omega)] at e
        simp only [cond_false] at e
        rcases Int.lt_trichotomy x.b y.b with m2 | m2 | m2
        · rw [decide_eq_true m2] at e; cases e
        · rw [decide_eq_false (show ¬ x.b < y.b by omega), decide_eq_false (show ¬ y.b < x.b by omega)] at e
          simp only [cond_false] at e
          have m3 : x.c < y.c := by omega
          rw [decide_eq_true m3] at e; cases e
        · omega
      · omega
def Srt (xs : List Rw) : Prop := xs.Pairwise leW
theorem vp : ∀ {xs ys : List Rw}, Srt xs → Srt ys → xs.Perm ys → xs = ys
  | [], ys, _, _, hp => by rw [List.Perm.nil_eq hp]
  | x :: xs, [], _, _, hp => by cases hp.length_eq
  | x :: xs, y :: ys, hx, hy, hp => by
    have hx' := List.pairwise_cons.1 hx
    have hy' := List.pairwise_cons.1 hy
    have e : x = y := by
      have m1 : y ∈ x :: xs := hp.symm.mem_iff.1 (List.mem_cons_self ..)
      have m2 : x ∈ y :: ys := hp.mem_iff.1 (List.mem_cons_self ..)
      rcases List.mem_cons.1 m1 with h | h
      · exact h.symm
      · rcases List.mem_cons.1 m2 with k | k
        · exact k
        · exact na (hx'.1 y h) (hy'.1 x k)
    subst e
    rw [vp hx'.2 hy'.2 (List.Perm.cons_inv hp)]
def tR (x : Rw) : List Rw → List Rw
  | [] => [x]
  | y :: ys => cond (decide (yu y x ≤ 0)) (y :: tR x ys) (x :: y :: ys)
def yL (xs : List Rw) : List Rw := xs.foldl (fun o x => tR x o) []
theorem tQ (x : Rw) : ∀ ys : List Rw, (tR x ys).Perm (x :: ys)
  | [] => .refl _
  | y :: ys => by
    rw [tR]
    cases decide (yu y x ≤ 0) with
    | true => exact ((tQ x ys).cons y).trans (.swap _ _ _)
    | false => exact .refl _
theorem pQ (x : Rw) : ∀ {ys : List Rw}, Srt ys → Srt (tR x ys)
  | [], _ => List.pairwise_singleton _ _
  | y :: ys, h => by
    have h' := List.pairwise_cons.1 h
    rw [tR]
    cases hd : decide (yu y x ≤ 0) with
    | true =>
      refine List.pairwise_cons.2 ⟨fun z hz => ?_, pQ x h'.2⟩
      rcases List.mem_cons.1 ((tQ x ys).mem_iff.1 hz) with rfl | hz
      · exact (show yu y _ ≤ 0 from of_decide_eq_true hd)
      · exact h'.1 z hz
    | false =>
      have hle : leW x y := vD (show ¬ yu y x ≤ 0 from of_decide_eq_false hd)
      refine List.pairwise_cons.2 ⟨fun z hz => ?_, h⟩
      rcases List.mem_cons.1 hz with rfl | hz
      · exact hle
      · exact xa hle (h'.1 z hz)
theorem qe (xs : List Rw) (x : Rw) : yL (xs ++ [x]) = tR x (yL xs) := by simp [yL]
theorem pU : ∀ (xs o : List Rw), Srt o → Srt (xs.foldl (fun o x => tR x o) o) ∧ (xs.foldl (fun o x => tR x o) o).Perm (o ++ xs)
  | [], o, h => ⟨h, by simp⟩
  | x :: xs, o, h => by
    obtain ⟨q1, q2⟩ := pU xs (tR x o) (pQ x h)
    refine ⟨q1, q2.trans ?_⟩
    refine ((tQ x o).append_right xs).trans ?_
    exact List.perm_middle.symm
theorem xX (xs : List Rw) : Srt (yL xs) := (pU xs [] List.Pairwise.nil).1
theorem ya (xs : List Rw) : (yL xs).Perm xs := by
  have h := (pU xs [] List.Pairwise.nil).2
  rw [List.nil_append] at h
  exact h
theorem wm {xs ys : List Rw} (h : Srt ys) (hp : ys.Perm xs) : ys = yL xs := vp h (xX xs) (hp.trans (ya xs).symm)
theorem x4 (xs : List Rw) : (yL xs).length = xs.length := (ya xs).length_eq
end Go.Proofs.Ytojcojanokhnaaa.Ab
namespace Go.Proofs.Ytojcojanokhnaaa.Ab
open Go.RowKit
theorem uG {xs : List Rw} (h : Srt xs) {i j : Nat} {x y : Rw} (hij : i ≤ j) (hx : xs[i]? = some x) (hy : xs[j]? = some y) : leW x y := by
  rcases Nat.lt_or_eq_of_le hij with hlt | rfl
  · obtain ⟨h1, rfl⟩ := List.getElem?_eq_some_iff.1 hx
    obtain ⟨h2, rfl⟩ := List.getElem?_eq_some_iff.1 hy
    exact List.pairwise_iff_getElem.1 h i j h1 h2 hlt
  · rw [hx] at hy
    cases hy
    exact qC _
theorem mT {out : List Rw} {x : Rw} {k : Nat} (hs : Srt out) (hk : k ≤ out.length) (hB : ∀ j z, k ≤ j → out[j]? = some z → ¬ leW z x) (hA : ∀ z, 0 < k → out[k - 1]? = some z → leW z x) : out.take k ++ x :: out.drop k = tR x out := by
  have hA' : ∀ z ∈ out.take k, leW z x := fun z hz => by
    obtain ⟨j, hj⟩ := List.getElem?_of_mem hz
    have hlt : j < k := by
      have := (List.getElem?_eq_some_iff.1 hj).1
      simp at this
      omega
    rw [List.getElem?_take_of_lt hlt] at hj
    obtain ⟨y, hy⟩ : ∃ y, out[k - 1]? = some y := ⟨_, List.getElem?_eq_getElem (by omega)⟩
    exact xa (uG hs (show j ≤ k - 1 by omega) hj hy) (hA y (by omega) hy)
  have hB' : ∀ z ∈ out.drop k, leW x z := fun z hz => by
    obtain ⟨j, hj⟩ := List.getElem?_of_mem hz
    rw [List.getElem?_drop] at hj
    exact vD (hB (k + j) z (by omega) hj)
  refine vp ?_ (pQ x hs) ?_
  · have hs' : Srt (out.take k ++ out.drop k) := by rw [List.take_append_drop]; exact hs
    obtain ⟨q1, q2, q3⟩ := List.pairwise_append.1 hs'
    refine List.pairwise_append.2 ⟨q1, List.pairwise_cons.2 ⟨hB', q2⟩, fun a ha c hc => ?_⟩
    rcases List.mem_cons.1 hc with rfl | hc
    · exact hA' a ha
    · exact q3 a ha c hc
  · refine List.perm_middle.trans ?_
    rw [List.take_append_drop]
    exact (tQ x out).symm
theorem mu {H : List Reg} {h k off m : Nat} {xs : List Rw} (hH : H[h]? = some (rwR xs)) (hk : k ≤ xs.length) (ho : off = k) (hm : m = xs.length - k) : Src H (.sl h off m) (xs.drop k).length (rwT.flat (xs.drop k)) := by
  subst ho hm
  have q := Src.sl (H := H) (h := h) (off := off) (m := xs.length - off) hH (Nat.zero_le _) (by show (off + (xs.length - off)) * 3 ≤ (rwT.flat xs).length; rw [yN]; show _ ≤ xs.length * 3; omega)
  have e : ((rwR xs).cells.drop (off * (rwR xs).esz)).take ((xs.length - off) * (rwR xs).esz) = rwT.flat (xs.drop off) := fO xs off
  rw [e] at q
  rw [List.length_drop]
  exact q
theorem tF {H : List Reg} {h k off m : Nat} {xs : List Rw} (hH : H[h]? = some (rwR xs)) (hk : k ≤ xs.length) (ho : off = 0) (hm : m = k) : Src H (.sl h off m) (xs.take k).length (rwT.flat (xs.take k)) := by
  subst ho hm
  have q := Src.sl (H := H) (h := h) (off := 0) (m := m) hH (Nat.zero_le _) (by show (0 + m) * 3 ≤ (rwT.flat xs).length; rw [yN]; show _ ≤ xs.length * 3; omega)
  have e : ((rwR xs).cells.drop (0 * (rwR xs).esz)).take (m * (rwR xs).esz) = rwT.flat (xs.take m) := kh xs m
  rw [e] at q
  rw [List.length_take, Nat.min_eq_left hk]
  exact q
theorem sM {H : List Reg} {h : Nat} {xs : List Rw} (hH : H[h]? = some (rwR xs)) : Src H (.sl h 0 xs.length) xs.length (rwT.flat xs) := by
  have q := tF (k := xs.length) hH (Nat.le_refl _) rfl rfl
  rw [List.take_length] at q
  exact q
theorem pc (xs : List Rw) (hl : xs.length ≤ 100000000) : zz Go.Proofs.Try.prog 28 [rwL xs] [] (.sl 0 0 (yL xs).length) [rwR (yL xs)] false := by
  refine zw [2] Go.Proofs.Try.func28 rfl rfl ?_
  simp only [Go.Proofs.Try.ntmps28, List.length_cons, List.length_nil, Nat.reduceAdd, Nat.reduceSub, List.replicate_succ, List.replicate_zero, List.cons_append, List.nil_append]
  repeat' first | refine zK ?_ | refine zA ?_ | refine zP [] ?_ | (refine isA ?_; refine zd rfl ?_) | (refine isL ?_; refine zU rfl (by kernel_rfl) rfl rfl ?_) | (refine zb rfl ?_; refine zT rfl (by kernel_rfl) rfl rfl ?_) | refine zD ?_ | refine zB _ rfl (by kernel_rfl) ?_ | refine zV rfl ?_ | refine zW rfl ?_ | refine zC ?_ | with_reducible refine zN ?_ | refine zH ?_ | refine zI ?_ | (with_reducible first | refine zL ?_ | refine zM ?_ | refine zE ?_ | refine zG ?_ | refine zF ?_) | refine zO ?_
  refine z9 (α := { i : Nat // i ≤ xs.length }) (fun i => ⟨[rwL xs, .any, .any, .sl 0 0 (yL (xs.take i.1)).length, I i.1, .any, .any, .any, .any, .any, .any, .any, .any, .any, .any, .any, .any, .any, .any, .any, .any, .any, .any, .any, .any, .any, .any, .any, .any, .any, .any, .any, .any, .any, .any, .any, .any, .any, .any, .any, .any, .any, .any, .any, .any, .any, .any, .any, .any, .any], [rwR (yL (xs.take i.1))], 0⟩) (fun i => xs.length - i.1) ⟨0, Nat.zero_le _⟩ ?_ ?_
  · exact ye [0] rfl rfl (by decide) (.cons rfl rfl rfl rfl (zX (zJ _ _)) .nil) (by repeat' first | exact zj | refine zZ ?_ ?_ | exact zp | exact le_refl rfl | exact zk rfl rfl | exact zx rfl)
  · rintro ⟨i, hi⟩
    repeat' first | refine zK ?_ | refine zA ?_ | refine zP [] ?_ | (refine isA ?_; refine zd rfl ?_) | (refine isL ?_; refine zU rfl (by kernel_rfl) rfl rfl ?_) | (refine zb rfl ?_; refine zT rfl (by kernel_rfl) rfl rfl ?_) | refine zD ?_ | refine zB _ rfl (by kernel_rfl) ?_ | refine zV rfl ?_ | refine zW rfl ?_ | refine zC ?_ | with_reducible refine zN ?_ | refine zH ?_ | refine zI ?_ | (with_reducible first | refine zL ?_ | refine zM ?_ | refine zE ?_ | refine zG ?_ | refine zF ?_) | refine zO ?_
    refine zh rfl (fun h => ?_) (fun h => ?_)
    · have hlt : i < xs.length := by simpa using h
      obtain ⟨x, hx⟩ : ∃ z, xs[i]? = some z := ⟨_, List.getElem?_eq_getElem hlt⟩
      have e1 : yL (xs.take (i + 1)) = tR x (yL (xs.take i)) := by rw [List.take_add_one, hx]; exact qe _ _
      have hso := xX (xs.take i)
      have hol : (yL (xs.take i)).length = i := by rw [x4]; simp; omega
      generalize yL (xs.take i) = out at e1 hso hol
      repeat' first | refine zK ?_ | refine zA ?_ | refine zP [] ?_ | (refine isA ?_; refine zd rfl ?_) | (refine isL ?_; refine zU rfl (by kernel_rfl) rfl rfl ?_) | (refine zb rfl ?_; refine zT rfl (by kernel_rfl) rfl rfl ?_) | refine zD ?_ | refine zB _ rfl (by kernel_rfl) ?_ | refine zV rfl ?_ | refine zW rfl ?_ | refine zC ?_ | with_reducible refine zN ?_ | refine zH ?_ | refine zI ?_ | (with_reducible first | refine zL ?_ | refine zM ?_ | refine zE ?_ | refine zG ?_ | refine zF ?_) | refine zO ?_
      refine z9 (α := { k : Nat // k ≤ out.length ∧ ∀ j z, k ≤ j → out[j]? = some z → ¬ leW z x }) (fun k => ⟨[rwL xs, .any, .any, .sl 0 0 out.length, I i, I k.1, .any, .any, .any, .any, .any, .any, .any, .any, .any, .any, .any, .any, .any, .any, .any, .any, .any, .any, .any, .any, .any, .any, .any, .any, .any, .any, .any, .any, .any, .any, .any, .any, .any, .any, .any, .any, .any, .any, .any, .any, .any, .any, .any, .any], [rwR out], 0⟩) (fun k => k.1) ⟨out.length, Nat.le_refl _, fun j z hj hz => absurd (List.getElem?_eq_some_iff.1 hz).1 (by omega)⟩ ?_ ?_
      · exact ye [0] rfl rfl (by decide) (.cons rfl rfl rfl rfl (zX (zJ _ _)) .nil) (by repeat' first | exact zj | refine zZ ?_ ?_ | exact zp | exact le_refl rfl | exact zk rfl rfl | exact zx rfl)
      · rintro ⟨k, hk, hB⟩
        repeat' first | refine zK ?_ | refine zA ?_ | refine zP [] ?_ | (refine isA ?_; refine zd rfl ?_) | (refine isL ?_; refine zU rfl (by kernel_rfl) rfl rfl ?_) | (refine zb rfl ?_; refine zT rfl (by kernel_rfl) rfl rfl ?_) | refine zD ?_ | refine zB _ rfl (by kernel_rfl) ?_ | refine zV rfl ?_ | refine zW rfl ?_ | refine zC ?_ | with_reducible refine zN ?_ | refine zH ?_ | refine zI ?_ | (with_reducible first | refine zL ?_ | refine zM ?_ | refine zE ?_ | refine zG ?_ | refine zF ?_) | refine zO ?_
        refine yK rfl rfl rfl rfl (fun p1 => ?_) (fun p1 => ?_)
        · have q1 : 0 < k := by have := of_decide_eq_true p1; simp only at this; omega
          obtain ⟨y, hy⟩ : ∃ z, out[k - 1]? = some z := ⟨_, List.getElem?_eq_getElem (by omega)⟩
          have ew : IntKind.i64.wrap ((k : Int) - 1) = ((k - 1 : Nat) : Int) := by rw [IntKind.wrap_i64]; omega
          repeat' first | refine zK ?_ | refine zA ?_ | refine zP [] ?_ | (refine isA ?_; refine zd rfl ?_) | (refine isL ?_; refine zU rfl (by kernel_rfl) rfl rfl ?_) | (refine zb rfl ?_; refine zT rfl (by kernel_rfl) rfl rfl ?_) | (refine yB (x := .tmp 24) ?_; refine zc rfl (z6 (t := rwT) (z := x) rfl rfl rfl rfl (Int.natCast_nonneg i) hx) rfl ?_) | (refine yA (x := .tmp 24) rfl ?_; refine zY rfl (by kernel_rfl) rfl (z6 (t := rwT) (z := x) rfl rfl rfl rfl (Int.natCast_nonneg i) hx) rfl ?_) | (refine yB (x := .tmp 19) ?_; refine zc rfl (sL (t := rwT) (xs := out) rfl rfl rfl rfl rfl (by rw [ew]; exact Int.natCast_nonneg _) (by rw [ew]; omega)) rfl ?_) | (refine yA (x := .tmp 19) rfl ?_; refine zY rfl (by kernel_rfl) rfl (sL (t := rwT) (xs := out) rfl rfl rfl rfl rfl (by rw [ew]; exact Int.natCast_nonneg _) (by rw [ew]; omega)) rfl ?_) | (refine xe (x := .tmp 22) ?_; refine zc rfl (yv (T := rwT) (i := k - 1) (xs := out) (z := y) rfl (by simp only [ew]; rfl) rfl hy) rfl ?_) | (refine xi (x := .tmp 22) rfl ?_; refine zY rfl (by kernel_rfl) rfl (yv (T := rwT) (i := k - 1) (xs := out) (z := y) rfl (by simp only [ew]; rfl) rfl hy) rfl ?_) | (refine zu 68 ?_; refine zc rfl (zQ rfl (xz y x) (.cons (.same rfl) (.cons (.same rfl) .nil)) rfl) rfl ?_) | (refine zv 68 rfl ?_; refine zY rfl (by kernel_rfl) rfl (zQ rfl (xz y x) (.cons (.same rfl) (.cons (.same rfl) .nil)) rfl) rfl ?_) | refine zD ?_ | refine zB _ rfl (by kernel_rfl) ?_ | refine zV rfl ?_ | refine zW rfl ?_ | refine zC ?_ | with_reducible refine zN ?_ | refine zH ?_ | refine zI ?_ | (with_reducible first | refine zL ?_ | refine zM ?_ | refine zE ?_ | refine zG ?_ | refine zF ?_) | refine zO ?_
          refine zh rfl (fun p2 => ?_) (fun p2 => ?_)
          · have q2 := of_decide_eq_true p2
            repeat' first | refine zK ?_ | refine zA ?_ | refine zP [] ?_ | (refine isA ?_; refine zd rfl ?_) | (refine isL ?_; refine zU rfl (by kernel_rfl) rfl rfl ?_) | (refine zb rfl ?_; refine zT rfl (by kernel_rfl) rfl rfl ?_) | refine zD ?_ | refine zB _ rfl (by kernel_rfl) ?_ | refine zV rfl ?_ | refine zW rfl ?_ | refine zC ?_ | with_reducible refine zN ?_ | refine zH ?_ | refine zI ?_ | (with_reducible first | refine zL ?_ | refine zM ?_ | refine zE ?_ | refine zG ?_ | refine zF ?_) | refine zO ?_
            refine ⟨⟨k - 1, by omega, fun j z hj hz => ?_⟩, by simp only; omega, ?_⟩
            · rcases Nat.lt_or_ge j k with hjk | hjk
              · obtain rfl : j = k - 1 := by omega
                rw [hy] at hz
                cases hz
                intro hle
                have : yu y x ≤ 0 := hle
                omega
              · exact hB j z hjk hz
            · exact ye [0] rfl rfl (by decide) (.cons rfl rfl rfl rfl (zX (zJ _ _)) .nil) (by
                repeat' first | exact zj | refine zZ ?_ ?_ | exact zp | exact le_refl rfl | exact zk rfl rfl | exact yC (congrArg _ ew.symm))
          · have q2 := of_decide_eq_false p2
            have hfin := mT hso hk hB (fun z _ hz => by rw [hy] at hz; cases hz; show yu y x ≤ 0; omega)
            have hkl : k ≤ i := by omega
            repeat' first | refine zK ?_ | refine zA ?_ | (refine isA ?_; refine zd rfl ?_) | (refine isL ?_; refine zU rfl (by kernel_rfl) rfl rfl ?_) | (refine zb rfl ?_; refine zT rfl (by kernel_rfl) rfl rfl ?_) | refine zD ?_ | refine zB _ rfl (by kernel_rfl) ?_ | refine zV rfl ?_ | refine zW rfl ?_ | refine zC ?_ | with_reducible refine zN ?_ | refine zH ?_ | refine zI ?_ | (with_reducible first | refine zL ?_ | refine zM ?_ | refine zE ?_ | refine zG ?_ | refine zF ?_) | refine zO ?_
            refine ta (fun H => H[0]? = some (rwR out)) 10 rfl ?_
            refine yZ 5 rfl rfl (by kernel_rfl) rfl (fun _ => rfl) rfl ?_
            refine yZ 6 rfl rfl (by kernel_rfl) rfl (fun _ => rfl) rfl ?_
            refine xE 7 rfl rfl (by kernel_rfl) rfl (fun H hG => yq (l := (k : Int)) (h := (out.length : Int)) rfl rfl hG (Nat.zero_le _) rfl (.yes _ rfl) (.no _) (by omega) (by omega) (by omega)) rfl ?_
            refine yZ 0 rfl rfl (by kernel_rfl) rfl (fun _ => rfl) rfl ?_
            refine yZ 1 rfl rfl (by kernel_rfl) rfl (fun _ => rfl) rfl ?_
            refine xE 2 rfl rfl (by kernel_rfl) rfl (fun _ _ => z6 (t := rwT) (z := x) rfl rfl rfl rfl (Int.natCast_nonneg i) hx) rfl ?_
            refine yZ 3 rfl rfl (by kernel_rfl) rfl (fun _ => rfl) rfl ?_
            refine we 4 (by kernel_rfl) ?_
            refine fv rfl rfl rfl rfl rfl ?_
            refine we 8 (by kernel_rfl) ?_
            refine qN rfl rfl (yV (t := rwT) (xs := [x]) (ys := out.drop k) rfl rfl rfl rfl (mu rfl hk (by simp) (by simp)) (by simp; omega) rfl) rfl rfl ?_
            refine yZ 9 rfl rfl (by kernel_rfl) rfl (fun _ => rfl) rfl ?_
            refine vI (by kernel_rfl) ?_
            repeat' first | refine zK ?_ | refine zA ?_ | refine zP [] ?_ | (refine isA ?_; refine zd rfl ?_) | (refine isL ?_; refine zU rfl (by kernel_rfl) rfl rfl ?_) | (refine zb rfl ?_; refine zT rfl (by kernel_rfl) rfl rfl ?_) | (refine uN ?_; refine zc rfl (yq (l := (0 : Int)) (h := (k : Int)) rfl rfl rfl (Nat.zero_le _) rfl (.no 0) (.yes _ rfl) (Int.le_refl 0) (Int.natCast_nonneg k) (by omega)) rfl ?_) | (refine uM rfl ?_; refine zY rfl (by kernel_rfl) rfl (yq (l := (0 : Int)) (h := (k : Int)) rfl rfl rfl (Nat.zero_le _) rfl (.no 0) (.yes _ rfl) (Int.le_refl 0) (Int.natCast_nonneg k) (by omega)) rfl ?_) | (refine xR ?_; refine zc rfl (yV (t := rwT) (xs := []) (ys := out.take k) rfl rfl rfl rfl (tF rfl hk (by simp) (by simp)) (by simp; omega) rfl) rfl ?_) | (refine xC rfl ?_; refine zY rfl (by kernel_rfl) rfl (yV (t := rwT) (xs := []) (ys := out.take k) rfl rfl rfl rfl (tF rfl hk (by simp) (by simp)) (by simp; omega) rfl) rfl ?_) | (refine xR ?_; refine zc rfl (yV (t := rwT) (xs := [] ++ out.take k) (ys := [x] ++ out.drop k) rfl rfl rfl rfl (sM rfl) (by simp; omega) rfl) rfl ?_) | (refine xC rfl ?_; refine zY rfl (by kernel_rfl) rfl (yV (t := rwT) (xs := [] ++ out.take k) (ys := [x] ++ out.drop k) rfl rfl rfl rfl (sM rfl) (by simp; omega) rfl) rfl ?_) | refine zD ?_ | refine zB _ rfl (by kernel_rfl) ?_ | refine zV rfl ?_ | refine zW rfl ?_ | refine zC ?_ | with_reducible refine zN ?_ | refine zH ?_ | refine zI ?_ | (with_reducible first | refine zL ?_ | refine zM ?_ | refine zE ?_ | refine zG ?_ | refine zF ?_) | refine zO ?_
            refine ⟨⟨i + 1, hlt⟩, by simp only; omega, ?_⟩
            exact ye [5] rfl rfl (by decide) (.cons rfl rfl rfl rfl (ym (show rwT.flat ([] ++ out.take k ++ ([x] ++ out.drop k)) = rwT.flat (yL (xs.take (i + 1))) by rw [e1, ← hfin]; rfl) (zJ _ _)) .nil) (by
              repeat' first | exact zj | refine zZ ?_ ?_ | exact zp | exact le_refl rfl | exact zk rfl (show ([] ++ out.take k ++ ([x] ++ out.drop k)).length = (yL (xs.take (i + 1))).length by rw [e1, ← hfin]; rfl) | exact zk rfl (show (yL (xs.take (i + 1))).length = ([] ++ out.take k ++ ([x] ++ out.drop k)).length by rw [e1, ← hfin]; rfl) | exact xZ hlt (by omega))
        · have q1 : k = 0 := by have := of_decide_eq_false p1; simp only at this; omega
          have hfin := mT hso hk hB (fun z h0 hz => by omega)
          have hkl : k ≤ i := by omega
          repeat' first | refine zK ?_ | refine zA ?_ | (refine isA ?_; refine zd rfl ?_) | (refine isL ?_; refine zU rfl (by kernel_rfl) rfl rfl ?_) | (refine zb rfl ?_; refine zT rfl (by kernel_rfl) rfl rfl ?_) | refine zD ?_ | refine zB _ rfl (by kernel_rfl) ?_ | refine zV rfl ?_ | refine zW rfl ?_ | refine zC ?_ | with_reducible refine zN ?_ | refine zH ?_ | refine zI ?_ | (with_reducible first | refine zL ?_ | refine zM ?_ | refine zE ?_ | refine zG ?_ | refine zF ?_) | refine zO ?_
          refine ta (fun H => H[0]? = some (rwR out)) 10 rfl ?_
          refine yZ 5 rfl rfl (by kernel_rfl) rfl (fun _ => rfl) rfl ?_
          refine yZ 6 rfl rfl (by kernel_rfl) rfl (fun _ => rfl) rfl ?_
          refine xE 7 rfl rfl (by kernel_rfl) rfl (fun H hG => yq (l := (k : Int)) (h := (out.length : Int)) rfl rfl hG (Nat.zero_le _) rfl (.yes _ rfl) (.no _) (by omega) (by omega) (by omega)) rfl ?_
          refine yZ 0 rfl rfl (by kernel_rfl) rfl (fun _ => rfl) rfl ?_
          refine yZ 1 rfl rfl (by kernel_rfl) rfl (fun _ => rfl) rfl ?_
          refine xE 2 rfl rfl (by kernel_rfl) rfl (fun _ _ => z6 (t := rwT) (z := x) rfl rfl rfl rfl (Int.natCast_nonneg i) hx) rfl ?_
          refine yZ 3 rfl rfl (by kernel_rfl) rfl (fun _ => rfl) rfl ?_
          refine we 4 (by kernel_rfl) ?_
          refine fv rfl rfl rfl rfl rfl ?_
          refine we 8 (by kernel_rfl) ?_
          refine qN rfl rfl (yV (t := rwT) (xs := [x]) (ys := out.drop k) rfl rfl rfl rfl (mu rfl hk (by simp) (by simp)) (by simp; omega) rfl) rfl rfl ?_
          refine yZ 9 rfl rfl (by kernel_rfl) rfl (fun _ => rfl) rfl ?_
          refine vI (by kernel_rfl) ?_
          repeat' first | refine zK ?_ | refine zA ?_ | refine zP [] ?_ | (refine isA ?_; refine zd rfl ?_) | (refine isL ?_; refine zU rfl (by kernel_rfl) rfl rfl ?_) | (refine zb rfl ?_; refine zT rfl (by kernel_rfl) rfl rfl ?_) | (refine uN ?_; refine zc rfl (yq (l := (0 : Int)) (h := (k : Int)) rfl rfl rfl (Nat.zero_le _) rfl (.no 0) (.yes _ rfl) (Int.le_refl 0) (Int.natCast_nonneg k) (by omega)) rfl ?_) | (refine uM rfl ?_; refine zY rfl (by kernel_rfl) rfl (yq (l := (0 : Int)) (h := (k : Int)) rfl rfl rfl (Nat.zero_le _) rfl (.no 0) (.yes _ rfl) (Int.le_refl 0) (Int.natCast_nonneg k) (by omega)) rfl ?_) | (refine xR ?_; refine zc rfl (yV (t := rwT) (xs := []) (ys := out.take k) rfl rfl rfl rfl (tF rfl hk (by simp) (by simp)) (by simp; omega) rfl) rfl ?_) | (refine xC rfl ?_; refine zY rfl (by kernel_rfl) rfl (yV (t := rwT) (xs := []) (ys := out.take k) rfl rfl rfl rfl (tF rfl hk (by simp) (by simp)) (by simp; omega) rfl) rfl ?_) | (refine xR ?_; refine zc rfl (yV (t := rwT) (xs := [] ++ out.take k) (ys := [x] ++ out.drop k) rfl rfl rfl rfl (sM rfl) (by simp; omega) rfl) rfl ?_) | (refine xC rfl ?_; refine zY rfl (by kernel_rfl) rfl (yV (t := rwT) (xs := [] ++ out.take k) (ys := [x] ++ out.drop k) rfl rfl rfl rfl (sM rfl) (by simp; omega) rfl) rfl ?_) | refine zD ?_ | refine zB _ rfl (by kernel_rfl) ?_ | refine zV rfl ?_ | refine zW rfl ?_ | refine zC ?_ | with_reducible refine zN ?_ | refine zH ?_ | refine zI ?_ | (with_reducible first | refine zL ?_ | refine zM ?_ | refine zE ?_ | refine zG ?_ | refine zF ?_) | refine zO ?_
          refine ⟨⟨i + 1, hlt⟩, by simp only; omega, ?_⟩
          exact ye [5] rfl rfl (by decide) (.cons rfl rfl rfl rfl (ym (show rwT.flat ([] ++ out.take k ++ ([x] ++ out.drop k)) = rwT.flat (yL (xs.take (i + 1))) by rw [e1, ← hfin]; rfl) (zJ _ _)) .nil) (by
            repeat' first | exact zj | refine zZ ?_ ?_ | exact zp | exact le_refl rfl | exact zk rfl (show ([] ++ out.take k ++ ([x] ++ out.drop k)).length = (yL (xs.take (i + 1))).length by rw [e1, ← hfin]; rfl) | exact zk rfl (show (yL (xs.take (i + 1))).length = ([] ++ out.take k ++ ([x] ++ out.drop k)).length by rw [e1, ← hfin]; rfl) | exact xZ hlt (by omega))
    · have hge : i = xs.length := by
        have : ¬ ((i : Int) < xs.length) := by simpa using h
        omega
      subst hge
      have e2 : yL (xs.take xs.length) = yL xs := by rw [List.take_length]
      repeat' first | refine zK ?_ | refine zA ?_ | refine zP [] ?_ | (refine isA ?_; refine zd rfl ?_) | (refine isL ?_; refine zU rfl (by kernel_rfl) rfl rfl ?_) | (refine zb rfl ?_; refine zT rfl (by kernel_rfl) rfl rfl ?_) | exact kT (ty := rwT) rfl rfl rfl rfl (by simp only [e2]) e2 (xt _) | refine zD ?_ | refine zB _ rfl (by kernel_rfl) ?_ | refine zV rfl ?_ | refine zW rfl ?_ | refine zC ?_ | with_reducible refine zN ?_ | refine zH ?_ | refine zI ?_ | (with_reducible first | refine zL ?_ | refine zM ?_ | refine zE ?_ | refine zG ?_ | refine zF ?_) | refine zO ?_
end Go.Proofs.Ytojcojanokhnaaa.Ab
namespace Go.Proofs.Ytojcojanokhnaaa.Ab
open Go.RowKit
def y4 (x : Rw) : Int := cond (vRw x) (1 + x.c) 0
def yO : List Rw → Int
  | [] => 0
  | x :: xs => y4 x + yO xs
theorem xG {x lo hi : Int} : inV x lo hi = true ↔ lo ≤ x ∧ x ≤ hi := by simp [inV]
theorem qt {x : Rw} : vRw x = true ↔ (0 ≤ x.a ∧ x.a ≤ 9) ∧ (0 ≤ x.b ∧ x.b ≤ 99) ∧ (0 ≤ x.c ∧ x.c ≤ 3) := by
  simp only [vRw, Bool.and_eq_true, xG]
theorem xp (x : Rw) : 0 ≤ y4 x ∧ y4 x ≤ 4 := by
  unfold y4
  cases h : vRw x with
  | false => simp
  | true => have := (qt.1 h).2.2; simp only [cond_true]; omega
theorem uk : ∀ xs : List Rw, 0 ≤ yO xs ∧ yO xs ≤ 4 * xs.length
  | [] => by simp [yO]
  | x :: xs => by
    have h1 := uk xs
    have h2 := xp x
    simp only [yO, List.length_cons]; omega
theorem yt : ∀ xs ys : List Rw, yO (xs ++ ys) = yO xs + yO ys
  | [], ys => by simp [yO]
  | x :: xs, ys => by simp only [List.cons_append, yO, yt xs ys]; omega
theorem ly {xs : List Rw} {i : Nat} {z : Rw} (hz : xs[i]? = some z) : yO (xs.take (i + 1)) = yO (xs.take i) + y4 z := by
  rw [yw hz, yt]; simp [yO]
theorem vG {xs ys : List Rw} (h : xs.Perm ys) : yO xs = yO ys := by
  induction h with
  | nil => rfl
  | cons x _ ih => simp only [yO, ih]
  | swap x y l => simp only [yO]; omega
  | trans _ _ h1 h2 => exact h1.trans h2
instance (x y : Rw) : Decidable (leW x y) := inferInstanceAs (Decidable (yu x y ≤ 0))
instance (xs : List Rw) : Decidable (Srt xs) := inferInstanceAs (Decidable (xs.Pairwise leW))
def v8 (xs : List Rw) : Bool := decide (Srt xs)
def belL (x : Rw) : Option Rw → Bool
  | none => false
  | some y => decide (yu x y < 0)
def bel (x : Rw) (out : List Rw) : Bool := belL x out[out.length - 1]?
theorem fx (x y : Rw) (out : List Rw) : bel x (out ++ [y]) = decide (yu x y < 0) := by
  unfold bel
  rw [show (out ++ [y]).length - 1 = out.length by simp, List.getElem?_append_right (Nat.le_refl _), Nat.sub_self]
  rfl
theorem jM {xs : List Rw} {y : Rw} (h : Srt xs) (hb : bel y xs = false) : Srt (xs ++ [y]) := by
  refine List.pairwise_append.2 ⟨h, List.pairwise_singleton _ _, fun a ha c hc => ?_⟩
  have hc' : c = y := by simpa using hc
  subst hc'
  obtain ⟨i, hi⟩ := List.getElem?_of_mem ha
  have hlt := (List.getElem?_eq_some_iff.1 hi).1
  obtain ⟨z, hz⟩ : ∃ z, xs[xs.length - 1]? = some z := ⟨_, List.getElem?_eq_getElem (by omega)⟩
  have hzc : leW z c := by
    unfold bel at hb
    rw [hz] at hb
    exact Classical.byContradiction fun hn => absurd (xh.2 hn) (of_decide_eq_false hb)
  exact xa (uG h (show i ≤ xs.length - 1 by omega) hi hz) hzc
def u5 (xs : List Rw) : Nat → Int
  | 0 => -1
  | n + 1 => cond (decide (u5 xs n < 0)) n (match xs[n]?, xs[(u5 xs n).toNat]? with
    | some x, some y => cond (decide (yu x y < 0)) n (u5 xs n)
    | _, _ => u5 xs n)
def mQ (xs : List Rw) : Int := u5 xs xs.length
theorem sQ {xs : List Rw} : ∀ {n : Nat}, n ≤ xs.length → 0 < n → ∃ k y, u5 xs n = ((k : Nat) : Int) ∧ k < n ∧ xs[k]? = some y ∧ ∀ j z, j < n → xs[j]? = some z → leW y z
  | 0, _, h => absurd h (Nat.lt_irrefl 0)
  | n + 1, hn, _ => by
    obtain ⟨x, hx⟩ : ∃ z, xs[n]? = some z := ⟨_, List.getElem?_eq_getElem (by omega)⟩
    rcases Nat.eq_zero_or_pos n with rfl | hpos
    · refine ⟨0, x, rfl, by omega, hx, fun j z hj hz => ?_⟩
      obtain rfl : j = 0 := by omega
      rw [hx] at hz
      cases hz
      exact qC _
    · obtain ⟨k, y, h1, h2, h3, h4⟩ := sQ (xs := xs) (n := n) (by omega) hpos
      rw [u5, h1, decide_eq_false (show ¬ ((k : Nat) : Int) < 0 from by have := Int.natCast_nonneg k; omega), cond_false, Int.toNat_natCast, hx, h3]
      simp only
      cases hc : decide (yu x y < 0) with
      | true =>
        have hle := vD (xh.1 (of_decide_eq_true hc))
        refine ⟨n, x, rfl, by omega, hx, fun j z hj hz => ?_⟩
        rcases Nat.lt_or_ge j n with hjn | hjn
        · exact xa hle (h4 j z hjn hz)
        · obtain rfl : j = n := by omega
          rw [hx] at hz
          cases hz
          exact qC _
      | false =>
        refine ⟨k, y, rfl, by omega, h3, fun j z hj hz => ?_⟩
        rcases Nat.lt_or_ge j n with hjn | hjn
        · exact h4 j z hjn hz
        · obtain rfl : j = n := by omega
          rw [hx] at hz
          cases hz
          exact Classical.byContradiction fun hn => absurd (xh.2 hn) (of_decide_eq_false hc)
theorem lC {xs : List Rw} (h : 0 < xs.length) : ∃ k y, mQ xs = ((k : Nat) : Int) ∧ xs[k]? = some y ∧ ∀ z ∈ xs, leW y z := by
  obtain ⟨k, y, h1, h2, h3, h4⟩ := sQ (Nat.le_refl xs.length) h
  refine ⟨k, y, h1, h3, fun z hz => ?_⟩
  obtain ⟨j, hj⟩ := List.getElem?_of_mem hz
  exact h4 j z (List.getElem?_eq_some_iff.1 hj).1 hj
theorem qY {xs : List Rw} {k : Nat} {y : Rw} (h : xs[k]? = some y) : (xs.take k ++ xs.drop (k + 1) ++ [y]).Perm xs := by
  have e : xs = xs.take k ++ y :: xs.drop (k + 1) := by rw [← yI h, List.take_append_drop]
  have : (xs.take k ++ y :: xs.drop (k + 1)).Perm (y :: (xs.take k ++ xs.drop (k + 1))) := List.perm_middle
  rw [← e] at this
  exact List.perm_append_comm.trans this.symm
def avS (rs : List Rn) : Bool := rs.all fun r => !decide (r.length = 0) && (v8 r && avR r)
end Go.Proofs.Ytojcojanokhnaaa.Ab
namespace Go.Proofs.Ytojcojanokhnaaa.Ab
open Go.RowKit
def rwI (x : Rw) : List Int := [x.a, x.b, x.c]
def rwD (x y : Rw) : Bool := decide (rwI x = rwI y)
theorem t9 {o : Oper} {ρ : Operand → V} {H : List Reg} {t' : TypeId} {x y : Operand} {a b : Rw} (ho : o.op = .binOp .neq 78 x y t') (hx : ρ x = .agg (rwE a)) (hy : ρ y = .agg (rwE b)) : z8 Go.Proofs.Try.prog o ρ H (B (!rwD a b)) H :=
  l5 (us := rwI a) (bs := rwI b) _ (jt Go.Proofs.Try.underlying78 (by kernel_rfl) (by kernel_rfl) (by kernel_rfl)) ho hx hy rfl rfl
theorem pH {x y : Rw} : rwD x y = true ↔ x = y := by
  cases x; cases y
  simp [rwD, rwI]
def xj : List Rw → List Rw → Bool
  | [], [] => true
  | x :: xs, y :: ys => rwD x y && xj xs ys
  | _, _ => false
theorem vk : ∀ {xs ys : List Rw}, xj xs ys = true ↔ xs = ys
  | [], [] => by simp [xj]
  | x :: xs, y :: ys => by simp only [xj, Bool.and_eq_true, pH, vk, List.cons.injEq]
  | [], y :: ys => by simp [xj]
  | x :: xs, [] => by simp [xj]
theorem tX {xs ys : List Rw} (h : xs.length ≠ ys.length) : xj xs ys = false := by
  cases he : xj xs ys with
  | false => rfl
  | true => exact absurd (congrArg List.length (vk.1 he)) h
theorem pZ {xs ys : List Rw} {i : Nat} {x y : Rw} (hx : xs[i]? = some x) (hy : ys[i]? = some y) : xj (xs.drop i) (ys.drop i) = (rwD x y && xj (xs.drop (i + 1)) (ys.drop (i + 1))) := by
  rw [yI hx, yI hy, xj]
end Go.Proofs.Ytojcojanokhnaaa.Ab
namespace Go.Proofs.Ytojcojanokhnaaa.Ab
open Go.RowKit
def eqB (xs ys : List Rw) : Bool := xj (yL xs) (yL ys)
theorem uZ {xs ys : List Rw} : eqB xs ys = true ↔ xs.Perm ys := by
  unfold eqB
  rw [vk]
  constructor
  · intro h
    have h1 := ya xs
    rw [h] at h1
    exact h1.symm.trans (ya ys)
  · intro h
    exact wm (xX _) ((ya xs).trans h)
end Go.Proofs.Ytojcojanokhnaaa.Ab
namespace Go.Proofs.Ytojcojanokhnaaa.Ab
open Go.RowKit
def so (xs : List Rw) (a b : Nat) : List Rw := xs.take a ++ (yL ((xs.drop a).take (b - a)) ++ xs.drop b)
theorem jP {xs : List Rw} {a : Nat} (h : a < xs.length) : so xs a (a + 1) = xs := by
  obtain ⟨x, hx⟩ : ∃ z, xs[a]? = some z := ⟨_, List.getElem?_eq_getElem h⟩
  have e : xs.drop a = x :: xs.drop (a + 1) := yI hx
  rw [so, e, show a + 1 - a = 1 by omega]
  show xs.take a ++ ([x] ++ xs.drop (a + 1)) = xs
  rw [List.singleton_append, ← e, List.take_append_drop]
theorem kD {xs : List Rw} {a i : Nat} {x : Rw} (h : a ≤ i) (hx : xs[i]? = some x) : yL ((xs.drop a).take (i + 1 - a)) = tR x (yL ((xs.drop a).take (i - a))) := by
  have : (xs.drop a)[i - a]? = some x := by rw [List.getElem?_drop, show a + (i - a) = i by omega]; exact hx
  rw [show i + 1 - a = (i - a) + 1 by omega, List.take_add_one, this]
  exact qe _ _
theorem qj {A B : List Rw} {x : Rw} (hs : Srt (A ++ B)) (hB : ∀ z ∈ B, ¬ leW z x) (hA : ∀ y A', A = A' ++ [y] → leW y x) : A ++ x :: B = tR x (A ++ B) := by
  have h := mT (k := A.length) hs (by simp) (fun j z hj hz => by
    rw [List.getElem?_append_right hj] at hz
    exact hB z (List.mem_of_getElem? hz)) (fun z h0 hz => by
    rw [List.getElem?_append_left (by omega)] at hz
    refine hA z A.dropLast ?_
    have hne : A ≠ [] := by intro e; subst e; simp at h0
    have : A.getLast hne = z := by
      rw [List.getLast_eq_getElem]
      exact (List.getElem?_eq_some_iff.1 hz).2
    rw [← this]
    exact (List.dropLast_concat_getLast hne).symm)
  rw [List.take_left', List.drop_left'] at h
  · exact h
  · rfl
  · rfl
theorem mo {U W : List Rw} {x y : Rw} {u : Nat} (hu : U.length = u) : ((U ++ y :: x :: W).set (u + 1) y).set u x = U ++ x :: y :: W := by
  subst hu
  rw [List.set_append_right _ _ (by omega), show U.length + 1 - U.length = 1 by omega]
  show (U ++ y :: y :: W).set U.length x = _
  rw [List.set_append_right _ _ (Nat.le_refl _), Nat.sub_self]
  rfl
theorem tV {l : List V} {H : List Reg} {K : List Reg} (k : Nat) (ψ : List Nat) (hfix : ∀ i, i < k → ψ[i]? = some i) (hnd : ψ.Nodup) (hH : HLes ψ H ψ K) : (Exit.normal = .ret ∨ Exit.normal = .normal) ∧ Out true (.tup []) K (vq ⟨l, H, k⟩ []) ⟨l, H, k⟩ :=
  ⟨Or.inr rfl, vv (S := ⟨l, H, k⟩) ψ hfix (wX hnd hH) (qA zj) (Or.inl rfl)⟩
theorem fb (xs : List Rw) (a b : Nat) (h1 : a < b) (h2 : b ≤ xs.length) (hl : xs.length ≤ 100000000) : zz Go.Proofs.Try.prog 130 [.sl 0 0 xs.length, I a, I b, .fn 64 []] [rwR xs] (.tup []) [rwR (so xs a b)] true := by
  refine zw [] Go.Proofs.Try.func130 rfl rfl ?_
  simp only [Go.Proofs.Try.ntmps130, List.length_cons, List.length_nil, Nat.reduceAdd, Nat.reduceSub, List.replicate_succ, List.replicate_zero, List.cons_append, List.nil_append]
  repeat' first | refine zK ?_ | refine zA ?_ | refine zP [] ?_ | (refine isA ?_; refine zd rfl ?_) | (refine isL ?_; refine zU rfl (by kernel_rfl) rfl rfl ?_) | (refine zb rfl ?_; refine zT rfl (by kernel_rfl) rfl rfl ?_) | refine zD ?_ | refine zB _ rfl (by kernel_rfl) ?_ | refine zV rfl ?_ | refine zW rfl ?_ | refine zC ?_ | with_reducible refine zN ?_ | refine zH ?_ | refine zI ?_ | (with_reducible first | refine zL ?_ | refine zM ?_ | refine zE ?_ | refine zG ?_ | refine zF ?_) | refine zO ?_
  refine z9 (α := { i : Nat // a + 1 ≤ i ∧ i ≤ b }) (fun i => ⟨[.sl 0 0 xs.length, I a, I b, .fn 64 [], .any, .any, .any, .any, I i.1, .any, .any, .any, .any, .any, .any, .any, .any, .any, .any, .any, .any, .any, .any, .any, .any, .any, .any, .any, .any, .any, .any, .any, .any, .any, .any, .any, .any, .any, .any, .any, .any, .any, .any, .any, .any, .any, .any, .any, .any, .any, .any, .any, .any], [rwR (so xs a i.1)], 1⟩) (fun i => b - i.1) ⟨a + 1, Nat.le_refl _, h1⟩ ?_ ?_
  · exact xH 1 [0] rfl rfl yf (by decide) (.cons rfl rfl rfl rfl (ym (by rw [jP (by omega)]) (zJ _ _)) .nil) (by
      repeat' first | exact zj | refine zZ ?_ ?_ | exact zp | exact le_refl rfl | exact zk rfl rfl | exact yC (congrArg _ (show ((a + 1 : Nat) : Int) = IntKind.i64.wrap ((a : Int) + 1) by rw [IntKind.wrap_i64]; omega)))
  · rintro ⟨i, hi0, hi1⟩
    repeat' first | refine zK ?_ | refine zA ?_ | refine zP [] ?_ | (refine isA ?_; refine zd rfl ?_) | (refine isL ?_; refine zU rfl (by kernel_rfl) rfl rfl ?_) | (refine zb rfl ?_; refine zT rfl (by kernel_rfl) rfl rfl ?_) | refine zD ?_ | refine zB _ rfl (by kernel_rfl) ?_ | refine zV rfl ?_ | refine zW rfl ?_ | refine zC ?_ | with_reducible refine zN ?_ | refine zH ?_ | refine zI ?_ | (with_reducible first | refine zL ?_ | refine zM ?_ | refine zE ?_ | refine zG ?_ | refine zF ?_) | refine zO ?_
    refine zh rfl (fun h => ?_) (fun h => ?_)
    · have hlt : i < b := by have := of_decide_eq_true h; simp only at this; omega
      obtain ⟨x, hx⟩ : ∃ z, xs[i]? = some z := ⟨_, List.getElem?_eq_getElem (by omega)⟩
      have e1 := kD (a := a) (by omega) hx
      have hso := xX ((xs.drop a).take (i - a))
      have hol : (yL ((xs.drop a).take (i - a))).length = i - a := by rw [x4]; simp; omega
      have eR : so xs a (i + 1) = xs.take a ++ (yL ((xs.drop a).take (i + 1 - a)) ++ xs.drop (i + 1)) := rfl
      have e0 : so xs a i = xs.take a ++ (yL ((xs.drop a).take (i - a)) ++ x :: xs.drop (i + 1)) := by rw [so, yI hx]
      rw [e1] at eR
      generalize yL ((xs.drop a).take (i - a)) = S at e0 eR hso hol
      have hP : (xs.take a).length = a := by simp; omega
      have hR : (xs.drop (i + 1)).length = xs.length - (i + 1) := by simp
      generalize xs.take a = P at e0 eR hP
      generalize xs.drop (i + 1) = R at e0 eR hR
      repeat' first | refine zK ?_ | refine zA ?_ | refine zP [] ?_ | (refine isA ?_; refine zd rfl ?_) | (refine isL ?_; refine zU rfl (by kernel_rfl) rfl rfl ?_) | (refine zb rfl ?_; refine zT rfl (by kernel_rfl) rfl rfl ?_) | refine zD ?_ | refine zB _ rfl (by kernel_rfl) ?_ | refine zV rfl ?_ | refine zW rfl ?_ | refine zC ?_ | with_reducible refine zN ?_ | refine zH ?_ | refine zI ?_ | (with_reducible first | refine zL ?_ | refine zM ?_ | refine zE ?_ | refine zG ?_ | refine zF ?_) | refine zO ?_
      refine z9 (α := { p : List Rw × List Rw // p.1 ++ p.2 = S ∧ ∀ z ∈ p.2, ¬ leW z x }) (fun p => ⟨[.sl 0 0 xs.length, I a, I b, .fn 64 [], .any, .any, .any, .any, I i, I ((a + p.1.1.length : Nat) : Int), .any, .any, .any, .any, .any, .any, .any, .any, .any, .any, .any, .any, .any, .any, .any, .any, .any, .any, .any, .any, .any, .any, .any, .any, .any, .any, .any, .any, .any, .any, .any, .any, .any, .any, .any, .any, .any, .any, .any, .any, .any, .any, .any], [rwR (P ++ p.1.1 ++ x :: p.1.2 ++ R)], 1⟩) (fun p => p.1.1.length) ⟨(S, []), List.append_nil _, fun z hz => by cases hz⟩ ?_ ?_
      · exact xH 1 [0] rfl rfl yf (by decide) (.cons rfl rfl rfl rfl (ym (by rw [e0]; show rwT.flat _ = rwT.flat _; simp) (zJ _ _)) .nil) (by
          repeat' first | exact zj | refine zZ ?_ ?_ | exact zp | exact le_refl rfl | exact zk rfl rfl | exact yC (congrArg _ (show ((a + S.length : Nat) : Int) = (i : Int) by omega)))
      · rintro ⟨⟨A, B⟩, hAB, hB⟩
        simp only at hAB hB
        have hlen : A.length + B.length = i - a := by rw [← hol, ← hAB, List.length_append]
        repeat' first | refine zK ?_ | refine zA ?_ | refine zP [] ?_ | (refine isA ?_; refine zd rfl ?_) | (refine isL ?_; refine zU rfl (by kernel_rfl) rfl rfl ?_) | (refine zb rfl ?_; refine zT rfl (by kernel_rfl) rfl rfl ?_) | refine zD ?_ | refine zB _ rfl (by kernel_rfl) ?_ | refine zV rfl ?_ | refine zW rfl ?_ | refine zC ?_ | with_reducible refine zN ?_ | refine zH ?_ | refine zI ?_ | (with_reducible first | refine zL ?_ | refine zM ?_ | refine zE ?_ | refine zG ?_ | refine zF ?_) | refine zO ?_
        refine yK rfl rfl rfl rfl (fun p1 => ?_) (fun p1 => ?_)
        · have q1 : 0 < A.length := by have := of_decide_eq_true p1; simp only at this; omega
          obtain ⟨A', y, rfl⟩ : ∃ A' y, A = A' ++ [y] := ⟨A.dropLast, A.getLast (by intro e; subst e; simp at q1), (List.dropLast_concat_getLast _).symm⟩
          have ej : ((a + (A' ++ [y]).length : Nat) : Int) = ((a + A'.length + 1 : Nat) : Int) := by simp; omega
          have ew : IntKind.i64.wrap (((a + (A' ++ [y]).length : Nat) : Int) - 1) = ((a + A'.length : Nat) : Int) := by rw [IntKind.wrap_i64]; simp; omega
          have hlA : (A' ++ [y]).length = A'.length + 1 := by simp
          have hds : P ++ (A' ++ [y]) ++ x :: B ++ R = (P ++ A') ++ y :: x :: (B ++ R) := by simp
          have hu : (P ++ A').length = a + A'.length := by simp [hP]
          have g1 : (P ++ (A' ++ [y]) ++ x :: B ++ R)[0 + (a + A'.length + 1)]? = some x := by
            rw [hds, List.getElem?_append_right (by omega), hu, show 0 + (a + A'.length + 1) - (a + A'.length) = 1 by omega]; rfl
          have g0 : (P ++ (A' ++ [y]) ++ x :: B ++ R)[0 + (a + A'.length)]? = some y := by
            rw [hds, List.getElem?_append_right (by omega), hu, show 0 + (a + A'.length) - (a + A'.length) = 0 by omega]; rfl
          repeat' first | refine zK ?_ | refine zA ?_ | refine zP [] ?_ | (refine isA ?_; refine zd rfl ?_) | (refine isL ?_; refine zU rfl (by kernel_rfl) rfl rfl ?_) | (refine zb rfl ?_; refine zT rfl (by kernel_rfl) rfl rfl ?_) | (refine yB (x := .tmp 23) ?_; refine zc rfl (zq (j := ((a + A'.length + 1 : Nat) : Int)) rfl rfl rfl (Nat.zero_le _) rfl (congrArg I ej) (Int.natCast_nonneg _) (by omega)) rfl ?_) | (refine yA (x := .tmp 23) rfl ?_; refine zY rfl (by kernel_rfl) rfl (zq (j := ((a + A'.length + 1 : Nat) : Int)) rfl rfl rfl (Nat.zero_le _) rfl (congrArg I ej) (Int.natCast_nonneg _) (by omega)) rfl ?_) | (refine yB (x := .tmp 27) ?_; refine zc rfl (zq (j := ((a + A'.length : Nat) : Int)) rfl rfl rfl (Nat.zero_le _) rfl (congrArg I ew) (Int.natCast_nonneg _) (by omega)) rfl ?_) | (refine yA (x := .tmp 27) rfl ?_; refine zY rfl (by kernel_rfl) rfl (zq (j := ((a + A'.length : Nat) : Int)) rfl rfl rfl (Nat.zero_le _) rfl (congrArg I ew) (Int.natCast_nonneg _) (by omega)) rfl ?_) | (refine xe (x := .tmp 25) ?_; refine zc rfl (yv (T := rwT) (i := 0 + (a + A'.length + 1)) (z := x) rfl rfl rfl g1) rfl ?_) | (refine xi (x := .tmp 25) rfl ?_; refine zY rfl (by kernel_rfl) rfl (yv (T := rwT) (i := 0 + (a + A'.length + 1)) (z := x) rfl rfl rfl g1) rfl ?_) | (refine xe (x := .tmp 30) ?_; refine zc rfl (yv (T := rwT) (i := 0 + (a + A'.length)) (z := y) rfl rfl rfl g0) rfl ?_) | (refine xi (x := .tmp 30) rfl ?_; refine zY rfl (by kernel_rfl) rfl (yv (T := rwT) (i := 0 + (a + A'.length)) (z := y) rfl rfl rfl g0) rfl ?_) | refine zc rfl (wt rfl rfl (xP x y) (.cons (.same rfl) (.cons (.same rfl) .nil)) rfl) rfl ?_ | refine zY rfl (by kernel_rfl) rfl (wt rfl rfl (xP x y) (.cons (.same rfl) (.cons (.same rfl) .nil)) rfl) rfl ?_ | refine zD ?_ | refine zB _ rfl (by kernel_rfl) ?_ | refine zV rfl ?_ | refine zW rfl ?_ | refine zC ?_ | with_reducible refine zN ?_ | refine zH ?_ | refine zI ?_ | (with_reducible first | refine zL ?_ | refine zM ?_ | refine zE ?_ | refine zG ?_ | refine zF ?_) | refine zO ?_
          refine zh rfl (fun p2 => ?_) (fun p2 => ?_)
          · have q2 := xh.1 (of_decide_eq_true p2)
            repeat' first | refine zK ?_ | refine zA ?_ | (refine isA ?_; refine zd rfl ?_) | (refine isL ?_; refine zU rfl (by kernel_rfl) rfl rfl ?_) | (refine zb rfl ?_; refine zT rfl (by kernel_rfl) rfl rfl ?_) | refine zD ?_ | refine zB _ rfl (by kernel_rfl) ?_ | refine zV rfl ?_ | refine zW rfl ?_ | refine zC ?_ | with_reducible refine zN ?_ | refine zH ?_ | refine zI ?_ | (with_reducible first | refine zL ?_ | refine zM ?_ | refine zE ?_ | refine zG ?_ | refine zF ?_) | refine zO ?_
            refine pi [15, 17] 18 rfl ?_
            refine yd 0 rfl (by kernel_rfl) rfl (fun _ => rfl) rfl ?_
            refine yd 1 rfl (by kernel_rfl) rfl (fun _ => rfl) rfl ?_
            refine yd 2 rfl (by kernel_rfl) rfl (fun _ => rfl) rfl ?_
            refine yd 3 rfl (by kernel_rfl) rfl (fun _ => rfl) rfl ?_
            refine yd 4 rfl (by kernel_rfl) rfl (fun _ => rfl) rfl ?_
            refine yd 5 rfl (by kernel_rfl) rfl (fun _ => rfl) rfl ?_
            refine yd 6 rfl (by kernel_rfl) rfl (fun _ => rfl) rfl ?_
            refine yd 7 rfl (by kernel_rfl) rfl (fun _ => rfl) rfl ?_
            refine xg 8 rfl (by kernel_rfl) rfl (zq (j := ((a + A'.length : Nat) : Int)) rfl rfl rfl (Nat.zero_le _) rfl (congrArg I ew) (Int.natCast_nonneg _) (by omega)) rfl ?_
            refine xg 9 rfl (by kernel_rfl) rfl (yv (T := rwT) (i := 0 + (a + A'.length)) (z := y) rfl rfl rfl g0) rfl ?_
            refine yd 10 rfl (by kernel_rfl) rfl (fun _ => rfl) rfl ?_
            refine yd 11 rfl (by kernel_rfl) rfl (fun _ => rfl) rfl ?_
            refine xg 12 rfl (by kernel_rfl) rfl (zq (j := ((a + A'.length + 1 : Nat) : Int)) rfl rfl rfl (Nat.zero_le _) rfl (congrArg I ej) (Int.natCast_nonneg _) (by omega)) rfl ?_
            refine xg 13 rfl (by kernel_rfl) rfl (yv (T := rwT) (i := 0 + (a + A'.length + 1)) (z := x) rfl rfl rfl g1) rfl ?_
            refine xg 14 rfl (by kernel_rfl) rfl (zq (j := ((a + A'.length + 1 : Nat) : Int)) rfl rfl rfl (Nat.zero_le _) rfl (congrArg I ej) (Int.natCast_nonneg _) (by omega)) rfl ?_
            refine t8 15 rfl (by kernel_rfl) rfl rfl (t6 (T := rwT) (i := 0 + (a + A'.length + 1)) (z := y) rfl rfl rfl rfl rfl (List.getElem?_eq_some_iff.1 g1).1) rfl ?_
            refine xg 16 rfl (by kernel_rfl) rfl (zq (j := ((a + A'.length : Nat) : Int)) rfl rfl rfl (Nat.zero_le _) rfl (congrArg I ew) (Int.natCast_nonneg _) (by omega)) rfl ?_
            refine t8 17 rfl (by kernel_rfl) rfl rfl (t6 (T := rwT) (i := 0 + (a + A'.length)) (z := x) rfl rfl rfl rfl rfl (by rw [List.length_set]; exact (List.getElem?_eq_some_iff.1 g0).1)) rfl ?_
            refine tJ (by kernel_rfl) ?_
            repeat' first | refine zK ?_ | refine zA ?_ | refine zP [] ?_ | (refine isA ?_; refine zd rfl ?_) | (refine isL ?_; refine zU rfl (by kernel_rfl) rfl rfl ?_) | (refine zb rfl ?_; refine zT rfl (by kernel_rfl) rfl rfl ?_) | refine zD ?_ | refine zB _ rfl (by kernel_rfl) ?_ | refine zV rfl ?_ | refine zW rfl ?_ | refine zC ?_ | with_reducible refine zN ?_ | refine zH ?_ | refine zI ?_ | (with_reducible first | refine zL ?_ | refine zM ?_ | refine zE ?_ | refine zG ?_ | refine zF ?_) | refine zO ?_
            refine ⟨⟨(A', y :: B), by rw [← hAB]; simp, fun z hz => by
              rcases List.mem_cons.1 hz with rfl | hz
              · exact q2
              · exact hB z hz⟩, by simp only; omega, ?_⟩
            exact xH 1 [0] rfl rfl yf (by decide) (.cons rfl rfl rfl rfl (ym (show rwT.flat (((P ++ (A' ++ [y]) ++ x :: B ++ R).set (0 + (a + A'.length + 1)) y).set (0 + (a + A'.length)) x) = rwT.flat (P ++ A' ++ x :: (y :: B) ++ R) by rw [hds, Nat.zero_add, Nat.zero_add, mo hu]; simp) (zJ _ _)) .nil) (by
              repeat' first | exact zj | refine zZ ?_ ?_ | exact zp | exact le_refl rfl | exact zk rfl rfl | exact yC (congrArg _ ew.symm))
          · have q2 : leW y x := Classical.byContradiction fun hn => by have := xh.2 hn; exact absurd this (of_decide_eq_false p2)
            have hfin := qj (x := x) (hAB ▸ hso) hB (fun z D hD => by have := List.append_inj' hD rfl; obtain ⟨_, hz⟩ := this; cases hz; exact q2)
            repeat' first | refine zK ?_ | refine zA ?_ | refine zP [] ?_ | (refine isA ?_; refine zd rfl ?_) | (refine isL ?_; refine zU rfl (by kernel_rfl) rfl rfl ?_) | (refine zb rfl ?_; refine zT rfl (by kernel_rfl) rfl rfl ?_) | refine zD ?_ | refine zB _ rfl (by kernel_rfl) ?_ | refine zV rfl ?_ | refine zW rfl ?_ | refine zC ?_ | with_reducible refine zN ?_ | refine zH ?_ | refine zI ?_ | (with_reducible first | refine zL ?_ | refine zM ?_ | refine zE ?_ | refine zG ?_ | refine zF ?_) | refine zO ?_
            refine ⟨⟨i + 1, by omega, by omega⟩, by simp only; omega, ?_⟩
            exact xH 1 [0] rfl rfl yf (by decide) (.cons rfl rfl rfl rfl (ym (show rwT.flat (P ++ (A' ++ [y]) ++ x :: B ++ R) = rwT.flat (so xs a (i + 1)) by rw [eR, ← hAB, ← hfin]; simp) (zJ _ _)) .nil) (by
              repeat' first | exact zj | refine zZ ?_ ?_ | exact zp | exact le_refl rfl | exact zk rfl rfl | exact xZ hlt (by omega))
        · have q1 : A.length = 0 := by have := of_decide_eq_false p1; simp only at this; omega
          obtain rfl : A = [] := List.eq_nil_of_length_eq_zero q1
          have hfin := qj (x := x) (hAB ▸ hso) hB (fun z D hD => by simp at hD)
          repeat' first | refine zK ?_ | refine zA ?_ | refine zP [] ?_ | (refine isA ?_; refine zd rfl ?_) | (refine isL ?_; refine zU rfl (by kernel_rfl) rfl rfl ?_) | (refine zb rfl ?_; refine zT rfl (by kernel_rfl) rfl rfl ?_) | refine zD ?_ | refine zB _ rfl (by kernel_rfl) ?_ | refine zV rfl ?_ | refine zW rfl ?_ | refine zC ?_ | with_reducible refine zN ?_ | refine zH ?_ | refine zI ?_ | (with_reducible first | refine zL ?_ | refine zM ?_ | refine zE ?_ | refine zG ?_ | refine zF ?_) | refine zO ?_
          refine ⟨⟨i + 1, by omega, by omega⟩, by simp only; omega, ?_⟩
          exact xH 1 [0] rfl rfl yf (by decide) (.cons rfl rfl rfl rfl (ym (show rwT.flat (P ++ [] ++ x :: B ++ R) = rwT.flat (so xs a (i + 1)) by rw [eR, ← hAB, ← hfin]; simp) (zJ _ _)) .nil) (by
            repeat' first | exact zj | refine zZ ?_ ?_ | exact zp | exact le_refl rfl | exact zk rfl rfl | exact xZ hlt (by omega))
    · have hge : i = b := by have := of_decide_eq_false h; simp only at this; omega
      subst hge
      repeat' first | refine zK ?_ | refine zA ?_ | refine zP [] ?_ | (refine isA ?_; refine zd rfl ?_) | (refine isL ?_; refine zU rfl (by kernel_rfl) rfl rfl ?_) | (refine zb rfl ?_; refine zT rfl (by kernel_rfl) rfl rfl ?_) | exact tV 1 [0] yf (by decide) (.cons rfl rfl rfl rfl (zX (zJ _ _)) .nil) | refine zD ?_ | refine zB _ rfl (by kernel_rfl) ?_ | refine zV rfl ?_ | refine zW rfl ?_ | refine zC ?_ | with_reducible refine zN ?_ | refine zH ?_ | refine zI ?_ | (with_reducible first | refine zL ?_ | refine zM ?_ | refine zE ?_ | refine zG ?_ | refine zF ?_) | refine zO ?_
end Go.Proofs.Ytojcojanokhnaaa.Ab
namespace Go.Proofs.Ytojcojanokhnaaa.Ab
open Go.RowKit
def uc (P X M Y Q : List Rw) (i : Nat) : List Rw := P ++ (Y.take i ++ X.drop i) ++ M ++ (X.take i ++ Y.drop i) ++ Q
theorem eG {U V W : List Rw} {x y : Rw} {u v : Nat} (hu : U.length = u) (hv : (U ++ x :: V).length = v) : ((U ++ x :: V ++ y :: W).set u y).set v x = U ++ y :: V ++ x :: W := by
  subst hu hv
  have h1 : (U ++ x :: V ++ y :: W).set U.length y = U ++ y :: V ++ y :: W := by
    rw [List.append_assoc, List.set_append_right _ _ (Nat.le_refl _), Nat.sub_self, List.append_assoc]; rfl
  have h2 : (U ++ x :: V).length = (U ++ y :: V).length := by simp
  rw [h1, h2, List.set_append_right _ _ (Nat.le_refl _), Nat.sub_self]
  rfl
theorem dA (P X M Y Q : List Rw) (n : Nat) (hX : X.length = n) (hY : Y.length = n) (hl : (P ++ X ++ M ++ Y ++ Q).length ≤ 100000000) : zz Go.Proofs.Try.prog 133 [.sl 0 0 (P ++ X ++ M ++ Y ++ Q).length, I P.length, I (P ++ X ++ M).length, I n, .fn 64 []] [rwR (P ++ X ++ M ++ Y ++ Q)] (.tup []) [rwR (P ++ Y ++ M ++ X ++ Q)] true := by
  have hlen : (P ++ X ++ M ++ Y ++ Q).length = P.length + n + M.length + n + Q.length := by simp [hX, hY]; omega
  have hb0 : (P ++ X ++ M).length = P.length + n + M.length := by simp [hX]; omega
  refine zw [] Go.Proofs.Try.func133 rfl rfl ?_
  simp only [Go.Proofs.Try.ntmps133, List.length_cons, List.length_nil, Nat.reduceAdd, Nat.reduceSub, List.replicate_succ, List.replicate_zero, List.cons_append, List.nil_append]
  repeat' first | refine zK ?_ | refine zA ?_ | refine zP [] ?_ | (refine isA ?_; refine zd rfl ?_) | (refine isL ?_; refine zU rfl (by kernel_rfl) rfl rfl ?_) | (refine zb rfl ?_; refine zT rfl (by kernel_rfl) rfl rfl ?_) | refine zD ?_ | refine zB _ rfl (by kernel_rfl) ?_ | refine zV rfl ?_ | refine zW rfl ?_ | refine zC ?_ | with_reducible refine zN ?_ | refine zH ?_ | refine zI ?_ | (with_reducible first | refine zL ?_ | refine zM ?_ | refine zE ?_ | refine zG ?_ | refine zF ?_) | refine zO ?_
  refine z9 (α := { i : Nat // i ≤ n }) (fun i => ⟨[.sl 0 0 (P ++ X ++ M ++ Y ++ Q).length, I P.length, I (P ++ X ++ M).length, I n, .any, .any, .any, .any, .any, .any, I i.1, .any, .any, .any, .any, .any, .any, .any, .any, .any, .any, .any, .any, .any, .any, .any, .any, .any, .any, .any, .any, .any, .any, .any, .any, .any, .any, .any], [rwR (uc P X M Y Q i.1)], 1⟩) (fun i => n - i.1) ⟨0, Nat.zero_le _⟩ ?_ ?_
  · exact xH 1 [0] rfl rfl yf (by decide) (.cons rfl rfl rfl rfl (ym (show rwT.flat (P ++ X ++ M ++ Y ++ Q) = rwT.flat (uc P X M Y Q 0) by simp [uc]) (zJ _ _)) .nil) (by repeat' first | exact zj | refine zZ ?_ ?_ | exact zp | exact le_refl rfl | exact zk rfl rfl | exact zx rfl)
  · rintro ⟨i, hi⟩
    repeat' first | refine zK ?_ | refine zA ?_ | refine zP [] ?_ | (refine isA ?_; refine zd rfl ?_) | (refine isL ?_; refine zU rfl (by kernel_rfl) rfl rfl ?_) | (refine zb rfl ?_; refine zT rfl (by kernel_rfl) rfl rfl ?_) | refine zD ?_ | refine zB _ rfl (by kernel_rfl) ?_ | refine zV rfl ?_ | refine zW rfl ?_ | refine zC ?_ | with_reducible refine zN ?_ | refine zH ?_ | refine zI ?_ | (with_reducible first | refine zL ?_ | refine zM ?_ | refine zE ?_ | refine zG ?_ | refine zF ?_) | refine zO ?_
    refine zh rfl (fun h => ?_) (fun h => ?_)
    · have hlt : i < n := by have := of_decide_eq_true h; simp only at this; omega
      obtain ⟨x, hx⟩ : ∃ z, X[i]? = some z := ⟨_, List.getElem?_eq_getElem (by omega)⟩
      obtain ⟨y, hy⟩ : ∃ z, Y[i]? = some z := ⟨_, List.getElem?_eq_getElem (by omega)⟩
      have hL : uc P X M Y Q i = (P ++ Y.take i) ++ x :: (X.drop (i + 1) ++ M ++ X.take i) ++ y :: (Y.drop (i + 1) ++ Q) := by
        rw [uc, yI hx, yI hy]; simp
      have hL2 : uc P X M Y Q (i + 1) = (P ++ Y.take i) ++ y :: (X.drop (i + 1) ++ M ++ X.take i) ++ x :: (Y.drop (i + 1) ++ Q) := by
        rw [uc, yw hx, yw hy]; simp
      have hu : (P ++ Y.take i).length = P.length + i := by simp; omega
      have hv : ((P ++ Y.take i) ++ x :: (X.drop (i + 1) ++ M ++ X.take i)).length = (P ++ X ++ M).length + i := by simp; omega
      have ea : IntKind.i64.wrap ((P.length : Int) + (i : Int)) = ((P.length + i : Nat) : Int) := by rw [IntKind.wrap_i64]; omega
      have eb : IntKind.i64.wrap (((P ++ X ++ M).length : Int) + (i : Int)) = (((P ++ X ++ M).length + i : Nat) : Int) := by rw [IntKind.wrap_i64]; omega
      have g0 : (uc P X M Y Q i)[0 + (P.length + i)]? = some x := by
        rw [hL, List.append_assoc, List.getElem?_append_right (by omega), hu, show 0 + (P.length + i) - (P.length + i) = 0 by omega]; rfl
      have g1 : (uc P X M Y Q i)[0 + ((P ++ X ++ M).length + i)]? = some y := by
        rw [hL, List.getElem?_append_right (by omega), hv, show 0 + ((P ++ X ++ M).length + i) - ((P ++ X ++ M).length + i) = 0 by omega]; rfl
      have g1' : ((uc P X M Y Q i).set (0 + (P.length + i)) y).length = (uc P X M Y Q i).length := List.length_set
      repeat' first | refine zK ?_ | refine zA ?_ | (refine isA ?_; refine zd rfl ?_) | (refine isL ?_; refine zU rfl (by kernel_rfl) rfl rfl ?_) | (refine zb rfl ?_; refine zT rfl (by kernel_rfl) rfl rfl ?_) | refine zD ?_ | refine zB _ rfl (by kernel_rfl) ?_ | refine zV rfl ?_ | refine zW rfl ?_ | refine zC ?_ | with_reducible refine zN ?_ | refine zH ?_ | refine zI ?_ | (with_reducible first | refine zL ?_ | refine zM ?_ | refine zE ?_ | refine zG ?_ | refine zF ?_) | refine zO ?_
      refine pi [21, 23] 24 rfl ?_
      refine yd 0 rfl (by kernel_rfl) rfl (fun _ => rfl) rfl ?_
      refine yd 1 rfl (by kernel_rfl) rfl (fun _ => rfl) rfl ?_
      refine yd 2 rfl (by kernel_rfl) rfl (fun _ => rfl) rfl ?_
      refine yd 3 rfl (by kernel_rfl) rfl (fun _ => rfl) rfl ?_
      refine yd 4 rfl (by kernel_rfl) rfl (fun _ => rfl) rfl ?_
      refine yd 5 rfl (by kernel_rfl) rfl (fun _ => rfl) rfl ?_
      refine yd 6 rfl (by kernel_rfl) rfl (fun _ => rfl) rfl ?_
      refine yd 7 rfl (by kernel_rfl) rfl (fun _ => rfl) rfl ?_
      refine yd 8 rfl (by kernel_rfl) rfl (fun _ => rfl) rfl ?_
      refine yd 9 rfl (by kernel_rfl) rfl (fun _ => rfl) rfl ?_
      refine yd 10 rfl (by kernel_rfl) rfl (fun _ => rfl) rfl ?_
      refine yd 11 rfl (by kernel_rfl) rfl (fun _ => rfl) rfl ?_
      refine xg 12 rfl (by kernel_rfl) rfl (zq (j := (((P ++ X ++ M).length + i : Nat) : Int)) rfl rfl rfl (Nat.zero_le _) rfl (congrArg I eb) (Int.natCast_nonneg _) (by omega)) rfl ?_
      refine xg 13 rfl (by kernel_rfl) rfl (yv (T := rwT) (i := 0 + ((P ++ X ++ M).length + i)) (z := y) rfl rfl rfl g1) rfl ?_
      refine yd 14 rfl (by kernel_rfl) rfl (fun _ => rfl) rfl ?_
      refine yd 15 rfl (by kernel_rfl) rfl (fun _ => rfl) rfl ?_
      refine yd 16 rfl (by kernel_rfl) rfl (fun _ => rfl) rfl ?_
      refine yd 17 rfl (by kernel_rfl) rfl (fun _ => rfl) rfl ?_
      refine xg 18 rfl (by kernel_rfl) rfl (zq (j := ((P.length + i : Nat) : Int)) rfl rfl rfl (Nat.zero_le _) rfl (congrArg I ea) (Int.natCast_nonneg _) (by omega)) rfl ?_
      refine xg 19 rfl (by kernel_rfl) rfl (yv (T := rwT) (i := 0 + (P.length + i)) (z := x) rfl rfl rfl g0) rfl ?_
      refine xg 20 rfl (by kernel_rfl) rfl (zq (j := ((P.length + i : Nat) : Int)) rfl rfl rfl (Nat.zero_le _) rfl (congrArg I ea) (Int.natCast_nonneg _) (by omega)) rfl ?_
      refine t8 21 rfl (by kernel_rfl) rfl rfl (t6 (T := rwT) (i := 0 + (P.length + i)) (z := y) rfl rfl rfl rfl rfl (List.getElem?_eq_some_iff.1 g0).1) rfl ?_
      refine xg 22 rfl (by kernel_rfl) rfl (zq (j := (((P ++ X ++ M).length + i : Nat) : Int)) rfl rfl rfl (Nat.zero_le _) rfl (congrArg I eb) (Int.natCast_nonneg _) (by omega)) rfl ?_
      refine t8 23 rfl (by kernel_rfl) rfl rfl (t6 (T := rwT) (i := 0 + ((P ++ X ++ M).length + i)) (z := x) rfl rfl rfl rfl rfl (by rw [List.length_set]; exact (List.getElem?_eq_some_iff.1 g1).1)) rfl ?_
      refine tJ (by kernel_rfl) ?_
      repeat' first | refine zK ?_ | refine zA ?_ | refine zP [] ?_ | (refine isA ?_; refine zd rfl ?_) | (refine isL ?_; refine zU rfl (by kernel_rfl) rfl rfl ?_) | (refine zb rfl ?_; refine zT rfl (by kernel_rfl) rfl rfl ?_) | refine zD ?_ | refine zB _ rfl (by kernel_rfl) ?_ | refine zV rfl ?_ | refine zW rfl ?_ | refine zC ?_ | with_reducible refine zN ?_ | refine zH ?_ | refine zI ?_ | (with_reducible first | refine zL ?_ | refine zM ?_ | refine zE ?_ | refine zG ?_ | refine zF ?_) | refine zO ?_
      refine ⟨⟨i + 1, hlt⟩, by simp only; omega, ?_⟩
      exact xH 1 [0] rfl rfl yf (by decide) (.cons rfl rfl rfl rfl (ym (show rwT.flat (((uc P X M Y Q i).set (0 + (P.length + i)) y).set (0 + ((P ++ X ++ M).length + i)) x) = rwT.flat (uc P X M Y Q (i + 1)) by rw [hL, Nat.zero_add, Nat.zero_add, eG hu hv, hL2]) (zJ _ _)) .nil) (by
        repeat' first | exact zj | refine zZ ?_ ?_ | exact zp | exact le_refl rfl | exact zk rfl rfl | exact xZ hlt (by omega))
    · have hge : i = n := by have := of_decide_eq_false h; simp only at this; omega
      subst hge
      have e : uc P X M Y Q i = P ++ Y ++ M ++ X ++ Q := by
        rw [uc, List.take_of_length_le (by omega), List.take_of_length_le (by omega), List.drop_of_length_le (by omega), List.drop_of_length_le (by omega)]; simp
      repeat' first | refine zK ?_ | refine zA ?_ | refine zP [] ?_ | (refine isA ?_; refine zd rfl ?_) | (refine isL ?_; refine zU rfl (by kernel_rfl) rfl rfl ?_) | (refine zb rfl ?_; refine zT rfl (by kernel_rfl) rfl rfl ?_) | exact tV 1 [0] yf (by decide) (.cons rfl rfl rfl rfl (ym (show rwT.flat (uc P X M Y Q i) = rwT.flat (P ++ Y ++ M ++ X ++ Q) by rw [e]) (zJ _ _)) .nil) | refine zD ?_ | refine zB _ rfl (by kernel_rfl) ?_ | refine zV rfl ?_ | refine zW rfl ?_ | refine zC ?_ | with_reducible refine zN ?_ | refine zH ?_ | refine zI ?_ | (with_reducible first | refine zL ?_ | refine zM ?_ | refine zE ?_ | refine zG ?_ | refine zF ?_) | refine zO ?_
end Go.Proofs.Ytojcojanokhnaaa.Ab
namespace Go.Proofs.Ytojcojanokhnaaa.Ab
open Go.RowKit
theorem pb {ds : List Rw} {L : Nat} {a b n : Int} (P X M Y Q : List Rw) (hd : ds = P ++ X ++ M ++ Y ++ Q) (hL : L = ds.length) (hl : L ≤ 100000000) (ha : a = (P.length : Int)) (hb : b = ((P ++ X ++ M).length : Int)) (hn : n = (X.length : Int)) (hY : Y.length = X.length) :
    zz Go.Proofs.Try.prog 133 [.sl 0 0 L, I a, I b, I n, .fn 64 []] [rwR ds] (.tup []) [rwR (P ++ Y ++ M ++ X ++ Q)] true := by
  subst hd hL ha hb hn
  exact dA P X M Y Q X.length rfl hY hl
structure RotI (m : Nat) (T : List Rw) (p : List Rw × List Rw × List Rw × List Rw) : Prop where
  m : p.1.length + p.2.1.length = m
  t : p.1 ++ p.2.2.1 ++ p.2.1 ++ p.2.2.2 = T
  x : 0 < p.2.1.length
  y : 0 < p.2.2.1.length
theorem RotI.len {m : Nat} {T : List Rw} {p : List Rw × List Rw × List Rw × List Rw} (h : RotI m T p) : (p.1 ++ p.2.1 ++ p.2.2.1 ++ p.2.2.2).length = T.length := by
  rw [← h.t]; simp; omega
theorem fX (P X Y Q : List Rw) (hx : 0 < X.length) (hy : 0 < Y.length) (hl : (P ++ X ++ Y ++ Q).length ≤ 100000000) : zz Go.Proofs.Try.prog 132 [.sl 0 0 (P ++ X ++ Y ++ Q).length, I P.length, I (P ++ X).length, I (P ++ X ++ Y).length, .fn 64 []] [rwR (P ++ X ++ Y ++ Q)] (.tup []) [rwR (P ++ Y ++ X ++ Q)] true := by
  obtain ⟨T, hT⟩ : ∃ T, T = P ++ Y ++ X ++ Q := ⟨_, rfl⟩
  have hTl : (P ++ X ++ Y ++ Q).length = T.length := by rw [hT]; simp; omega
  have l1 : (P ++ X).length = P.length + X.length := by simp
  have l2 : (P ++ X ++ Y).length = P.length + X.length + Y.length := by simp; omega
  have l3 : (P ++ X ++ Y ++ Q).length = P.length + X.length + Y.length + Q.length := by simp; omega
  have I0 : RotI (P ++ X).length T (P, X, Y, Q) := ⟨l1.symm, hT.symm, hx, hy⟩
  rw [← hT]
  generalize hm : (P ++ X).length = m at I0 l1 ⊢
  generalize hL : (P ++ X ++ Y ++ Q).length = L at hl hTl l3 ⊢
  refine zw [] Go.Proofs.Try.func132 rfl rfl ?_
  simp only [Go.Proofs.Try.ntmps132, List.length_cons, List.length_nil, Nat.reduceAdd, Nat.reduceSub, List.replicate_succ, List.replicate_zero, List.cons_append, List.nil_append]
  repeat' first | refine zK ?_ | refine zA ?_ | refine zP [] ?_ | (refine isA ?_; refine zd rfl ?_) | (refine isL ?_; refine zU rfl (by kernel_rfl) rfl rfl ?_) | (refine zb rfl ?_; refine zT rfl (by kernel_rfl) rfl rfl ?_) | refine zD ?_ | refine zB _ rfl (by kernel_rfl) ?_ | refine zV rfl ?_ | refine zW rfl ?_ | refine zC ?_ | with_reducible refine zN ?_ | refine zH ?_ | refine zI ?_ | (with_reducible first | refine zL ?_ | refine zM ?_ | refine zE ?_ | refine zG ?_ | refine zF ?_) | refine zO ?_
  refine z9 (α := { p : List Rw × List Rw × List Rw × List Rw // RotI m T p }) (fun p => ⟨[.sl 0 0 L, .any, I m, .any, .fn 64 [], .any, .any, .any, .any, .any, I p.1.2.1.length, I p.1.2.2.1.length, .any, .any, .any, .any, .any, .any, .any, .any, .any, .any, .any, .any, .any, .any, .any, .any, .any, .any, .any, .any, .any, .any, .any, .any, .any, .any, .any, .any, .any, .any, .any, .any, .any, .any, .any, .any, .any, .any, .any, .any, .any, .any, .any, .any, .any, .any], [rwR (p.1.1 ++ p.1.2.1 ++ p.1.2.2.1 ++ p.1.2.2.2)], 1⟩) (fun p => p.1.2.1.length + p.1.2.2.1.length) ⟨(P, X, Y, Q), I0⟩ ?_ ?_
  · exact xH 1 [0] rfl rfl yf (by decide) (.cons rfl rfl rfl rfl (zX (zJ _ _)) .nil) (by
      repeat' first | exact zj | refine zZ ?_ ?_ | exact zp | exact le_refl rfl | exact zk rfl rfl | exact yC (congrArg _ (show (X.length : Int) = IntKind.i64.wrap ((m : Int) - (P.length : Int)) by rw [IntKind.wrap_i64]; omega)) | exact yC (congrArg _ (show (Y.length : Int) = IntKind.i64.wrap (((P ++ X ++ Y).length : Int) - (m : Int)) by rw [IntKind.wrap_i64]; omega)))
  · rintro ⟨⟨A, C, D, E⟩, J⟩
    have j1 : A.length + C.length = m := J.m
    have j2 : A ++ D ++ C ++ E = T := J.t
    have j3 : 0 < C.length := J.x
    have j4 : 0 < D.length := J.y
    have j5 : (A ++ C ++ D ++ E).length = T.length := J.len
    have j6 : A.length + C.length + D.length + E.length = T.length := by rw [← j5]; simp; omega
    have e1 : IntKind.i64.wrap ((m : Int) - (C.length : Int)) = (A.length : Int) := by rw [IntKind.wrap_i64]; omega
    repeat' first | refine zK ?_ | refine zA ?_ | refine zP [] ?_ | (refine isA ?_; refine zd rfl ?_) | (refine isL ?_; refine zU rfl (by kernel_rfl) rfl rfl ?_) | (refine zb rfl ?_; refine zT rfl (by kernel_rfl) rfl rfl ?_) | refine zD ?_ | refine zB _ rfl (by kernel_rfl) ?_ | refine zV rfl ?_ | refine zW rfl ?_ | refine zC ?_ | with_reducible refine zN ?_ | refine zH ?_ | refine zI ?_ | (with_reducible first | refine zL ?_ | refine zM ?_ | refine zE ?_ | refine zG ?_ | refine zF ?_) | refine zO ?_
    refine zh rfl (fun h => ?_) (fun h => ?_)
    · have hne : C.length ≠ D.length := by intro e; simp [e] at h
      repeat' first | refine zK ?_ | refine zA ?_ | refine zP [] ?_ | (refine isA ?_; refine zd rfl ?_) | (refine isL ?_; refine zU rfl (by kernel_rfl) rfl rfl ?_) | (refine zb rfl ?_; refine zT rfl (by kernel_rfl) rfl rfl ?_) | refine zD ?_ | refine zB _ rfl (by kernel_rfl) ?_ | refine zV rfl ?_ | refine zW rfl ?_ | refine zC ?_ | with_reducible refine zN ?_ | refine zH ?_ | refine zI ?_ | (with_reducible first | refine zL ?_ | refine zM ?_ | refine zE ?_ | refine zG ?_ | refine zF ?_) | refine zO ?_
      refine zh rfl (fun q => ?_) (fun q => ?_)
      · have hgt : D.length < C.length := by have := of_decide_eq_true q; simp only at this; omega
        have t1 : (C.take D.length).length = D.length := by simp; omega
        have t2 : C.take D.length ++ C.drop D.length = C := List.take_append_drop _ _
        have sw := pb (ds := A ++ C ++ D ++ E) (L := L) (a := IntKind.i64.wrap ((m : Int) - (C.length : Int))) (b := (m : Int)) (n := (D.length : Int)) A (C.take D.length) (C.drop D.length) D E (by have q : A ++ (C.take D.length ++ C.drop D.length) ++ D ++ E = A ++ C.take D.length ++ C.drop D.length ++ D ++ E := (by simp only [List.append_assoc]); rw [t2] at q; exact q) (by omega) (by omega) e1 (by rw [List.append_assoc A, t2, List.length_append]; omega) (by omega) (by omega)
        repeat' first | refine zK ?_ | refine zA ?_ | refine zP [] ?_ | (refine isA ?_; refine zd rfl ?_) | (refine isL ?_; refine zU rfl (by kernel_rfl) rfl rfl ?_) | (refine zb rfl ?_; refine zT rfl (by kernel_rfl) rfl rfl ?_) | (refine zu 133 ?_; refine zc rfl (zo (K := []) (Rs' := [_]) [0] (by decide) rfl sw (.cons rfl rfl rfl (zJ _ _) (zJ _ _) .nil) (.cons (.sl rfl) (.cons (.same rfl) (.cons (.same rfl) (.cons (.same rfl) (.cons (.same rfl) .nil))))) (fun q hq => by cases hq) rfl) rfl ?_) | (refine zv 133 rfl ?_; refine zY rfl (by kernel_rfl) rfl (zo (K := []) (Rs' := [_]) [0] (by decide) rfl sw (.cons rfl rfl rfl (zJ _ _) (zJ _ _) .nil) (.cons (.sl rfl) (.cons (.same rfl) (.cons (.same rfl) (.cons (.same rfl) (.cons (.same rfl) .nil))))) (fun q hq => by cases hq) rfl) rfl ?_) | refine zD ?_ | refine zB _ rfl (by kernel_rfl) ?_ | refine zV rfl ?_ | refine zW rfl ?_ | refine zC ?_ | with_reducible refine zN ?_ | refine zH ?_ | refine zI ?_ | (with_reducible first | refine zL ?_ | refine zM ?_ | refine zE ?_ | refine zG ?_ | refine zF ?_) | refine zO ?_
        refine ⟨⟨(A ++ D, C.drop D.length, C.take D.length, E), ⟨by simp; omega, by rw [← j2]; simp only [List.append_assoc]; rw [← List.append_assoc (C.take D.length), t2], by simp; omega, by simp; omega⟩⟩, by simp only [List.length_drop, t1]; omega, ?_⟩
        exact xH 1 [0] rfl rfl yf (by decide) (.cons rfl rfl rfl rfl (zX (zJ _ _)) .nil) (by
          repeat' first | exact zj | refine zZ ?_ ?_ | exact zp | exact le_refl rfl | exact zk rfl rfl | exact yC (congrArg _ (show ((C.take D.length).length : Int) = (D.length : Int) by omega)) | exact yC (congrArg _ (show ((C.drop D.length).length : Int) = IntKind.i64.wrap ((C.length : Int) - (D.length : Int)) by rw [IntKind.wrap_i64, List.length_drop]; omega)))
      · have hlt : C.length < D.length := by have := of_decide_eq_false q; simp only at this; omega
        have t1 : (D.drop (D.length - C.length)).length = C.length := by simp; omega
        have t2 : D.take (D.length - C.length) ++ D.drop (D.length - C.length) = D := List.take_append_drop _ _
        have t3 : (D.take (D.length - C.length)).length = D.length - C.length := by simp
        have sw := pb (ds := A ++ C ++ D ++ E) (L := L) (a := IntKind.i64.wrap ((m : Int) - (C.length : Int))) (b := IntKind.i64.wrap (IntKind.i64.wrap ((m : Int) + (D.length : Int)) - (C.length : Int))) (n := (C.length : Int)) A C (D.take (D.length - C.length)) (D.drop (D.length - C.length)) E (by have q : A ++ C ++ (D.take (D.length - C.length) ++ D.drop (D.length - C.length)) ++ E = A ++ C ++ D.take (D.length - C.length) ++ D.drop (D.length - C.length) ++ E := (by simp only [List.append_assoc]); rw [t2] at q; exact q) (by omega) (by omega) e1 (by
          rw [show IntKind.i64.wrap ((m : Int) + (D.length : Int)) = (m : Int) + D.length by rw [IntKind.wrap_i64]; omega, IntKind.wrap_i64, List.length_append, List.length_append, t3]; omega) rfl t1
        repeat' first | refine zK ?_ | refine zA ?_ | refine zP [] ?_ | (refine isA ?_; refine zd rfl ?_) | (refine isL ?_; refine zU rfl (by kernel_rfl) rfl rfl ?_) | (refine zb rfl ?_; refine zT rfl (by kernel_rfl) rfl rfl ?_) | (refine zu 133 ?_; refine zc rfl (zo (K := []) (Rs' := [_]) [0] (by decide) rfl sw (.cons rfl rfl rfl (zJ _ _) (zJ _ _) .nil) (.cons (.sl rfl) (.cons (.same rfl) (.cons (.same rfl) (.cons (.same rfl) (.cons (.same rfl) .nil))))) (fun q hq => by cases hq) rfl) rfl ?_) | (refine zv 133 rfl ?_; refine zY rfl (by kernel_rfl) rfl (zo (K := []) (Rs' := [_]) [0] (by decide) rfl sw (.cons rfl rfl rfl (zJ _ _) (zJ _ _) .nil) (.cons (.sl rfl) (.cons (.same rfl) (.cons (.same rfl) (.cons (.same rfl) (.cons (.same rfl) .nil))))) (fun q hq => by cases hq) rfl) rfl ?_) | refine zD ?_ | refine zB _ rfl (by kernel_rfl) ?_ | refine zV rfl ?_ | refine zW rfl ?_ | refine zC ?_ | with_reducible refine zN ?_ | refine zH ?_ | refine zI ?_ | (with_reducible first | refine zL ?_ | refine zM ?_ | refine zE ?_ | refine zG ?_ | refine zF ?_) | refine zO ?_
        refine ⟨⟨(A, D.drop (D.length - C.length), D.take (D.length - C.length), C ++ E), ⟨by simp only; omega, by rw [← j2]; simp only [List.append_assoc]; rw [← List.append_assoc (D.take (D.length - C.length)), t2], by simp only; omega, by simp only; omega⟩⟩, by simp only [t1, t3]; omega, ?_⟩
        exact xH 1 [0] rfl rfl yf (by decide) (.cons rfl rfl rfl rfl (ym (congrArg rwT.flat (by simp)) (zJ _ _)) .nil) (by
          repeat' first | exact zj | refine zZ ?_ ?_ | exact zp | exact le_refl rfl | exact zk rfl rfl | exact yC (congrArg _ (show ((D.drop (D.length - C.length)).length : Int) = (C.length : Int) by omega)) | exact yC (congrArg _ (show ((D.take (D.length - C.length)).length : Int) = IntKind.i64.wrap ((D.length : Int) - (C.length : Int)) by rw [IntKind.wrap_i64, t3]; omega)))
    · have heq : C.length = D.length := by have : (C.length : Int) = D.length := (by simpa using h); omega
      have sw := pb (ds := A ++ C ++ D ++ E) (L := L) (a := IntKind.i64.wrap ((m : Int) - (C.length : Int))) (b := (m : Int)) (n := (C.length : Int)) A C [] D E (by simp) (by omega) (by omega) e1 (by simp; omega) rfl heq.symm
      repeat' first | refine zK ?_ | refine zA ?_ | refine zP [] ?_ | (refine isA ?_; refine zd rfl ?_) | (refine isL ?_; refine zU rfl (by kernel_rfl) rfl rfl ?_) | (refine zb rfl ?_; refine zT rfl (by kernel_rfl) rfl rfl ?_) | (refine zu 133 ?_; refine zc rfl (zo (K := []) (Rs' := [_]) [0] (by decide) rfl sw (.cons rfl rfl rfl (zJ _ _) (zJ _ _) .nil) (.cons (.sl rfl) (.cons (.same rfl) (.cons (.same rfl) (.cons (.same rfl) (.cons (.same rfl) .nil))))) (fun q hq => by cases hq) rfl) rfl ?_) | (refine zv 133 rfl ?_; refine zY rfl (by kernel_rfl) rfl (zo (K := []) (Rs' := [_]) [0] (by decide) rfl sw (.cons rfl rfl rfl (zJ _ _) (zJ _ _) .nil) (.cons (.sl rfl) (.cons (.same rfl) (.cons (.same rfl) (.cons (.same rfl) (.cons (.same rfl) .nil))))) (fun q hq => by cases hq) rfl) rfl ?_) | exact tV 1 [0] yf (by decide) (.cons rfl rfl rfl rfl (ym (congrArg rwT.flat (by rw [← j2]; simp)) (zJ _ _)) .nil) | refine zD ?_ | refine zB _ rfl (by kernel_rfl) ?_ | refine zV rfl ?_ | refine zW rfl ?_ | refine zC ?_ | with_reducible refine zN ?_ | refine zH ?_ | refine zI ?_ | (with_reducible first | refine zL ?_ | refine zM ?_ | refine zE ?_ | refine zG ?_ | refine zF ?_) | refine zO ?_
end Go.Proofs.Ytojcojanokhnaaa.Ab
namespace Go.Proofs.Ytojcojanokhnaaa.Ab
open Go.RowKit
theorem qc {xs : List Rw} (h : Srt xs) (u : Nat) : ∀ x ∈ xs.take u, ∀ y ∈ xs.drop u, leW x y := by
  have h' : Srt (xs.take u ++ xs.drop u) := by rw [List.take_append_drop]; exact h
  exact (List.pairwise_append.1 h').2.2
theorem pa {A B : List Rw} {u v : Nat} (hA : Srt A) (hB : Srt B) (hu : u ≤ A.length) (h : ∀ x y, 0 < u → A[u - 1]? = some x → B[v]? = some y → leW x y) : ∀ x ∈ A.take u, ∀ y ∈ B.drop v, leW x y := fun x hx y hy => by
  obtain ⟨i, hi⟩ := List.getElem?_of_mem hx
  obtain ⟨j, hj⟩ := List.getElem?_of_mem hy
  have hlt : i < u := by
    have := (List.getElem?_eq_some_iff.1 hi).1
    simp at this
    omega
  rw [List.getElem?_take_of_lt hlt] at hi
  rw [List.getElem?_drop] at hj
  have hvl := (List.getElem?_eq_some_iff.1 hj).1
  obtain ⟨x', hx'⟩ : ∃ z, A[u - 1]? = some z := ⟨_, List.getElem?_eq_getElem (by omega)⟩
  obtain ⟨y', hy'⟩ : ∃ z, B[v]? = some z := ⟨_, List.getElem?_eq_getElem (by omega)⟩
  exact xa (uG hA (show i ≤ u - 1 by omega) hi hx') (xa (h x' y' (by omega) hx' hy') (uG hB (Nat.le_add_right v j) hy' hj))
theorem mn {A B : List Rw} {u v : Nat} (hA : Srt A) (hB : Srt B) (hu : u ≤ A.length) (hv : v ≤ B.length) (h1 : ∀ x y, 0 < u → A[u - 1]? = some x → B[v]? = some y → leW x y) (h2 : ∀ y x, 0 < v → B[v - 1]? = some y → A[u]? = some x → leW y x) :
    yL (A.take u ++ B.take v) ++ yL (A.drop u ++ B.drop v) = yL (A ++ B) := by
  refine wm ?_ ?_
  · refine List.pairwise_append.2 ⟨xX _, xX _, fun x hx y hy => ?_⟩
    have hx' := (ya _).mem_iff.1 hx
    have hy' := (ya _).mem_iff.1 hy
    rcases List.mem_append.1 hx' with hx' | hx' <;> rcases List.mem_append.1 hy' with hy' | hy'
    · exact qc hA u x hx' y hy'
    · exact pa hA hB hu h1 x hx' y hy'
    · exact pa hB hA hv h2 x hx' y hy'
    · exact qc hB v x hx' y hy'
  · refine ((ya _).append (ya _)).trans ?_
    have e : (A ++ B).Perm ((A.take u ++ A.drop u) ++ (B.take v ++ B.drop v)) := by rw [List.take_append_drop, List.take_append_drop]
    refine List.Perm.trans ?_ e.symm
    rw [List.append_assoc, List.append_assoc]
    refine List.Perm.append_left _ ?_
    rw [← List.append_assoc, ← List.append_assoc]
    exact List.Perm.append_right _ List.perm_append_comm
end Go.Proofs.Ytojcojanokhnaaa.Ab
