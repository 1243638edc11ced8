/-
  THE OPERATIONS THAT TURN MEMORY.
-/
import Derived.Test.YtkcicbigpbdjpaaAbF
import Derived.Deep.Draws
namespace Go.Proofs.Ytkcicbigpbdjpaa.Ab
open Go.RowKit
set_option linter.unusedVariables false
set_option linter.unusedSimpArgs false

/-- One cell may hold it. -/
def oneV : V → Bool
  | .k v => v.oneCell'
  | .agg _ | .tup _ | .any => false
  | _ => true

/-- A value's cells. -/
def cellsV : V → Option (List V)
  | .k v => some (v.cells.toList.map .k)
  | .agg cs => some cs
  | .any => none
  | v => some [v]

section
variable {C : Cx} {A : Nat → Prop} {φ : List Hd} {H : List Reg} {w w' : World} {P : Program} {o : Oper} {ρ : Operand → V}

theorem cells_rel {v : V} {x : Value} {cs : List V} (h : Rel A w φ v x) (hc : cellsV v = some cs) : x.cells.size = cs.length ∧ Rels A w φ cs (fun i => x.cells[i]?) := by
  cases v with
  | k u =>
    simp only [Rel] at h
    subst h
    simp only [cellsV, Option.some.injEq] at hc
    subst hc
    refine ⟨by simp, rels_iff.2 fun i c hi => ?_⟩
    rw [List.getElem?_map, Array.getElem?_toList] at hi
    cases hu : x.cells[i]? with
    | none => rw [hu] at hi; simp at hi
    | some y => rw [hu] at hi; simp at hi; subst hi; exact ⟨y, rfl, by simp [Rel]⟩
  | agg cs' =>
    simp only [cellsV, Option.some.injEq] at hc
    subst hc
    rw [Rel] at h
    obtain ⟨xs, rfl, h1, h2⟩ := h
    exact ⟨h1, h2⟩
  | any => simp [cellsV] at hc
  | lst n cs' =>
    simp only [cellsV, Option.some.injEq] at hc
    subst hc
    have h' := h
    rw [Rel] at h'
    obtain ⟨ad, cap, rfl, _⟩ := h'
    exact ⟨rfl, by rw [Rels, Rels]; exact ⟨⟨_, rfl, h⟩, trivial⟩⟩
  | sl h0 off len =>
    simp only [cellsV, Option.some.injEq] at hc
    subst hc
    have h' := h
    rw [Rel] at h'
    obtain ⟨hd, _, ⟨rfl, _⟩ | ⟨_, _, _, _, rfl⟩⟩ := h'
    · exact ⟨rfl, by rw [Rels, Rels]; exact ⟨⟨_, rfl, h⟩, trivial⟩⟩
    · exact ⟨rfl, by rw [Rels, Rels]; exact ⟨⟨_, rfl, h⟩, trivial⟩⟩
  | ptr h0 off =>
    simp only [cellsV, Option.some.injEq] at hc
    subst hc
    have h' := h
    rw [Rel] at h'
    obtain ⟨hd, b, _, _, rfl⟩ := h'
    exact ⟨rfl, by rw [Rels, Rels]; exact ⟨⟨_, rfl, h⟩, trivial⟩⟩
  | pref cs' =>
    simp only [cellsV, Option.some.injEq] at hc
    subst hc
    have h' := h
    rw [Rel] at h'
    obtain ⟨b, off, rfl, _⟩ := h'
    exact ⟨rfl, by rw [Rels, Rels]; exact ⟨⟨_, rfl, h⟩, trivial⟩⟩
  | tup cs' =>
    simp only [cellsV, Option.some.injEq] at hc
    subst hc
    have h' := h
    rw [Rel] at h'
    obtain ⟨xs, rfl, _⟩ := h'
    exact ⟨rfl, by rw [Rels, Rels]; exact ⟨⟨_, rfl, h⟩, trivial⟩⟩
  | fn f cs' =>
    simp only [cellsV, Option.some.injEq] at hc
    subst hc
    have h' := h
    rw [Rel] at h'
    obtain ⟨xs, rfl, _⟩ := h'
    exact ⟨rfl, by rw [Rels, Rels]; exact ⟨⟨_, rfl, h⟩, trivial⟩⟩

theorem one_rel {v : V} {x : Value} (h : Rel A w φ v x) (ho : oneV v = true) : x.oneCell' = true := by
  cases v with
  | k u => simp only [Rel] at h; subst h; exact ho
  | lst n cs' => rw [Rel] at h; obtain ⟨ad, cap, rfl, _⟩ := h; rfl
  | sl h0 off len => rw [Rel] at h; obtain ⟨hd, _, ⟨rfl, _⟩ | ⟨_, _, _, _, rfl⟩⟩ := h <;> rfl
  | ptr h0 off => rw [Rel] at h; obtain ⟨hd, b, _, _, rfl⟩ := h; rfl
  | pref cs' => rw [Rel] at h; obtain ⟨b, off, rfl, _⟩ := h; rfl
  | fn f cs' => rw [Rel] at h; obtain ⟨xs, rfl, _⟩ := h; rfl
  | agg cs' => cases ho
  | tup cs' => cases ho
  | any => cases ho

/-! ### Cells that are put in -/
def setCells (cells : List V) (off : Nat) (vs : List V) : List V := cells.take off ++ vs ++ cells.drop (off + vs.length)

theorem setCells_length {cells vs : List V} {off : Nat} (h : off + vs.length ≤ cells.length) : (setCells cells off vs).length = cells.length := by
  simp [setCells]; omega

theorem setCells_rels {cells vs : List V} {off : Nat} {g g' u : Nat → Option Value} (h : off + vs.length ≤ cells.length) (hc : Rels A w φ cells g) (hv : Rels A w φ vs u)
    (h1 : ∀ i, i < cells.length → (i < off ∨ off + vs.length ≤ i) → g' i = g i) (h2 : ∀ j, j < vs.length → g' (off + j) = u j) : Rels A w φ (setCells cells off vs) g' := by
  have hl : (cells.take off).length = off := by simp; omega
  unfold setCells
  rw [List.append_assoc]
  refine rels_append (rels_congr (rels_take hc off) fun i hi => h1 i (by omega) (Or.inl (by omega))) (rels_append (rels_congr hv fun i hi => by rw [hl]; exact h2 i hi) (rels_congr (rels_drop hc _) fun i hi => ?_))
  simp only [List.length_drop] at hi
  rw [hl]
  have := h1 (off + vs.length + i) (by omega) (Or.inr (by omega))
  rw [← Nat.add_assoc]
  exact this

theorem fold_set (off : Nat) : ∀ (vs : List Value) (k : Nat) (c : Array Value), ((vs.zipIdx k).foldl (fun cs (x : Value × Nat) => cs.setIfInBounds (off + x.2) x.1) c).size = c.size ∧
    ∀ i, ((vs.zipIdx k).foldl (fun cs (x : Value × Nat) => cs.setIfInBounds (off + x.2) x.1) c)[i]? = if off + k ≤ i ∧ i < off + k + vs.length ∧ i < c.size then vs[i - (off + k)]? else c[i]?
  | [], k, c => by
    refine ⟨rfl, fun i => ?_⟩
    rw [if_neg (by simp; omega)]
    rfl
  | v :: vs, k, c => by
    obtain ⟨h1, h2⟩ := fold_set off vs (k + 1) (c.setIfInBounds (off + k) v)
    simp only [List.zipIdx_cons, List.foldl_cons]
    refine ⟨by rw [h1]; simp, fun i => ?_⟩
    rw [h2 i]
    simp only [Array.size_setIfInBounds, List.length_cons]
    by_cases hi : off + (k + 1) ≤ i ∧ i < off + (k + 1) + vs.length ∧ i < c.size
    · rw [if_pos hi, if_pos (by omega)]
      have : i - (off + k) = (i - (off + (k + 1))) + 1 := by omega
      rw [this, List.getElem?_cons_succ]
    · rw [if_neg hi]
      by_cases he : i = off + k ∧ i < c.size
      · obtain ⟨rfl, hlt⟩ := he
        rw [if_pos (by omega)]
        simp [hlt]
      · by_cases he' : i = off + k
        · subst he'
          rw [if_neg (by omega)]
          have hge : c.size ≤ off + k := by omega
          rw [Array.getElem?_eq_none (by simpa using hge), Array.getElem?_eq_none hge]
        · rw [if_neg (by omega), Array.getElem?_setIfInBounds_ne (by omega)]

def fillV (place : Nat → Option (Nat × Nat)) (cells : List V) : List (Nat × V) → Option (List V)
  | [] => some cells
  | (i, v) :: rest => match place i, cellsV v with
    | some (off, size), some vs => if vs.length = size ∧ off + vs.length ≤ cells.length then fillV place (setCells cells off vs) rest else none
    | _, _ => none

theorem fill_rel {place : Nat → Option (Nat × Nat)} {a : Act} : ∀ {ps : List (Nat × Operand)} {cells cs' : List V} {c : Array Value}, (∀ p ∈ ps, Rel A w φ (ρ p.2) (a.eval p.2)) →
    fillV place cells (ps.map fun p => (p.1, ρ p.2)) = some cs' → c.size = cells.length → Rels A w φ cells (fun i => c[i]?) →
    ∃ c', Instr.fill place c (ps.map fun p => (p.1, a.eval p.2)) = some c' ∧ c'.size = cs'.length ∧ Rels A w φ cs' (fun i => c'[i]?)
  | [], cells, cs', c, _, h, hs, hr => by
    simp only [List.map_nil, fillV, Option.some.injEq] at h
    subst h
    exact ⟨c, rfl, hs, hr⟩
  | (i, x) :: ps, cells, cs', c, hp, h, hs, hr => by
    simp only [List.map_cons, fillV] at h
    simp only [List.map_cons, Instr.fill]
    cases hpl : place i with
    | none => rw [hpl] at h; simp at h
    | some q =>
      obtain ⟨off, size⟩ := q
      rw [hpl] at h
      cases hcv : cellsV (ρ x) with
      | none => rw [hcv] at h; simp at h
      | some vs =>
        rw [hcv] at h
        simp only at h
        split at h
        · rename_i hc
          obtain ⟨k1, k2⟩ := cells_rel (hp (i, x) (by simp)) hcv
          simp only
          rw [if_neg (by simp [k1, hc.1]; omega)]
          obtain ⟨f1, f2⟩ := fold_set off (a.eval x).cells.toList 0 c
          have hfold : Array.foldl (fun cs (x : Value × Nat) => cs.setIfInBounds (off + x.2) x.1) c (a.eval x).cells.zipIdx = ((a.eval x).cells.toList.zipIdx 0).foldl (fun cs (x : Value × Nat) => cs.setIfInBounds (off + x.2) x.1) c := by
            rw [← Array.foldl_toList, Array.toList_zipIdx]
          refine fill_rel (fun p hm => hp p (by simp [hm])) h ?_ ?_
          · rw [setCells_length hc.2, ← hs]
            exact (congrArg Array.size hfold).trans f1
          · refine setCells_rels hc.2 hr k2 (fun j hj hjo => ?_) (fun j hj => ?_)
            · refine (congrArg (fun z : Array Value => z[j]?) hfold).trans ?_
              have k1' : (a.eval x).cells.size = vs.length := k1
              rw [f2 j, if_neg (by simp only [Array.length_toList]; omega)]
            · have k1' : (a.eval x).cells.size = vs.length := k1
              refine (congrArg (fun z : Array Value => z[off + j]?) hfold).trans ?_
              rw [f2 (off + j), if_pos (by simp only [Array.length_toList]; omega)]
              simp
        · cases h

/-- The places of a struct type's fields. -/
class Pl (P : Program) (t : TypeId) (ps : outParam (List (Nat × Nat))) : Prop where
  u : ∃ fs, P.underlying t = some (.struct fs) ∧ ∀ w, (fs.mapM fun f => (do pure (f.offset, ← sizeOf f.type) : Sem (Nat × Nat))).run P w = .ok ps.toArray w

theorem run_zeroValue {t : TypeId} {zs : List Value} [hz : Ze P t zs] (w : World) : ∃ z, (zeroValue t).run P w = .ok z w ∧ z.cells.toList = zs := by
  obtain ⟨i, z, h1, h2, h3⟩ := hz.z
  exact ⟨z, by simp [zeroValue, typeInfo, h1, h2], h3⟩

theorem zeros_rels {z : Value} {zs : List Value} (h : z.cells.toList = zs) : Rels A w φ (zs.map V.k) (fun i => z.cells[i]?) ∧ z.cells.size = (zs.map V.k).length := by
  subst h
  refine ⟨rels_iff.2 fun i c hi => ?_, by simp⟩
  rw [List.getElem?_map, Array.getElem?_toList] at hi
  cases hu : z.cells[i]? with
  | none => rw [hu] at hi; simp at hi
  | some y => rw [hu] at hi; simp at hi; subst hi; exact ⟨y, rfl, by simp [Rel]⟩

theorem step_build {t : TypeId} {zs : List Value} {pl : List (Nat × Nat)} {ps : List (Nat × Operand)} {cs : List V} [hz : Ze P t zs] [hp : Pl P t pl] (ho : o.op = .build t ps.toArray)
    (hf : fillV (pl[·]?) (zs.map V.k) (ps.map fun p => (p.1, ρ p.2)) = some cs) : Step P o ρ H (.agg cs) H := step_pure fun A φ a w hok hh => by
  have hx : ∀ p ∈ ps, Rel A w φ (ρ p.2) (a.eval p.2) := fun p hm => hh p.2 (by simp only [ho, Op.operands]; simpa using ⟨p.1, hm⟩)
  obtain ⟨fs, h1, h2⟩ := hp.u
  obtain ⟨z, h3, h4⟩ := run_zeroValue (P := P) (t := t) w
  obtain ⟨h5, h6⟩ := zeros_rels (A := A) (w := w) (φ := φ) h4
  obtain ⟨c', k1, k2, k3⟩ := fill_rel hx hf h6 h5
  refine ⟨.agg c', ?_, by rw [Rel]; exact ⟨c', rfl, k2, k3⟩⟩
  have e1 : (List.map (fun p : Nat × Operand => (p.1, a.eval p.2)) ps) = (ps.toArray.map fun (i, x) => (i, a.eval x)).toList := by simp
  simp only [execOp, ho, Instr.build, Sem.run_bind, h3, Result.andThen_ok, run_underlying h1, h2 w]
  rw [e1] at k1
  have k1' : Instr.fill (fun x => pl.toArray[x]?) z.cells (ps.toArray.map fun (i, x) => (i, a.eval x)).toList = some c' := by
    rw [← k1]
    congr 1
    funext i
    simp
  rw [k1']
  rfl

/-! ### A new row -/
theorem alloc_inv (hA : InvA C A φ H w) {c : Array Value} {e cap esz : Nat} {cells : List V} (hc : c.size = cap * esz) (hcap : cap ≤ maxLen) (hl : cells.length ≤ c.size) (hr : Rels A w φ cells (fun i => c[i]?)) (n : Nat) :
    InvA C A (φ ++ [⟨some w.heap.size, cap, esz, e⟩]) (H ++ [⟨e, esz, cells, 0⟩]) ((w.drewN n).alloc (.cells c e)) :=
  hA.add (fun h ⟨hd, r, h1, h2, h3, h4⟩ => by
      obtain ⟨_, e2⟩ := hA.ok.regs h hd r h1 h2 (by omega)
      rw [h4] at e2
      obtain ⟨c', k1, _⟩ := e2
      rw [Array.getElem?_eq_none (Nat.le_refl _)] at k1
      cases k1)
    (fun hb => absurd (hA.ok.low _ hb) (Nat.lt_irrefl _)) (fun i hi _ => Below.heap_alloc (w.drewN n) _ i hi) (by simp [World.alloc]) (Or.inl hA.frame.size) rfl rfl rfl (Go.heap_alloc_new (w.drewN n) _) hc hcap hl hr

theorem alloc_old (hA : InvA C A φ H w) (o : Obj) (n : Nat) : ∀ b, A b → A b ∧ ((w.drewN n).alloc o).heap[b]? = w.heap[b]? := fun b hb => ⟨hb, Below.heap_alloc (w.drewN n) _ b (hA.ok.low b hb)⟩

theorem new_rel {hd : Hd} (hA : InvA C A φ H w) {len : Nat} {b : Nat} (hb : hd.blk = some b) (hl : len ≤ hd.cap) (w' : World) : Rel A w' (φ ++ [hd]) (.sl H.length 0 len) (.slice (some ⟨b, 0, none⟩) len hd.cap) := by
  rw [Rel]
  refine ⟨hd, ?_, Or.inl ⟨?_, by omega⟩⟩
  · rw [← hA.ok.len]; simp
  · simp [hb]

theorem newp_rel {hd : Hd} (hA : InvA C A φ H w) {b : Nat} (hb : hd.blk = some b) (w' : World) : Rel A w' (φ ++ [hd]) (.ptr H.length 0) (.pointer (some ⟨b, 0, none⟩)) := by
  rw [Rel]
  exact ⟨hd, b, by rw [← hA.ok.len]; simp, hb, rfl⟩

theorem step_alloc {t : TypeId} {zs : List Value} [hz : Ze P t zs] (ho : o.op = .alloc t) : Step P o ρ H (.ptr H.length 0) (H ++ [⟨t, zs.length, zs.map V.k, 0⟩]) := step_frame fun C A φ a w hA hh => by
  obtain ⟨z, h3, h4⟩ := run_zeroValue (P := P) (t := t) w
  obtain ⟨h5, h6⟩ := zeros_rels (A := A) (w := w) (φ := φ) h4
  refine ⟨.pointer (some ⟨w.heap.size, 0, none⟩), (w.drewN 0).alloc (.cells z.cells t), A, _, Or.inl ?_, alloc_inv hA (cap := 1) (by rw [h6]; simp) (by simp [maxLen]) (by rw [h6]; exact Nat.le_refl _) h5 0, alloc_old hA _ 0, fun h hd hh => app_left hh, newp_rel hA rfl _⟩
  simp [execOp, ho, Instr.alloc, h3, newVar, newRow, World.drewN_zero]

theorem step_box {t n : TypeId} {x : Operand} {cs : List V} (ho : o.op = .box t x) (hx : cellsV (ρ x) = some cs) (hn : cs.length = n) : Step P o ρ H (.ptr H.length 0) (H ++ [⟨t, n, cs, 0⟩]) := step_frame fun C A φ a w hA hh => by
  obtain ⟨k1, k2⟩ := cells_rel (hh x (by simp [ho, Op.operands])) hx
  refine ⟨.pointer (some ⟨w.heap.size, 0, none⟩), (w.drewN 0).alloc (.cells (a.eval x).cells t), A, _, Or.inl ?_, alloc_inv hA (cap := 1) (by rw [k1, hn]; simp) (by simp [maxLen]) (by rw [k1]; exact Nat.le_refl _) k2 0, alloc_old hA _ 0, fun h hd hh => app_left hh, newp_rel hA rfl _⟩
  simp [execOp, ho, Instr.box, newVar, newRow, World.drewN_zero]

theorem anys_rels (n : Nat) (c : Array Value) (hc : c.size = n) : Rels A w φ (List.replicate n V.any) (fun i => c[i]?) := rels_iff.2 fun i v hi => by
  have hlt := (List.getElem?_eq_some_iff.1 hi).1
  simp only [List.length_replicate] at hlt
  have := List.mem_of_getElem? hi
  obtain rfl := List.eq_of_mem_replicate this
  exact ⟨c[i], by simp [show i < c.size by omega], by simp [Rel]⟩

theorem step_buildSlice {t e n b len : Nat} {ps : List (Nat × Operand)} {cs : List V} [ht : Sl P t e n b] (ho : o.op = .buildSlice t len ps.toArray) (hlen : len * n ≤ 16777216)
    (hf : fillV (fun i => some (i * n, n)) (List.replicate (len * n) V.any) (ps.map fun p => (p.1, ρ p.2)) = some cs) (hcs : cs.length = len * n) : Step P o ρ H (.sl H.length 0 len) (H ++ [⟨e, n, cs, 0⟩]) := step_frame fun C A φ a w hA hh => by
  have hx : ∀ p ∈ ps, Rel A w φ (ρ p.2) (a.eval p.2) := fun p hm => hh p.2 (by simp only [ho, Op.operands]; simpa using ⟨p.1, hm⟩)
  obtain ⟨i, z, i1, i2, i3, i4, i5⟩ := ht.i
  have hpos := ht.pos
  have e1 : (List.map (fun p : Nat × Operand => (p.1, a.eval p.2)) ps) = (ps.toArray.map fun (i, x) => (i, a.eval x)).toList := by simp
  have key : ∀ c0 : Array Value, c0.size = len * n → ∃ c', Instr.fill (fun i => some (i * n, n)) c0 (ps.toArray.map fun (i, x) => (i, a.eval x)).toList = some c' ∧ c'.size = cs.length ∧ Rels A w φ cs (fun i => c'[i]?) := fun c0 h0 => by
    rw [← e1]
    exact fill_rel hx hf (by simp [h0]) (anys_rels _ c0 h0)
  have hle : ¬ (len * n > 2 ^ 24) := by omega
  have fin : ∀ c', c'.size = cs.length → Rels A w φ cs (fun i => c'[i]?) → ((execOp a.eval o).run P w = .ok (.value (.slice (some ⟨w.heap.size, 0, none⟩) len len)) (w.alloc (.cells c' e))) → _ := fun c' k2 k3 hrun => 
    (⟨.slice (some ⟨w.heap.size, 0, none⟩) len len, (w.drewN 0).alloc (.cells c' e), A, _, Or.inl hrun, alloc_inv hA (cap := len) (by rw [k2, hcs]) (by simp [maxLen]; have := Nat.le_mul_of_pos_right len hpos; omega) (by rw [k2]; exact Nat.le_refl _) k3 0, alloc_old hA _ 0, fun h hd hh => app_left hh, new_rel hA rfl (Nat.le_refl _) _⟩ : ∃ x w' A' φ', ((execOp a.eval o).run P w = .ok (.value x) w' ∨ ((execOp a.eval o).run P w = .ok .skip w' ∧ x = undef)) ∧ InvA C A' φ' (H ++ [⟨e, n, cs, 0⟩]) w' ∧ (∀ b, A b → A' b ∧ w'.heap[b]? = w.heap[b]?) ∧ (∀ (h : Nat) (hd : Hd), φ[h]? = some hd → φ'[h]? = some hd) ∧ Rel A' w' φ' (.sl H.length 0 len) x)
  by_cases h0 : len * n = 0
  · obtain ⟨c', k1, k2, k3⟩ := key ((Array.range (len * n)).map (fun i => (#[] : Array Value)[i % (#[] : Array Value).size]!)) (by simp)
    refine fin c' k2 k3 ?_
    simp only [execOp, ho, Instr.buildSlice, Sem.run_bind, run_underlying ht.u, Result.andThen_ok, sizeOf, typeInfo, run_program, i1, Sem.run_pure, i2, if_neg hle]
    rw [if_pos h0]
    rw [Sem.run_bind, Sem.run_pure, Result.andThen_ok, k1]
    simp [newRow]
  · obtain ⟨c', k1, k2, k3⟩ := key ((Array.range (len * n)).map (fun i => z.cells[i % z.cells.size]!)) (by simp)
    refine fin c' k2 k3 ?_
    simp only [execOp, ho, Instr.buildSlice, Sem.run_bind, run_underlying ht.u, Result.andThen_ok, sizeOf, typeInfo, run_program, i1, Sem.run_pure, i2, if_neg hle]
    rw [if_neg h0]
    simp only [zeroValue, Sem.run_bind, typeInfo, run_program, i1, i4, Sem.run_pure, Result.andThen_ok, k1]
    simp [newRow]
end

end Go.Proofs.Ytkcicbigpbdjpaa.Ab
