/-
  ROWS WRITTEN IN PLACE: append where there is room, copy, clear, a slice beyond its length, cap, slices.overlaps.
-/
import Derived.Test.YtkcicbigpbdjpaaAbY
import Derived.Lib.Overlaps
namespace Go.Proofs.Ytkcicbigpbdjpaa.Ab
open Go.RowKit
set_option linter.unusedVariables false
set_option linter.unusedSimpArgs false

section
variable {C : Cx} {A A' : Nat → Prop} {φ φ' : List Hd} {H : List Reg} {w w' : World} {P : Program} {o : Oper} {ρ : Operand → V}

theorem take_setN {α : Type} (cs vs : List α) (k : Nat) (h : k + vs.length ≤ cs.length) : (cs.take k ++ vs ++ cs.drop (k + vs.length)).length = cs.length := by
  simp only [List.length_append, List.length_take, List.length_drop]
  omega

/-- The cells that a run of stores leaves behind. -/
theorem stored_rels {cs vs : List V} {cur news : List Value} {k : Nat} (hcs : Rels A w φ cs (fun i => cur[i]?)) (hl : cs.length ≤ cur.length) (hvs : Rels A w φ vs (fun i => news[i]?)) (hn : news.length = vs.length) (hk : k + vs.length ≤ cs.length) :
    Rels A w φ (setCells cs k vs) (fun i => (cur.take k ++ news ++ cur.drop (k + news.length)).toArray[i]?) := by
  rw [setCells, List.append_assoc]
  refine rels_append (rels_congr (rels_take hcs k) fun j hj => ?_) (rels_append (rels_congr hvs fun j hj => ?_) (rels_congr (rels_drop hcs (k + vs.length)) fun j hj => ?_))
  · simp only [List.length_take] at hj
    simp only [List.getElem?_toArray, List.append_assoc]
    rw [List.getElem?_append_left (by simp; omega), List.getElem?_take, if_pos (by omega)]
  · simp only [List.getElem?_toArray, List.append_assoc, List.length_take]
    rw [List.getElem?_append_right (by simp; omega), List.getElem?_append_left (by simp; omega)]
    congr 1
    simp
    omega
  · simp only [List.length_drop] at hj
    simp only [List.getElem?_toArray, List.append_assoc, List.length_take]
    rw [List.getElem?_append_right (by simp; omega), List.getElem?_append_right (by simp; omega), List.getElem?_drop]
    congr 1
    simp
    omega

/-- A run of values, stored into a row of one's own. -/
theorem InvA.stored (hA : InvA C A φ H w) {h b : Nat} {hd : Hd} {r : Reg} {cur : Array Value} {k : Nat} {vs : List V} {news : List Value} (hφ : φ[h]? = some hd) (hH : H[h]? = some r) (hm : r.mode = 0) (hb : hd.blk = some b)
    (hg : w.heap[b]? = some (.cells cur hd.e (0, 0))) (hs : cur.size = hd.cap * hd.esz) (hl : r.cells.length ≤ cur.size) (hr : Rels A w φ r.cells (fun i => cur[i]?)) (hk : k + vs.length ≤ r.cells.length) (hn : news.length = vs.length) (hv : Rels A w φ vs (fun i => news[i]?)) :
    InvA C A φ (H.set h { r with cells := setCells r.cells k vs }) (w.setRow b (cur.toList.take k ++ news ++ cur.toList.drop (k + news.length)).toArray) := by
  have hlg : LiveAt φ H h b := ⟨hd, r, hφ, hH, hm, hb⟩
  refine hA.upd hφ hH hm hb (fun i hi => setRow_other w b i _ hi) (by simp) rfl rfl rfl (setRow_heap w b cur _ hd.e (0, 0) hg) ?_ ?_ ?_
  · rw [← hs]
    simp only [List.size_toArray, List.length_append, List.length_take, List.length_drop, Array.length_toList]
    omega
  · rw [setCells_length hk]
    simp only [List.size_toArray, List.length_append, List.length_take, List.length_drop, Array.length_toList]
    omega
  · exact stored_rels (by simpa using hr) (by simpa using hl) hv hn hk

theorem zeroCells_list (z : Array Value) (n : Nat) : (Builtin.zeroCells z n).toList = (List.replicate n z.toList).flatten := by
  have key : ∀ n, (List.range (n * z.size)).map (fun i => z[i % z.size]!) = (List.replicate n z.toList).flatten := fun n => by
    induction n with
    | zero => simp
    | succ n ih =>
      rw [Nat.succ_mul, Nat.add_comm, List.range_add, List.map_append, List.replicate_succ, List.flatten_cons, ← ih, List.map_map]
      congr 1
      · refine List.ext_getElem (by simp) fun i h1 h2 => ?_
        have hi : i < z.size := by simpa using h1
        simp [Nat.mod_eq_of_lt hi, hi]
      · refine List.map_congr_left fun i _ => ?_
        simp [Function.comp]
  rw [← key n]
  simp [Builtin.zeroCells]

theorem set_same' {α : Type} {l : List α} {i : Nat} {x : α} (h : l[i]? = some x) : l.set i x = l := by
  refine List.ext_getElem? fun j => ?_
  rw [List.getElem?_set]
  split
  · rename_i e
    subst e
    split
    · exact h.symm
    · rename_i hn
      exact absurd (List.getElem?_eq_some_iff.1 h).1 hn
  · rfl

theorem setCells_nil (cs : List V) (k : Nat) : setCells cs k [] = cs := by simp [setCells]

/-- append where the row is known to have room: in place. -/
theorem step_append_at {s x : Operand} {t e n b h m k : Nat} {r : Reg} {src : List V} [ht : Sl P t e n b] (ho : o.op = .call { callee := .builtin .append, args := #[s, x], argTypes := #[t, t] })
    (hs : ρ s = .sl h 0 k) (hr : H[h]? = some r) (hm : r.mode = 0) (he : r.e = e) (hes : r.esz = n) (hk : (k + m) * n ≤ r.cells.length) (hx : Src H (ρ x) m src) (hsl : src.length = m * n) (h1 : ∀ c ∈ src, oneV c = true) :
    Step P o ρ H (.sl h 0 (k + m)) (H.set h { r with cells := setCells r.cells (k * n) src }) := step_frame fun C A φ a w hA hh => by
  have hs1 := hh s (by simp [ho, Op.operands, Call.operands])
  have hx1 := hh x (by simp [ho, Op.operands, Call.operands])
  obtain ⟨ad, c, news, ex, n1, n2, n3, n4⟩ := src_vals hx hA.ok hx1 h1
  rw [hs, Rel] at hs1
  obtain ⟨hd, e1, ⟨e2, e3⟩ | ⟨p1, _⟩⟩ := hs1
  rotate_left
  · omega
  obtain ⟨⟨f1, f2, f3⟩, f4⟩ := hA.ok.regs h hd r e1 hr (by omega)
  obtain ⟨i, z, i1, i2, i3, i4, i5⟩ := ht.i
  have hpos := ht.pos
  subst he
  have hnl : news.length = m * n := n1.trans hsl
  have hop : ∀ (v : Value) (w' : World), (Builtin.append_ #[t, t] o.type #[a.eval s, a.eval x]).run P w = .ok v w' → (execOp a.eval o).run P w = .ok (.value v) w' := fun v w' hv => by
    simp only [execOp, ho, resolve, Sem.run_bind]
    simp [invoke, builtin, hv]
  have hesz : hd.esz = n := f1.trans hes
  have hroom : k + m ≤ hd.cap := by
    cases hblk : hd.blk with
    | none =>
      rw [hblk] at f4
      rw [f4.1] at hk
      rcases Nat.mul_eq_zero.1 (Nat.le_zero.1 hk) with h | h <;> omega
    | some g =>
      rw [hblk] at f4
      obtain ⟨cur, g1, g2, g3, g4⟩ := f4
      have : (k + m) * n ≤ hd.cap * n := by rw [← hesz, ← g2, hesz]; exact Nat.le_trans hk g3
      exact Nat.le_of_mul_le_mul_right this hpos
  have hrel : ∀ W, Rel A W φ (.sl h 0 (k + m)) (.slice (hd.blk.map fun b => ⟨b, 0, none⟩) (k + m) hd.cap) := fun W => by
    rw [Rel]
    exact ⟨hd, e1, Or.inl ⟨by simp, by omega⟩⟩
  by_cases hsrc : src = []
  · have hm0 : m = 0 := by
      rw [hsrc] at hsl
      rcases Nat.mul_eq_zero.1 (show m * n = 0 by simpa using hsl.symm) with h | h
      · exact h
      · omega
    subst hm0
    subst hsrc
    have hrun := run_append_zero (P := P) (w := w) (t := t) (ty := o.type) (base := hd.blk.map fun b => (⟨b, 0, none⟩ : Addr)) (ad := ad) (c := c) (show k ≤ hd.cap by omega)
    refine ⟨.slice (hd.blk.map fun b => ⟨b, 0, none⟩) k hd.cap, w, A, φ, Or.inl (hop _ _ ?_), ?_, fun b hb => ⟨hb, rfl⟩, fun h hd hh => hh, hrel w⟩
    · rw [e2, ex]
      simpa using hrun
    · rw [setCells_nil, set_same' hr]
      exact hA
  · have hm0 : m ≠ 0 := by
      rintro rfl
      rw [Nat.zero_mul] at hsl
      exact hsrc (List.length_eq_zero_iff.1 hsl)
    cases hblk : hd.blk with
    | none =>
      rw [hblk] at f4
      omega
    | some g =>
      rw [hblk] at f4 e2
      obtain ⟨cur, g1, g2, g3, g4⟩ := f4
      rcases n4 with n4 | ⟨ad', rfl, n4⟩
      · exact absurd n4 hsrc
      have e2' : a.eval s = .slice (some ⟨g, 0, none⟩) k hd.cap := by rw [e2]; simp
      have hkm : k * n + m * n ≤ r.cells.length := by rw [← Nat.add_mul]; exact hk
      have hfit : k * i.size + news.length ≤ cur.size := by rw [i2, hnl]; omega
      have hrun := run_append_room (P := P) w t o.type r.e i ht.u i1 g k hd.cap cur (by rw [g1, f2]) ad' m c news (by rw [hnl, i2]) n4 n2 hroom hfit
      rw [← e2', ← ex] at hrun
      rw [i2] at hfit hrun
      have hst := hA.stored (k := k * n) (vs := src) (news := news) e1 hr hm hblk g1 g2 g3 g4 (by rw [hsl]; exact hkm) n1 n3
      refine ⟨_, _, A, φ, Or.inl (hop _ _ hrun), hst, fun b' hb' => ⟨hb', setRow_other w g b' _ fun e => hA.ok.apart h g ⟨hd, r, e1, hr, hm, hblk⟩ (e ▸ hb')⟩, fun h hd hh => hh, ?_⟩
      have := hrel (w.setRow g (cur.toList.take (k * n) ++ news ++ cur.toList.drop (k * n + news.length)).toArray)
      rw [hblk] at this
      exact this

/-- copy into a row of one's own. -/
theorem step_copy {d x : Operand} {t t' e n b h off dl m p : Nat} {r : Reg} {src : List V} [ht : Sl P t e n b] (ho : o.op = .call { callee := .builtin .copy, args := #[d, x], argTypes := #[t, t'] })
    (hs : ρ d = .sl h off dl) (hr : H[h]? = some r) (hm : r.mode = 0) (hes : r.esz = n) (hdl : 0 < dl) (hk : (off + dl) * n ≤ r.cells.length) (hx : Src H (ρ x) m src) (hsl : src.length = m * n) (hp : p = Nat.min m dl) (h1 : ∀ c ∈ src, oneV c = true) :
    Step P o ρ H (I p) (H.set h { r with cells := setCells r.cells (off * n) (src.take (p * n)) }) := step_frame fun C A φ a w hA hh => by
  have hs1 := hh d (by simp [ho, Op.operands, Call.operands])
  have hx1 := hh x (by simp [ho, Op.operands, Call.operands])
  obtain ⟨ad, c, news, ex, n1, n2, n3, n4⟩ := src_vals hx hA.ok hx1 h1
  rw [hs, Rel] at hs1
  obtain ⟨hd, e1, ⟨e2, e3⟩ | ⟨p1, p2, _⟩⟩ := hs1
  rotate_left
  · omega
  obtain ⟨⟨f1, f2, f3⟩, f4⟩ := hA.ok.regs h hd r e1 hr (by omega)
  obtain ⟨i, z, i1, i2, i3, i4, i5⟩ := ht.i
  have hpos := ht.pos
  have hpm : p ≤ m ∧ p ≤ dl := by rw [hp]; exact ⟨Nat.min_le_left _ _, Nat.min_le_right _ _⟩
  have hpmn : p * n ≤ m * n := Nat.mul_le_mul_right _ hpm.1
  have hnl : (news.take (p * n)).length = p * n := by rw [List.length_take, n1, hsl]; exact Nat.min_eq_left hpmn
  have hsl' : (src.take (p * n)).length = p * n := by rw [List.length_take, hsl]; exact Nat.min_eq_left hpmn
  have hn3 : Rels A w φ (src.take (p * n)) (fun i => (news.take (p * n))[i]?) := rels_congr (rels_take n3 _) fun j hj => by
    rw [hsl'] at hj
    rw [List.getElem?_take, if_pos hj]
  have hop : ∀ (v : Value) (w' : World), (Builtin.copy_ #[t, t'] o.type #[a.eval d, a.eval x]).run P w = .ok v w' → (execOp a.eval o).run P w = .ok (.value v) w' := fun v w' hv => by
    simp only [execOp, ho, resolve, Sem.run_bind]
    simp [invoke, builtin, hv]
  have hesz : hd.esz = n := f1.trans hes
  cases hblk : hd.blk with
  | none =>
    rw [hblk] at f4
    omega
  | some g =>
    rw [hblk] at f4 e2
    obtain ⟨cur, g1, g2, g3, g4⟩ := f4
    have e2' : a.eval d = .slice (some ⟨g, off * n, none⟩) dl (hd.cap - off) := by rw [e2, hesz]; simp
    have hkm : off * n + (src.take (p * n)).length ≤ r.cells.length := by
      have : p * n ≤ dl * n := Nat.mul_le_mul_right _ hpm.2
      rw [Nat.add_mul] at hk
      omega
    have hst := hA.stored (k := off * n) (vs := src.take (p * n)) (news := news.take (p * n)) e1 hr hm hblk g1 g2 g3 g4 hkm (hnl.trans hsl'.symm) hn3
    have hsto := run_storeCells_at P g (off * n) hd.e (news.take (p * n)) 0 cur w g1 (by rw [Nat.add_zero, hnl]; omega) (fun u hu => n2 u (List.mem_of_mem_take hu))
    simp only [Nat.add_zero] at hsto
    refine ⟨.int .i64 p, _, A, φ, Or.inl (hop _ _ ?_), hst, fun b' hb' => ⟨hb', setRow_other w g b' _ fun e => hA.ok.apart h g ⟨hd, r, e1, hr, hm, hblk⟩ (e ▸ hb')⟩, fun h hd hh => hh, by simp [Rel]⟩
    rw [e2', ex]
    by_cases hsrc : src = []
    · have hm0 : m = 0 := by
        rw [hsrc] at hsl
        rcases Nat.mul_eq_zero.1 (show m * n = 0 by simpa using hsl.symm) with h | h
        · exact h
        · omega
      have hp0 : p = 0 := by omega
      subst hm0
      subst hp0
      have hn0 : news.take (0 * n) = [] := List.length_eq_zero_iff.1 (by rw [hnl, Nat.zero_mul])
      rw [hn0] at hsto ⊢
      have hf0 : ∀ (q : Option Addr), (Builtin.firstCells n 0 (.slice q 0 c)).run P w = .ok #[] w := fun q => by
        cases q with
        | none => simp [Builtin.firstCells]
        | some q => exact run_firstCells_some w n 0 q 0 c [] (by simp) (fun j v hj => by simp at hj)
      simp [Builtin.copy_, run_underlying ht.u, Builtin.lenOf, sizeOf, typeInfo, i1, i2, ← hp, hf0, hsto, goInt]
    · rcases n4 with n4 | ⟨ad', rfl, n4⟩
      · exact absurd n4 hsrc
      have hf := run_firstCells_some (P := P) w n p ad' m c (news.take (p * n)) hnl (fun j v hj => n4 j v (by rw [List.getElem?_take] at hj; split at hj; exact hj; cases hj))
      simp [Builtin.copy_, run_underlying ht.u, Builtin.lenOf, sizeOf, typeInfo, i1, i2, ← hp, hf, hsto, goInt]

/-- clear. -/
theorem step_clear {x : Operand} {t e n b h off m : Nat} {r : Reg} {zs : List Value} [ht : Sl P t e n b] [hz : Ze P e zs] (ho : o.op = .call { callee := .builtin .clear, args := #[x], argTypes := #[t] })
    (hx : ρ x = .sl h off m) (hr : H[h]? = some r) (hm : r.mode = 0) (hes : r.esz = n) (hzn : zs.length = n) (hz1 : ∀ v ∈ zs, v.oneCell' = true) (hk : (off + m) * n ≤ r.cells.length) :
    Step P o ρ H (.tup []) (H.set h { r with cells := setCells r.cells (off * n) (List.replicate m (zs.map V.k)).flatten }) := step_frame fun C A φ a w hA hh => by
  have hx1 := hh x (by simp [ho, Op.operands, Call.operands])
  have hop : ∀ (v : Value) (w' : World), (Builtin.clear_ #[t] o.type #[a.eval x]).run P w = .ok v w' → (execOp a.eval o).run P w = .ok (.value v) w' := fun v w' hv => by
    simp only [execOp, ho, resolve, Sem.run_bind]
    simp [invoke, builtin, hv]
  have hres : ∀ W : World, Rel A W φ (.tup []) (.tuple #[]) := fun W => by
    rw [Rel]
    exact ⟨#[], rfl, rfl, by simp [Rels]⟩
  rw [hx, Rel] at hx1
  obtain ⟨hd, e1, e2⟩ := hx1
  by_cases hm0 : m = 0
  · subst hm0
    refine ⟨.tuple #[], w, A, φ, Or.inl (hop _ _ ?_), ?_, fun b hb => ⟨hb, rfl⟩, fun h hd hh => hh, hres w⟩
    · obtain ⟨ad, c, e3⟩ : ∃ ad c, a.eval x = .slice ad 0 c := by
        rcases e2 with ⟨e2, _⟩ | ⟨_, _, ad, e2⟩
        · exact ⟨_, _, e2⟩
        · exact ⟨_, _, e2⟩
      rw [e3]
      cases ad <;> simp [Builtin.clear_, run_underlying ht.u]
    · rw [List.replicate_zero, List.flatten_nil, setCells_nil, set_same' hr]
      exact hA
  · obtain ⟨e2, e3⟩ | ⟨p1, p2, _⟩ := e2
    rotate_left
    · omega
    obtain ⟨⟨f1, f2, f3⟩, f4⟩ := hA.ok.regs h hd r e1 hr (by omega)
    have hesz : hd.esz = n := f1.trans hes
    have hpos := ht.pos
    cases hblk : hd.blk with
    | none =>
      rw [hblk] at f4
      omega
    | some g =>
      rw [hblk] at f4 e2
      obtain ⟨cur, g1, g2, g3, g4⟩ := f4
      obtain ⟨z, z1, z2⟩ := run_zeroValue (P := P) (t := e) (zs := zs) w
      have e2' : a.eval x = .slice (some ⟨g, off * n, none⟩) m (hd.cap - off) := by rw [e2, hesz]; simp
      have hzc : (Builtin.zeroCells z.cells m).toList = (List.replicate m zs).flatten := by
        rw [← z2]
        exact zeroCells_list z.cells m
      have hlen : ((List.replicate m zs).flatten).length = m * n := by simp [hzn]
      have hlenV : ((List.replicate m (zs.map V.k)).flatten).length = m * n := by simp [hzn]
      have hrr : Rels A w φ ((List.replicate m (zs.map V.k)).flatten) (fun i => ((List.replicate m zs).flatten)[i]?) := by
        rw [show (List.replicate m (zs.map V.k)).flatten = ((List.replicate m zs).flatten).map V.k by simp [List.map_flatten]]
        refine rels_iff.2 fun i c hc => ?_
        rw [List.getElem?_map] at hc
        cases hq : (List.replicate m zs).flatten[i]? with
        | none => rw [hq] at hc; simp at hc
        | some u =>
          rw [hq] at hc
          simp only [Option.map_some, Option.some.injEq] at hc
          subst hc
          exact ⟨u, rfl, by simp [Rel]⟩
      have hkm : off * n + m * n ≤ r.cells.length := by rw [← Nat.add_mul]; exact hk
      have hst := hA.stored (k := off * n) (vs := (List.replicate m (zs.map V.k)).flatten) (news := (List.replicate m zs).flatten) e1 hr hm hblk g1 g2 g3 g4 (by rw [hlenV]; exact hkm) (by rw [hlen, hlenV]) hrr
      have hsto := run_storeCells_at P g (off * n) hd.e ((List.replicate m zs).flatten) 0 cur w g1 (by rw [Nat.add_zero, hlen]; omega) (fun v hv => by
        obtain ⟨l, hl, hvl⟩ := List.mem_flatten.1 hv
        rw [List.eq_of_mem_replicate hl] at hvl
        exact hz1 v hvl)
      simp only [Nat.add_zero] at hsto
      refine ⟨.tuple #[], _, A, φ, Or.inl (hop _ _ ?_), hst, fun b' hb' => ⟨hb', setRow_other w g b' _ fun e => hA.ok.apart h g ⟨hd, r, e1, hr, hm, hblk⟩ (e ▸ hb')⟩, fun h hd hh => hh, hres _⟩
      rw [e2']
      obtain ⟨m', rfl⟩ : ∃ m', m = m' + 1 := ⟨m - 1, by omega⟩
      simp [Builtin.clear_, run_underlying ht.u, z1, hzc, hsto]

/-- A slice of a row of one's own, up to what is known of the row. -/
theorem step_slice_room {t e n b m hh0 off : Nat} {x : Operand} {lo hi : Option Operand} {l h : Int} {r : Reg} [ht : Sl P t e n b] (ho : o.op = .slice t x lo hi none) (hx : ρ x = .sl hh0 off m) (hr0 : H[hh0]? = some r) (hm : r.mode ≤ 1) (hes : r.esz = n) (hlo : Bd ρ lo 0 l) (hhi : Bd ρ hi m h)
    (h0 : 0 ≤ l) (h1 : l ≤ h) (h2 : (off + h.toNat) * n ≤ r.cells.length) (hmp : 0 < m ∨ off = 0) : Step P o ρ H (.sl hh0 (off + l.toNat) (h.toNat - l.toNat)) H := step_pure fun A φ a w hok hh => by
  have hx1 := hh x (by simp [ho, Op.operands])
  have b1 := bd_eval hlo (fun y hy => hh y (by simp [ho, Op.operands, hy]))
  have b2 := bd_eval hhi (fun y hy => hh y (by simp [ho, Op.operands, hy]))
  have hpos := ht.pos
  rw [hx, Rel] at hx1
  obtain ⟨hd, e1, ⟨e2, e3⟩ | ⟨p1, p2, ad, e2⟩⟩ := hx1
  rotate_left
  · omega
  obtain ⟨⟨f1, _⟩, f2⟩ := hok.regs hh0 hd r e1 hr0 hm
  have hcap : off + h.toNat ≤ hd.cap := by
    cases hblk : hd.blk with
    | none =>
      rw [hblk] at f2
      rw [f2.1] at h2
      rcases Nat.mul_eq_zero.1 (Nat.le_zero.1 h2) with h | h <;> omega
    | some g =>
      rw [hblk] at f2
      obtain ⟨cur, g1, g2, g3, g4⟩ := f2
      have : (off + h.toNat) * n ≤ hd.cap * n := by rw [← hes, ← f1, ← g2, f1, hes]; exact Nat.le_trans h2 g3
      exact Nat.le_of_mul_le_mul_right this hpos
  have hr := run_part (P := P) (w := w) (ad := hd.blk.map fun b => ⟨b, off * hd.esz, none⟩) (cap := hd.cap - off) (t := t) b1 b2 h0 h1 (by omega)
  refine ⟨.slice (if hd.cap - off = l.toNat then (hd.blk.map fun b => (⟨b, off * hd.esz, none⟩ : Addr)) else (hd.blk.map fun b => (⟨b, off * hd.esz, none⟩ : Addr)).map (·.add (l.toNat * n))) (h.toNat - l.toNat) (hd.cap - off - l.toNat), ?_, ?_⟩
  · simp only [execOp, ho, e2, Option.map_none]
    rw [Sem.run_bind, hr]
    rfl
  · rw [Rel]
    refine ⟨hd, e1, ?_⟩
    by_cases hz : hd.cap - off = l.toNat ∧ 0 < off + l.toNat
    · exact Or.inr ⟨by omega, by omega, _, by rw [show h.toNat - l.toNat = 0 by omega, show hd.cap - off - l.toNat = 0 by omega]⟩
    · refine Or.inl ⟨?_, by omega⟩
      by_cases hz2 : hd.cap - off = l.toNat
      · have : off = 0 ∧ l.toNat = 0 := by omega
        rw [if_pos hz2, this.1, this.2]
        simp
      · rw [if_neg hz2, Option.map_map]
        congr 1
        · congr 1
          funext b'
          simp only [Function.comp, Addr.plus, f1, hes, Nat.add_mul]
        · omega
end
end Go.Proofs.Ytkcicbigpbdjpaa.Ab
