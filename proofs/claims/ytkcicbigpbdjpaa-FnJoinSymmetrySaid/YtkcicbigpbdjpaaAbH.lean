/-
  STORES, APPENDS, PARTS OF SLICES, make.
-/
import Derived.Test.YtkcicbigpbdjpaaAbG
namespace Go.Proofs.Ytkcicbigpbdjpaa.Ab
open Go.RowKit
set_option linter.unusedVariables false
set_option linter.unusedSimpArgs false

section
variable {C : Cx} {A : Nat → Prop} {φ : List Hd} {H : List Reg} {w w' : World} {P : Program} {o : Oper} {ρ : Operand → V}

theorem cellsV_one {v : V} (h : oneV v = true) : cellsV v = some [v] := by
  cases v with
  | k u => cases u <;> first | rfl | cases h
  | agg cs => cases h
  | tup cs => cases h
  | any => cases h
  | _ => rfl

theorem setCells_one {cells : List V} {off : Nat} {v : V} (h : off < cells.length) : setCells cells off [v] = cells.set off v := by
  unfold setCells
  rw [List.set_eq_take_append_cons_drop, if_pos h]
  simp

theorem step_store_gen {t n : TypeId} {x y : Operand} {h off : Nat} {r : Reg} {vs : List V} (hs : ∀ w, (sizeOf t).run P w = .ok n w) (ho : o.op = .store t x y) (hx : ρ x = .ptr h off) (hy : cellsV (ρ y) = some vs) (hn : vs.length = n)
    (h1 : ∀ c ∈ vs, oneV c = true) (hr : H[h]? = some r) (hm : r.mode = 0) (hc : off + n ≤ r.cells.length) : Step P o ρ H (.k undef) (H.set h { r with cells := setCells r.cells off vs }) := step_frame fun C A φ a w hA hh => by
  have hx1 := hh x (by simp [ho, Op.operands])
  obtain ⟨k1, k2⟩ := cells_rel (hh y (by simp [ho, Op.operands])) hy
  rw [hx, Rel] at hx1
  obtain ⟨hd, b, e1, e2, e3⟩ := hx1
  obtain ⟨f1, f2⟩ := hA.ok.regs h hd r e1 hr (by omega)
  rw [e2] at f2
  obtain ⟨c, g1, g2, g3, g4⟩ := f2
  have hlen : (a.eval y).cells.toList.length = n := by rw [Array.length_toList, k1, hn]
  have hone : ∀ v ∈ (a.eval y).cells.toList, v.oneCell' = true := fun v hv => by
    obtain ⟨i, hi⟩ := List.getElem?_of_mem hv
    rw [Array.getElem?_toList] at hi
    have hlt : i < vs.length := by rw [← k1]; exact (Array.getElem?_eq_some_iff.1 hi).1
    obtain ⟨y', q1, q2⟩ := rels_get k2 (List.getElem?_eq_getElem hlt)
    have q1' : (a.eval y).cells[i]? = some y' := q1
    rw [hi] at q1'
    cases q1'
    exact one_rel q2 (h1 _ (List.getElem_mem hlt))
  have hrun := run_storeCells_at P b off hd.e (a.eval y).cells.toList 0 c w g1 (by rw [hlen]; omega) hone
  simp only [Nat.add_zero, hlen] at hrun
  refine ⟨undef, w.setRow b (c.toList.take off ++ (a.eval y).cells.toList ++ c.toList.drop (off + n)).toArray, A, φ, Or.inr ⟨?_, rfl⟩,
    hA.upd e1 hr hm e2 (fun i hi => setRow_other w b i _ hi) (by simp) rfl rfl rfl (setRow_heap w b c _ hd.e (0, 0) g1) ?_ ?_ ?_, fun b' hb' => ⟨hb', setRow_other w b b' _ fun e => hA.ok.apart h b ⟨hd, r, e1, hr, hm, e2⟩ (e ▸ hb')⟩, fun _ _ h => h, by simp [Rel]⟩
  · simp only [execOp, ho, e3, Instr.storeAt, Instr.sureAddr, Sem.run_bind, Sem.run_pure, Result.andThen_ok, storeVar, hs]
    rw [if_neg (by rw [k1, hn]; simp)]
    rw [hrun]
    rfl
  · rw [← g2]
    simp only [List.size_toArray, List.length_append, List.length_take, List.length_drop, hlen, Array.length_toList]
    omega
  · rw [setCells_length (by omega)]
    simp only [List.size_toArray, List.length_append, List.length_take, List.length_drop, hlen, Array.length_toList]
    omega
  · refine setCells_rels (g := fun i => c[i]?) (u := fun i => (a.eval y).cells[i]?) (by omega) g4 k2 (fun i hi hio => ?_) (fun j hj => ?_)
    · simp only [List.getElem?_toArray]
      rcases hio with hio | hio
      · rw [List.append_assoc, List.getElem?_append_left (by simp; omega), List.getElem?_take, if_pos hio, Array.getElem?_toList]
      · rw [List.getElem?_append_right (by simp; omega), List.getElem?_drop, Array.getElem?_toList]
        congr 1
        simp only [List.length_append, List.length_take, Array.length_toList, k1, hn]
        omega
    · simp only [List.getElem?_toArray]
      rw [List.append_assoc, List.getElem?_append_right (by simp; omega), List.getElem?_append_left (by simp; omega), Array.getElem?_toList]
      congr 1
      simp
      omega

theorem step_store {t : TypeId} {x y : Operand} {h off : Nat} {r : Reg} {v : V} [ht : Sc P t] (ho : o.op = .store t x y) (hx : ρ x = .ptr h off) (hy : ρ y = v) (h1 : oneV v = true) (hr : H[h]? = some r) (hm : r.mode = 0) (hc : off < r.cells.length) : Step P o ρ H (.k undef) (H.set h { r with cells := r.cells.set off v }) := by
  rw [← setCells_one hc]
  exact step_store_gen ht.s ho hx (by rw [hy]; exact cellsV_one h1) rfl (by simpa using h1) hr hm hc

theorem step_stores {t n : TypeId} {x y : Operand} {h off : Nat} {r : Reg} {vs : List V} [ht : Ag P t n] (ho : o.op = .store t x y) (hx : ρ x = .ptr h off) (hy : ρ y = .agg vs) (hn : vs.length = n) (h1 : ∀ c ∈ vs, oneV c = true) (hr : H[h]? = some r) (hm : r.mode = 0) (hc : off + n ≤ r.cells.length) : Step P o ρ H (.k undef) (H.set h { r with cells := setCells r.cells off vs }) :=
  step_store_gen ht.s ho hx (by rw [hy]; rfl) hn h1 hr hm hc

/-! ### Parts of a slice -/
/-- A bound that is given, or not. -/
inductive Bd (ρ : Operand → V) : Option Operand → Int → Int → Prop where
  | no (d : Int) : Bd ρ none d d
  | yes {y : Operand} {k : IntKind} {j : Int} (d : Int) (h : ρ y = .k (.int k j)) : Bd ρ (some y) d j

theorem bd_eval {a : Act} {lo : Option Operand} {d j : Int} (hb : Bd ρ lo d j) (hh : ∀ y, lo = some y → Rel A w φ (ρ y) (a.eval y)) : (lo = none ∧ j = d) ∨ ∃ k, lo.map a.eval = some (.int k j) := by
  cases hb with
  | no => exact Or.inl ⟨rfl, rfl⟩
  | yes d h => exact Or.inr ⟨_, by rw [Option.map_some, k_of h (hh _ rfl)]⟩

theorem run_bounds {P : Program} {w : World} {a : Act} {lo hi : Option Operand} {l h : Int} {len cap : Nat} (isSl : Bool) (hlo : (lo = none ∧ l = 0) ∨ ∃ k, lo.map a.eval = some (.int k l)) (hhi : (hi = none ∧ h = len) ∨ ∃ k, hi.map a.eval = some (.int k h))
    (h0 : 0 ≤ l) (h1 : l ≤ h) (h2 : h ≤ cap) : (Instr.sliceBounds isSl len cap (lo.map a.eval) (hi.map a.eval) none).run P w = .ok (l.toNat, h.toNat, cap) w := by
  have eh : (h.toNat : Int) = h := Int.toNat_of_nonneg (by omega)
  rcases hlo with ⟨rfl, rfl⟩ | ⟨k, hlo⟩
  · rcases hhi with ⟨rfl, rfl⟩ | ⟨k', hhi⟩
    · simp [Instr.sliceBounds]
    · simp [Instr.sliceBounds, hhi, run_sliceBound, (by omega : 0 ≤ h), h2]
  · rcases hhi with ⟨rfl, rfl⟩ | ⟨k', hhi⟩
    · simp [Instr.sliceBounds, hlo, run_sliceBound, h0, h1]
    · simp [Instr.sliceBounds, hlo, hhi, run_sliceBound, (by omega : 0 ≤ h), h2, eh, h0, h1]

theorem run_part {P : Program} {w : World} {a : Act} {lo hi : Option Operand} {l h : Int} {t e n b len cap : Nat} {ad : Option Addr} [ht : Sl P t e n b] (hlo : (lo = none ∧ l = 0) ∨ ∃ k, lo.map a.eval = some (.int k l)) (hhi : (hi = none ∧ h = len) ∨ ∃ k, hi.map a.eval = some (.int k h))
    (h0 : 0 ≤ l) (h1 : l ≤ h) (h2 : h ≤ cap) : (Instr.sliceAt t (.slice ad len cap) (lo.map a.eval) (hi.map a.eval) none).run P w = .ok (.slice (if cap = l.toNat then ad else ad.map (·.add (l.toNat * n))) (h.toNat - l.toNat) (cap - l.toNat)) w := by
  obtain ⟨i, z, i1, i2, _⟩ := ht.i
  have := run_bounds (P := P) (w := w) true hlo hhi h0 h1 h2
  simp [Instr.sliceAt, run_underlying ht.u, Instr.slice, this, sizeOf, typeInfo, i1, i2]

theorem step_slice_lst {t e n b m : Nat} {x : Operand} {lo hi : Option Operand} {l h : Int} {cs : List V} [ht : Sl P t e n b] (ho : o.op = .slice t x lo hi none) (hx : ρ x = .lst m cs) (hlo : Bd ρ lo 0 l) (hhi : Bd ρ hi m h) (hl : cs.length = m * n)
    (h0 : 0 ≤ l) (h1 : l ≤ h) (h2 : h ≤ m) : Step P o ρ H (.lst (h.toNat - l.toNat) ((cs.drop (l.toNat * n)).take ((h.toNat - l.toNat) * n))) H := step_pure fun A φ a w hok hh => by
  have hx1 := hh x (by simp [ho, Op.operands])
  have b1 := bd_eval hlo (fun y hy => hh y (by simp [ho, Op.operands, hy]))
  have b2 := bd_eval hhi (fun y hy => hh y (by simp [ho, Op.operands, hy]))
  rw [hx, Rel] at hx1
  obtain ⟨ad, cap, e1, e2, e3, e4⟩ := hx1
  have hpos := ht.pos
  have hr := run_part (P := P) (w := w) (ad := ad) (cap := cap) (t := t) b1 b2 h0 h1 (by omega)
  have hl2 : ((cs.drop (l.toNat * n)).take ((h.toNat - l.toNat) * n)).length = (h.toNat - l.toNat) * n := by
    have hle : h.toNat * n ≤ m * n := Nat.mul_le_mul_right _ (by omega)
    simp only [List.length_take, List.length_drop, hl, Nat.sub_mul]
    omega
  refine ⟨.slice (if cap = l.toNat then ad else ad.map (·.add (l.toNat * n))) (h.toNat - l.toNat) (cap - l.toNat), ?_, ?_⟩
  rotate_left
  · rw [Rel]
    refine ⟨_, _, rfl, by omega, ?_, ?_⟩
    · rw [hl2]; exact Nat.le_mul_of_pos_right _ hpos
    · by_cases hz : h.toNat - l.toNat = 0
      · left
        rw [hz, Nat.zero_mul, List.take_zero]
      · right
        rcases e4 with e4 | ⟨bb, q, rfl, hA, hr'⟩
        · subst e4; simp at e3; omega
        · refine ⟨bb, q + l.toNat * n, ?_, hA, ?_⟩
          · rw [if_neg (by omega)]
            simp [Addr.plus]
          · have := rels_take (rels_drop hr' (l.toNat * n)) ((h.toNat - l.toNat) * n)
            simpa [Nat.add_assoc] using this
  · simp only [execOp, ho, e1, Option.map_none]
    rw [Sem.run_bind, hr]
    rfl

theorem step_slice_sl {t e n b m hh0 off : Nat} {x : Operand} {lo hi : Option Operand} {l h : Int} {r : Reg} [ht : Sl P t e n b] (ho : o.op = .slice t x lo hi none) (hx : ρ x = .sl hh0 off m) (hr0 : H[hh0]? = some r) (hm : r.mode ≤ 1) (hes : r.esz = n) (hlo : Bd ρ lo 0 l) (hhi : Bd ρ hi m h)
    (h0 : 0 ≤ l) (h1 : l ≤ h) (h2 : h ≤ m) : Step P o ρ H (.sl hh0 (off + l.toNat) (h.toNat - l.toNat)) H := step_pure fun A φ a w hok hh => by
  have hx1 := hh x (by simp [ho, Op.operands])
  have b1 := bd_eval hlo (fun y hy => hh y (by simp [ho, Op.operands, hy]))
  have b2 := bd_eval hhi (fun y hy => hh y (by simp [ho, Op.operands, hy]))
  rw [hx, Rel] at hx1
  obtain ⟨hd, e1, ⟨e2, e3⟩ | ⟨p1, rfl, ad, e2⟩⟩ := hx1
  · obtain ⟨⟨f1, _⟩, f2⟩ := hok.regs hh0 hd r e1 hr0 hm
    have hr := run_part (P := P) (w := w) (ad := hd.blk.map fun b => ⟨b, off * hd.esz, none⟩) (cap := hd.cap - off) (t := t) b1 b2 h0 h1 (by omega)
    refine ⟨.slice (if hd.cap - off = l.toNat then (hd.blk.map fun b => (⟨b, off * hd.esz, none⟩ : Addr)) else (hd.blk.map fun b => (⟨b, off * hd.esz, none⟩ : Addr)).map (·.add (l.toNat * n))) (h.toNat - l.toNat) (hd.cap - off - l.toNat), ?_, ?_⟩
    rotate_left
    · rw [Rel]
      refine ⟨hd, e1, ?_⟩
      by_cases hz : hd.cap - off = l.toNat ∧ 0 < off + l.toNat
      · exact Or.inr ⟨by omega, by omega, _, by rw [show h.toNat - l.toNat = 0 by omega, show hd.cap - off - l.toNat = 0 by omega]⟩
      · refine Or.inl ⟨?_, by omega⟩
        by_cases hz2 : hd.cap - off = l.toNat
        · have : off = 0 ∧ l.toNat = 0 := by omega
          rw [if_pos hz2, this.1, this.2]
          simp
        · rw [if_neg hz2, Option.map_map]
          congr 1
          · congr 1
            funext b'
            simp only [Function.comp, Addr.plus, f1, hes, Nat.add_mul]
          · omega
    · simp only [execOp, ho, e2, Option.map_none]
      rw [Sem.run_bind, hr]
      rfl
  · have hl0 : l.toNat = 0 ∧ h.toNat = 0 := by omega
    have hr := run_part (P := P) (w := w) (ad := ad) (cap := 0) (t := t) b1 b2 h0 h1 (by omega)
    refine ⟨.slice (if 0 = l.toNat then ad else ad.map (·.add (l.toNat * n))) (h.toNat - l.toNat) (0 - l.toNat), ?_, ?_⟩
    rotate_left
    · rw [Rel]
      exact ⟨hd, e1, Or.inr ⟨by omega, by omega, _, by rw [show h.toNat - l.toNat = 0 by omega, Nat.zero_sub]⟩⟩
    · simp only [execOp, ho, e2, Option.map_none]
      rw [Sem.run_bind, hr]
      rfl

theorem step_slice_str {t : Nat} {x : Operand} {lo hi : Option Operand} {l h : Int} {s : ByteArray} [ht : Str P t] (ho : o.op = .slice t x lo hi none) (hx : ρ x = .k (.string s)) (hlo : Bd ρ lo 0 l) (hhi : Bd ρ hi s.size h)
    (h0 : 0 ≤ l) (h1 : l ≤ h) (h2 : h ≤ s.size) : Step P o ρ H (.k (.string (s.extract l.toNat h.toNat))) H := step_pure fun A φ a w hok hh => by
  have hx1 := k_of hx (hh x (by simp [ho, Op.operands]))
  have b1 := bd_eval hlo (fun y hy => hh y (by simp [ho, Op.operands, hy]))
  have b2 := bd_eval hhi (fun y hy => hh y (by simp [ho, Op.operands, hy]))
  refine ⟨.string (s.extract l.toNat h.toNat), ?_, by simp [Rel]⟩
  have := run_bounds (P := P) (w := w) (cap := s.size) false b1 b2 h0 h1 h2
  simp [execOp, ho, hx1, Instr.sliceAt, run_underlying ht.u, Instr.slice, this]

/-! ### append -/
/-- What is appended: its elements' number and cells. -/
inductive Src (H : List Reg) : V → Nat → List V → Prop where
  | lst (n : Nat) (cs : List V) : Src H (.lst n cs) n cs
  | sl {h off m : Nat} {r : Reg} (hr : H[h]? = some r) (hm : r.mode ≤ 1) (hl : (off + m) * r.esz ≤ r.cells.length) : Src H (.sl h off m) m ((r.cells.drop (off * r.esz)).take (m * r.esz))
  | nil : Src H (.k (.slice none 0 0)) 0 []

theorem src_read {v : V} {m : Nat} {src : List V} {x : Value} (hs : Src H v m src) (hok : HeapOk A w φ H) (hr : Rel A w φ v x) : ∃ ad c, x = .slice ad m c ∧ (src = [] ∨ ∃ b q, ad = some ⟨b, q, none⟩ ∧ Rels A w φ src (fun i => w.cell? ⟨b, q + i, none⟩)) := by
  cases hs with
  | lst n cs =>
    rw [Rel] at hr
    obtain ⟨ad, cap, rfl, _, _, h⟩ := hr
    refine ⟨ad, cap, rfl, ?_⟩
    rcases h with h | ⟨b, q, h1, _, h2⟩
    · exact Or.inl h
    · exact Or.inr ⟨b, q, h1, Rels.mono (fun b hb => ⟨hb, rfl⟩) (fun h hd hh => by simp at hh) h2⟩
  | sl hr0 hm hl =>
    rename_i h off r
    rw [Rel] at hr
    obtain ⟨hd, e1, ⟨e2, e3⟩ | ⟨p1, rfl, ad, e2⟩⟩ := hr
    · obtain ⟨⟨f1, _⟩, f2⟩ := hok.regs _ hd r e1 hr0 hm
      cases hb : hd.blk with
      | none =>
        rw [hb] at f2 e2
        refine ⟨_, _, e2, Or.inl ?_⟩
        rw [f2.1]; simp
      | some b =>
        rw [hb] at e2
        refine ⟨_, _, e2, Or.inr ⟨b, _, rfl, ?_⟩⟩
        have := rels_take (rels_drop (row_cells hok e1 hr0 hm hb) (off * r.esz)) (m * r.esz)
        rw [f1]
        exact this
    · exact ⟨ad, 0, e2, Or.inl (by simp)⟩
  | nil =>
    simp only [Rel] at hr
    exact ⟨none, 0, hr, Or.inl rfl⟩

theorem vals_of : ∀ {src : List V} {g : Nat → Option Value}, Rels A w φ src g → ∃ news : List Value, news.length = src.length ∧ (∀ j u, news[j]? = some u → g j = some u) ∧ Rels A w φ src (fun i => news[i]?)
  | [], g, h => ⟨[], rfl, fun j u hu => by simp at hu, by rw [Rels]; trivial⟩
  | c :: cs, g, h => by
    rw [Rels] at h
    obtain ⟨⟨y, h1, h2⟩, h3⟩ := h
    obtain ⟨news, k1, k2, k3⟩ := vals_of h3
    refine ⟨y :: news, by simp [k1], fun j u hu => ?_, by rw [Rels]; exact ⟨⟨y, rfl, h2⟩, k3⟩⟩
    cases j with
    | zero => simp at hu; subst hu; exact h1
    | succ j => exact k2 j u (by simpa using hu)

/-- The values that are appended. -/
theorem src_vals {v : V} {m : Nat} {src : List V} {x : Value} (hs : Src H v m src) (hok : HeapOk A w φ H) (hr : Rel A w φ v x) (h1 : ∀ c ∈ src, oneV c = true) : ∃ (ad : Option Addr) (c : Nat) (news : List Value), x = .slice ad m c ∧ news.length = src.length ∧ (∀ u ∈ news, u.oneCell' = true) ∧ Rels A w φ src (fun i => news[i]?) ∧
    (src = [] ∨ ∃ a, ad = some a ∧ ∀ j u, news[j]? = some u → w.cell? (a.add j) = some u) := by
  obtain ⟨ad, c, e, h⟩ := src_read hs hok hr
  rcases h with h | ⟨b, q, rfl, hr'⟩
  · subst h
    exact ⟨ad, c, [], e, rfl, fun u hu => (by simp at hu), (by simp [Rels]), Or.inl rfl⟩
  · obtain ⟨news, k1, k2, k3⟩ := vals_of hr'
    refine ⟨_, c, news, e, k1, fun u hu => ?_, k3, Or.inr ⟨_, rfl, fun j u hu => by rw [Addr.plus]; exact k2 j u hu⟩⟩
    obtain ⟨j, hj⟩ := List.getElem?_of_mem hu
    have hlt : j < src.length := by rw [← k1]; exact (List.getElem?_eq_some_iff.1 hj).1
    obtain ⟨y, q1, q2⟩ := rels_get k3 (List.getElem?_eq_getElem hlt)
    have q1' : news[j]? = some y := q1
    rw [hj] at q1'
    cases q1'
    exact one_rel q2 (h1 _ (List.getElem_mem hlt))

/-- A nil slice's row. -/
theorem InvA.addNil (hA : InvA C A φ H w) (e n : Nat) : InvA C A (φ ++ [⟨none, 0, n, e⟩]) (H ++ [⟨e, n, [], 0⟩]) w := by
  have hlen := hA.ok.len
  have hφ : ∀ (h : Nat) (hd : Hd), φ[h]? = some hd → (φ ++ [(⟨none, 0, n, e⟩ : Hd)])[h]? = some hd := fun h hd hh => app_left hh
  have hlive : ∀ h b', LiveAt (φ ++ [⟨none, 0, n, e⟩]) (H ++ [⟨e, n, [], 0⟩]) h b' → LiveAt φ H h b' := by
    rintro h b' ⟨hd, r, h1, h2, h3, h4⟩
    rcases getElem?_app h1 with p1 | ⟨p1, rfl⟩
    · rcases getElem?_app h2 with p2 | ⟨p2, rfl⟩
      · exact ⟨hd, r, p1, p2, h3, h4⟩
      · have := (List.getElem?_eq_some_iff.1 p1).1
        omega
    · cases h4
  refine ⟨⟨by simp [hlen], fun h hd r h1 h2 h3 => ?_, fun h h' b' h1 h2 => hA.ok.inj _ _ _ (hlive _ _ h1) (hlive _ _ h2), fun h b' h1 => hA.ok.apart _ _ (hlive _ _ h1), fun h hd r b' h1 h2 h3 h4 => ?_, hA.ok.low⟩, hA.old, fun h b' h1 => hA.own _ _ (hlive _ _ h1), hA.frame, fun h hd hh => hφ h hd (hA.pre h hd hh)⟩
  · rcases getElem?_app h1 with p1 | ⟨p1, rfl⟩
    · rcases getElem?_app h2 with p2 | ⟨p2, rfl⟩
      · obtain ⟨e1, e2⟩ := hA.ok.regs h hd r p1 p2 h3
        refine ⟨e1, ?_⟩
        cases hk : hd.blk with
        | none => rw [hk] at e2; exact e2
        | some b' =>
          rw [hk] at e2
          obtain ⟨c', k1, k2, k3, k4⟩ := e2
          exact ⟨c', k1, k2, k3, Rels.mono (fun b hb => ⟨hb, rfl⟩) hφ k4⟩
      · have := (List.getElem?_eq_some_iff.1 p1).1
        omega
    · rcases getElem?_app h2 with p2 | ⟨p2, rfl⟩
      · have := (List.getElem?_eq_some_iff.1 p2).1
        omega
      · exact ⟨⟨rfl, rfl, Nat.zero_le _⟩, rfl, rfl⟩
  · rcases getElem?_app h1 with p1 | ⟨p1, rfl⟩
    · rcases getElem?_app h2 with p2 | ⟨p2, rfl⟩
      · exact hA.ok.frz h hd r b' p1 p2 h3 h4
      · cases h3
    · cases h4

theorem run_append_zero {P : Program} {w : World} {t ty e n b k cap c : Nat} {base ad : Option Addr} [ht : Sl P t e n b] (hk : k ≤ cap) : (Builtin.append_ #[t, t] ty #[.slice base k cap, .slice ad 0 c]).run P w = .ok (.slice base k cap) w := by
  obtain ⟨i, z, i1, i2, i3, i4, i5⟩ := ht.i
  cases base <;> cases ad <;> simp [Builtin.append_, run_underlying ht.u, sizeOf, typeInfo, i1, Builtin.lenOf, Builtin.firstCells, hk, storeCells, loadCells, loadCellsFrom]

theorem pad_rels {cs : List V} {news : List Value} (h : Rels A w φ cs (fun i => news[i]?)) (hl : news.length = cs.length) (pre : List V) (ps : List Value) (hp : Rels A w φ pre (fun i => ps[i]?)) (hpl : ps.length = pre.length) (z : Array Value) :
    Rels A w φ (pre ++ cs) (fun i => (ps.toArray ++ news.toArray ++ z)[i]?) := by
  refine rels_append (rels_congr hp fun i hi => ?_) (rels_congr h fun i hi => ?_)
  · rw [Array.append_assoc, Array.getElem?_append_left (by simp; omega)]
    simp
  · rw [Array.append_assoc, Array.getElem?_append_right (by simp; omega), Array.getElem?_append_left (by simp; omega)]
    simp [hpl]

/-- append onto a part of a live row that begins with it. -/
theorem step_append {s x : Operand} {t ty e n b h m k : Nat} {r : Reg} {src : List V} [ht : Sl P t e n b] (ho : o.op = .call { callee := .builtin .append, args := #[s, x], argTypes := #[t, t] })
    (hs : ρ s = .sl h 0 k) (hr : H[h]? = some r) (hm : r.mode = 0) (he : r.e = e) (hes : r.esz = n) (hk : k * n ≤ r.cells.length) (hx : Src H (ρ x) m src) (hsl : src.length = m * n) (h1 : ∀ c ∈ src, oneV c = true)
    (hb : (k + m) * b ≤ 140737488355328) (hmax : k + m ≤ maxLen) : Step P o ρ H (.sl H.length 0 (k + m)) (H.set h { r with mode := 2 } ++ [⟨e, n, r.cells.take (k * n) ++ src, 0⟩]) := step_frame fun C A φ a w hA hh => by
  have hs1 := hh s (by simp [ho, Op.operands, Call.operands])
  have hx1 := hh x (by simp [ho, Op.operands, Call.operands])
  obtain ⟨ad, c, news, ex, n1, n2, n3, n4⟩ := src_vals hx hA.ok hx1 h1
  rw [hs, Rel] at hs1
  obtain ⟨hd, e1, ⟨e2, e3⟩ | ⟨p1, _⟩⟩ := hs1
  rotate_left
  · omega
  obtain ⟨⟨f1, f2, f3⟩, f4⟩ := hA.ok.regs h hd r e1 hr (by omega)
  obtain ⟨i, z, i1, i2, i3, i4, i5⟩ := ht.i
  have hpos := ht.pos
  subst he
  have hlive : ∀ g, hd.blk = some g → LiveAt φ H h g := fun g hg => ⟨hd, r, e1, hr, hm, hg⟩
  have hK := hA.kill hr
  have hklen : (H.set h { r with mode := 2 }).length = H.length := by simp
  have hsmall : k + m ≤ 9223372036854775807 := by simp only [maxLen] at hmax; omega
  have hnl : news.length = m * n := n1.trans hsl
  have hzs : z.cells.size = n := i5
  -- what run is
  have hop : ∀ (v : Value) (w' : World), (Builtin.append_ #[t, t] o.type #[a.eval s, a.eval x]).run P w = .ok v w' → (execOp a.eval o).run P w = .ok (.value v) w' := fun v w' hv => by
    simp only [execOp, ho, resolve, Sem.run_bind]
    simp [invoke, builtin, hv]
  -- a new block
  have hnew : ∀ (olds : List Value) (cap : Nat), olds.length = k * n → Rels A w φ (r.cells.take (k * n)) (fun i => olds[i]?) → k + m ≤ cap → cap ≤ maxLen →
      (Builtin.append_ #[t, t] o.type #[a.eval s, a.eval x]).run P w = .ok (.slice (some ⟨w.heap.size, 0, none⟩) (k + m) cap) ((w.drewN 1).alloc (.cells (olds.toArray ++ news.toArray ++ Builtin.zeroCells z.cells (cap - (k + m))) r.e)) →
      ∃ x w' A' φ', ((execOp a.eval o).run P w = .ok (.value x) w' ∨ ((execOp a.eval o).run P w = .ok .skip w' ∧ x = undef)) ∧ InvA C A' φ' (H.set h { r with mode := 2 } ++ [⟨r.e, n, r.cells.take (k * n) ++ src, 0⟩]) w' ∧ (∀ b, A b → A' b ∧ w'.heap[b]? = w.heap[b]?) ∧ (∀ (h : Nat) (hd : Hd), φ[h]? = some hd → φ'[h]? = some hd) ∧ Rel A' w' φ' (.sl H.length 0 (k + m)) x := fun olds cap ol or hc1 hc2 hrun => by
    have hsz : (olds.toArray ++ news.toArray ++ Builtin.zeroCells z.cells (cap - (k + m))).size = cap * n := by
      simp only [Array.size_append, List.size_toArray, size_zeroCells, hzs, ol, hnl, ← Nat.add_mul]
      congr 1
      omega
    have hcl : (r.cells.take (k * n) ++ src).length = (k + m) * n := by simp only [List.length_append, List.length_take, hsl, Nat.add_mul]; omega
    refine ⟨_, _, A, φ ++ [⟨some w.heap.size, cap, n, r.e⟩], Or.inl (hop _ _ hrun), alloc_inv hK hsz hc2 (by rw [hcl, hsz]; exact Nat.mul_le_mul_right _ hc1) (pad_rels n3 n1 _ _ or (by simp [ol]; omega) _) 1, alloc_old hA _ 1, fun h hd hh => app_left hh, ?_⟩
    have := new_rel (H := H.set h { r with mode := 2 }) hK (hd := ⟨some w.heap.size, cap, n, r.e⟩) rfl hc1 ((w.drewN 1).alloc (.cells (olds.toArray ++ news.toArray ++ Builtin.zeroCells z.cells (cap - (k + m))) r.e))
    rw [hklen] at this
    exact this
  cases hblk : hd.blk with
  | none =>
    rw [hblk] at f4 e2
    obtain ⟨g1, g2⟩ := f4
    have hk0 : k = 0 := by omega
    subst hk0
    have e2' : a.eval s = .slice none 0 0 := by rw [e2, g2]; rfl
    rcases n4 with n4 | ⟨ad', rfl, n4⟩
    · have hm0 : m = 0 := by
        rw [n4] at hsl
        rcases Nat.mul_eq_zero.1 (show m * n = 0 by simpa using hsl.symm) with h | h
        · exact h
        · omega
      subst hm0
      subst n4
      have hrun := run_append_zero (P := P) (w := w) (t := t) (ty := o.type) (base := none) (ad := ad) (c := c) (Nat.le_refl 0)
      refine ⟨.slice none 0 0, w, A, φ ++ [⟨none, 0, n, r.e⟩], Or.inl (hop _ _ (by rw [e2', ex]; exact hrun)), ?_, fun b hb => ⟨hb, rfl⟩, fun h hd hh => app_left hh, ?_⟩
      · have := hK.addNil r.e n
        simpa [g1] using this
      · rw [Rel]
        refine ⟨⟨none, 0, n, r.e⟩, ?_, Or.inl ⟨rfl, by simp⟩⟩
        rw [← hA.ok.len]
        simp
    · by_cases hm0 : m = 0
      · subst hm0
        have hs0 : src = [] := List.length_eq_zero_iff.1 (by simpa using hsl)
        subst hs0
        have hrun := run_append_zero (P := P) (w := w) (t := t) (ty := o.type) (base := none) (ad := some ad') (c := c) (Nat.le_refl 0)
        refine ⟨.slice none 0 0, w, A, φ ++ [⟨none, 0, n, r.e⟩], Or.inl (hop _ _ (by rw [e2', ex]; exact hrun)), ?_, fun b hb => ⟨hb, rfl⟩, fun h hd hh => app_left hh, ?_⟩
        · have := hK.addNil r.e n
          simpa [g1] using this
        · rw [Rel]
          refine ⟨⟨none, 0, n, r.e⟩, ?_, Or.inl ⟨rfl, by simp⟩⟩
          rw [← hA.ok.len]
          simp
      · have hrun := run_append_nil (P := P) w t o.type r.e i z ht.u i1 i4 ad' m c news (by rw [hnl, i2]) n4 (by omega) (by omega) (by rw [i3]; simp only [Nat.zero_add] at hb; omega)
        refine hnew [] (grownCap w m 0 r.e) (by simp) (by simp [Rels]) (by simpa using grownCap_ge w m 0 r.e) (grownCap_le_maxLen w m 0 r.e (by omega)) ?_
        rw [e2', ex, hrun]
        simp [World.drewN_drew, World.drew_is_drewN]
  | some g =>
    rw [hblk] at f4 e2
    obtain ⟨cur, g1, g2, g3, g4⟩ := f4
    have e2' : a.eval s = .slice (some ⟨g, 0, none⟩) k hd.cap := by rw [e2]; simp
    have hlg := hlive g hblk
    have hfree : ∀ h', ¬ LiveAt φ (H.set h { r with mode := 2 }) h' g := fun h' ⟨hd', r', q1, q2, q3, q4⟩ => by
      rcases getElem?_set' q2 with ⟨_, rfl⟩ | ⟨hne, q2⟩
      · cases q3
      · exact hne (hA.ok.inj _ _ _ ⟨hd', r', q1, q2, q3, q4⟩ hlg)
    have hesz : hd.esz = n := f1.trans hes
    rw [hesz] at g2
    have hcl : (r.cells.take (k * n) ++ src).length = (k + m) * n := by simp only [List.length_append, List.length_take, hsl, Nat.add_mul]; omega
    -- in place
    have hin : ∀ (c' : Array Value) (w' : World), k + m ≤ hd.cap → (∀ i, i ≠ g → w'.heap[i]? = w.heap[i]?) → w'.heap.size = w.heap.size → w'.os = w.os → w'.tape = w.tape → w'.output = w.output → w'.heap[g]? = some (.cells c' r.e (0, 0)) → c'.size = hd.cap * n →
        Rels A w φ (r.cells.take (k * n) ++ src) (fun i => c'[i]?) → (Builtin.append_ #[t, t] o.type #[a.eval s, a.eval x]).run P w = .ok (.slice (some ⟨g, 0, none⟩) (k + m) hd.cap) w' →
        ∃ x w' A' φ', ((execOp a.eval o).run P w = .ok (.value x) w' ∨ ((execOp a.eval o).run P w = .ok .skip w' ∧ x = undef)) ∧ InvA C A' φ' (H.set h { r with mode := 2 } ++ [⟨r.e, n, r.cells.take (k * n) ++ src, 0⟩]) w' ∧ (∀ b, A b → A' b ∧ w'.heap[b]? = w.heap[b]?) ∧ (∀ (h : Nat) (hd : Hd), φ[h]? = some hd → φ'[h]? = some hd) ∧ Rel A' w' φ' (.sl H.length 0 (k + m)) x := fun c' w' hroom ho1 ho2 ho3 ho4 ho5 ho6 ho7 ho8 hrun => by
      refine ⟨_, w', A, φ ++ [⟨some g, hd.cap, n, r.e⟩], Or.inl (hop _ _ hrun), hK.add hfree (hA.ok.apart h g hlg) (fun i _ hi => ho1 i hi) (by rw [ho2]; exact Nat.le_refl _) (hA.own h g hlg) ho3 ho4 ho5 ho6 ho7 f3 (by rw [hcl, ho7]; exact Nat.mul_le_mul_right _ hroom) ho8,
        fun b' hb' => ⟨hb', ho1 b' fun e => hA.ok.apart h g hlg (e ▸ hb')⟩, fun h hd hh => app_left hh, ?_⟩
      have := new_rel (H := H.set h { r with mode := 2 }) hK (hd := ⟨some g, hd.cap, n, r.e⟩) rfl hroom w'
      rw [hklen] at this
      exact this
    have hpre : Rels A w φ (r.cells.take (k * n)) (fun i => cur[i]?) := rels_take g4 _
    by_cases hsrc : src = []
    · have hm0 : m = 0 := by
        rw [hsrc] at hsl
        rcases Nat.mul_eq_zero.1 (show m * n = 0 by simpa using hsl.symm) with h | h
        · exact h
        · omega
      subst hm0
      subst hsrc
      have hrun := run_append_zero (P := P) (w := w) (t := t) (ty := o.type) (base := some ⟨g, 0, none⟩) (ad := ad) (c := c) (show k ≤ hd.cap by omega)
      exact hin cur w (by omega) (fun _ _ => rfl) rfl rfl rfl rfl (by rw [g1, f2]) g2 (by rw [List.append_nil]; exact hpre) (by rw [e2', ex]; exact hrun)
    · rcases n4 with n4 | ⟨ad', rfl, n4⟩
      · exact absurd n4 hsrc
      · by_cases hroom : k + m ≤ hd.cap
        · have hfit : k * i.size + news.length ≤ cur.size := by rw [i2, hnl, g2, ← Nat.add_mul]; exact Nat.mul_le_mul_right _ hroom
          have hrun := run_append_room (P := P) w t o.type r.e i ht.u i1 g k hd.cap cur (by rw [g1, f2]) ad' m c news (by rw [hnl, i2]) n4 n2 hroom hfit
          rw [← e2', ← ex] at hrun
          rw [i2] at hfit hrun
          refine hin _ _ hroom (fun i hi => setRow_other w g i _ hi) (by simp) rfl rfl rfl (setRow_heap w g cur _ r.e (0, 0) (by rw [g1, f2])) ?_ ?_ hrun
          · rw [← g2]
            simp only [List.size_toArray, List.length_append, List.length_take, List.length_drop, Array.length_toList]
            omega
          · refine rels_append (rels_congr hpre fun j hj => ?_) (rels_congr n3 fun j hj => ?_)
            · simp only [List.length_take] at hj
              simp only [List.getElem?_toArray]
              rw [List.append_assoc, List.getElem?_append_left (by simp; omega), List.getElem?_take, if_pos (by omega), Array.getElem?_toList]
            · simp only [List.getElem?_toArray]
              rw [List.append_assoc, List.getElem?_append_right (by simp; omega), List.getElem?_append_left (by simp; omega)]
              congr 1
              simp
              omega
        · have holds : ∀ j u, (cur.toList.take (k * n))[j]? = some u → w.cell? ((⟨g, 0, none⟩ : Addr).add j) = some u := fun j u hu => by
            rw [List.getElem?_take] at hu
            split at hu
            · rw [Addr.plus, Nat.zero_add, cell_of_row w g j cur hd.e (0, 0) g1, ← Array.getElem?_toList]
              exact hu
            · cases hu
          have hol : (cur.toList.take (k * n)).length = k * n := by
            simp only [List.length_take, Array.length_toList, g2]
            have := Nat.mul_le_mul_right n (show k ≤ hd.cap by omega)
            omega
          have hrun := run_append_grow (P := P) w t o.type r.e i z ht.u i1 i4 ⟨g, 0, none⟩ k hd.cap (cur.toList.take (k * n)) (by rw [hol, i2]) holds ad' m c news (by rw [hnl, i2]) n4 (by omega) (by omega) (growslice_fits (by omega) (by rw [i3]; exact hb))
          refine hnew _ (grownCap w (k + m) hd.cap r.e) hol (rels_congr hpre fun j hj => ?_) (grownCap_ge w (k + m) hd.cap r.e) (grownCap_le_maxLen w (k + m) hd.cap r.e hmax) ?_
          · simp only [List.length_take] at hj
            rw [List.getElem?_take, if_pos (by omega), Array.getElem?_toList]
          · rw [e2', ex, hrun]
            simp [World.drewN_drew, World.drew_is_drewN]

/-- append onto nil. -/
theorem step_append_nil {s x : Operand} {t e n b m : Nat} {src : List V} [ht : Sl P t e n b] (ho : o.op = .call { callee := .builtin .append, args := #[s, x], argTypes := #[t, t] })
    (hs : ρ s = .k (.slice none 0 0)) (hx : Src H (ρ x) m src) (hsl : src.length = m * n) (h1 : ∀ c ∈ src, oneV c = true)
    (hb : m * b ≤ 140737488355328) (hmax : m ≤ maxLen) : Step P o ρ H (.sl H.length 0 m) (H ++ [⟨e, n, src, 0⟩]) := step_frame fun C A φ a w hA hh => by
  have hs1 := k_of hs (hh s (by simp [ho, Op.operands, Call.operands]))
  have hx1 := hh x (by simp [ho, Op.operands, Call.operands])
  obtain ⟨ad, c, news, ex, n1, n2, n3, n4⟩ := src_vals hx hA.ok hx1 h1
  obtain ⟨i, z, i1, i2, i3, i4, i5⟩ := ht.i
  have hpos := ht.pos
  have hsmall : m ≤ 9223372036854775807 := by simp only [maxLen] at hmax; omega
  have hnl : news.length = m * n := n1.trans hsl
  have hzs : z.cells.size = n := i5
  have hop : ∀ (v : Value) (w' : World), (Builtin.append_ #[t, t] o.type #[a.eval s, a.eval x]).run P w = .ok v w' → (execOp a.eval o).run P w = .ok (.value v) w' := fun v w' hv => by
    simp only [execOp, ho, resolve, Sem.run_bind]
    simp [invoke, builtin, hv]
  by_cases hm0 : m = 0
  · subst hm0
    have hs0 : src = [] := List.length_eq_zero_iff.1 (by simpa using hsl)
    subst hs0
    have hrun := run_append_zero (P := P) (w := w) (t := t) (ty := o.type) (base := none) (ad := ad) (c := c) (Nat.le_refl 0)
    refine ⟨_, w, A, _, Or.inl (hop _ _ (by rw [hs1, ex]; exact hrun)), hA.addNil e n, fun b hb => ⟨hb, rfl⟩, fun h hd hh => app_left hh, ?_⟩
    rw [Rel]
    refine ⟨⟨none, 0, n, e⟩, ?_, Or.inl ⟨rfl, by simp⟩⟩
    rw [← hA.ok.len]
    simp
  · rcases n4 with n4 | ⟨ad', rfl, n4⟩
    · rw [n4] at hsl
      rcases Nat.mul_eq_zero.1 (show m * n = 0 by simpa using hsl.symm) with h | h <;> omega
    · have hrun := run_append_nil (P := P) w t o.type e i z ht.u i1 i4 ad' m c news (by rw [hnl, i2]) n4 (by omega) (by omega) (by rw [i3]; omega)
      have hsz : (([] : List Value).toArray ++ news.toArray ++ Builtin.zeroCells z.cells (grownCap w m 0 e - m)).size = grownCap w m 0 e * n := by
        have := grownCap_ge w m 0 e
        simp only [Array.size_append, List.size_toArray, size_zeroCells, hzs, hnl, List.length_nil, Nat.zero_add, ← Nat.add_mul]
        congr 1
        omega
      have hal := alloc_inv hA hsz (grownCap_le_maxLen w m 0 e hmax) (cells := [] ++ src) (e := e) (by rw [hsz, List.nil_append, hsl]; exact Nat.mul_le_mul_right _ (grownCap_ge w m 0 e)) (pad_rels n3 n1 [] [] (by simp [Rels]) rfl _) 1
      refine ⟨_, _, A, _, Or.inl (hop _ _ (by rw [hs1, ex]; exact hrun)), ?_, ?_, fun h hd hh => app_left hh, new_rel hA (hd := ⟨some w.heap.size, grownCap w m 0 e, n, e⟩) rfl (grownCap_ge w m 0 e) _⟩
      · simpa [World.drewN_drew, World.drew_is_drewN] using hal
      · intro b' hb'
        exact ⟨hb', Below.heap_alloc w.drew _ b' (hA.ok.low b' hb')⟩

/-- make. -/
theorem step_make {t e n b : Nat} {x y : Operand} {k k' : IntKind} {m : Nat} {zs : List Value} [ht : Sl P t e n b] [hz : Ze P e zs] (ho : o.op = .makeSlice t x y) (hx : ρ x = .k (.int k m)) (hy : ρ y = .k (.int k' m)) (hb : m * b ≤ 281474976710656) (hmax : m ≤ 4611686018427387903) (hn : zs.length = n) :
    Step P o ρ H (.sl H.length 0 m) (H ++ [⟨e, n, (List.replicate m (zs.map V.k)).flatten, 0⟩]) := step_frame fun C A φ a w hA hh => by
  have hx1 := k_of hx (hh x (by simp [ho, Op.operands]))
  have hy1 := k_of hy (hh y (by simp [ho, Op.operands]))
  obtain ⟨i, z, i1, i2, i3, i4, i5⟩ := ht.i
  obtain ⟨i', z', j1, j2, j3⟩ := hz.z
  have hi : i' = i := by rw [i1] at j1; cases j1; rfl
  subst hi
  have hzz : z' = z := by rw [i4] at j2; cases j2; rfl
  subst hzz
  have hpos := ht.pos
  have hb' : (i'.bytes : Int) * (m : Int) ≤ 281474976710656 := by
    have h : ((i'.bytes * m : Nat) : Int) ≤ 281474976710656 := by rw [i3, Nat.mul_comm]; omega
    rwa [Int.natCast_mul] at h
  have hrun := run_make (P := P) w t e i' z' ht.u i1 i4 k k' m m (by omega) (Int.le_refl _) hb' (by omega)
  simp only [Int.toNat_natCast, i2] at hrun
  have hfl : ∀ m : Nat, ((List.replicate m (zs.map V.k)).flatten).length = m * n := fun m => by simp [hn]
  have hcells : ∀ (m j : Nat) (c : V), ((List.replicate m (zs.map V.k)).flatten)[j]? = some c → ∃ u, zs[j % n]? = some u ∧ c = .k u := by
    intro m
    induction m with
    | zero => intro j c h; simp at h
    | succ m ih =>
      intro j c h
      rw [List.replicate_succ, List.flatten_cons] at h
      rcases Nat.lt_or_ge j n with hj | hj
      · rw [List.getElem?_append_left (by simpa [hn] using hj), List.getElem?_map] at h
        rw [Nat.mod_eq_of_lt hj]
        cases hzj : zs[j]? with
        | none => rw [hzj] at h; simp at h
        | some u => rw [hzj] at h; simp at h; exact ⟨u, rfl, h.symm⟩
      · rw [List.getElem?_append_right (by simpa [hn] using hj)] at h
        simp only [List.length_map, hn] at h
        have := ih (j - n) c h
        rwa [← Nat.mod_eq_sub_mod hj] at this
  have hsz : (madeCells z'.cells (m * n)).size = m * n := size_madeCells _ _
  refine ⟨_, (w.drewN 0).alloc (.cells (madeCells z'.cells (m * n)) e), A, _, Or.inl ?_, alloc_inv hA (cap := m) hsz (by simp only [maxLen]; omega) (by rw [hfl, hsz]; exact Nat.le_refl _) (rels_iff.2 fun j c hc => ?_) 0, alloc_old hA _ 0, fun h hd hh => app_left hh, new_rel hA rfl (Nat.le_refl _) _⟩
  · simp only [execOp, ho, hx1, hy1]
    rw [Sem.run_bind, hrun]
    rfl
  · have hj : j < m * n := by rw [← hfl m]; exact (List.getElem?_eq_some_iff.1 hc).1
    obtain ⟨u, h1, rfl⟩ := hcells m j c hc
    refine ⟨u, ?_, by simp [Rel]⟩
    have : z'.cells[j % z'.cells.size]! = u := by
      rw [i5, ← Array.getElem!_toList]
      rw [← j3] at h1
      simp [h1]
    simp [madeCells, hj, this]
end

end Go.Proofs.Ytkcicbigpbdjpaa.Ab
