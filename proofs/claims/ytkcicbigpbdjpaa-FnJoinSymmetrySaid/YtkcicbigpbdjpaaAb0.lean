/-
  MORE RULES: a slice with three bounds, cap, slices.overlaps; the nil slice as a row; rows that are frozen, and read from then on.
-/
import Derived.Test.YtkcicbigpbdjpaaAbZ
namespace Go.Proofs.Ytkcicbigpbdjpaa.Ab
open Go.RowKit
set_option linter.unusedVariables false
set_option linter.unusedSimpArgs false

section
variable {C : Cx} {A A' : Nat → Prop} {φ φ' : List Hd} {H : List Reg} {w w' : World} {P : Program} {o : Oper} {ρ : Operand → V} {ops : Array Oper} {rest : List Oper} {Q : Exit → St → Prop} {S T : St}

/-- A slice with three bounds: of what it gives nothing is said. -/
theorem step_slice3 {t e n b m h off : Nat} {x y z u : Operand} {i j k : Int} {ky kz ku : IntKind} [ht : Sl P t e n b] (ho : o.op = .slice t x (some y) (some z) (some u)) (hx : ρ x = .sl h off m) (hy : ρ y = .k (.int ky i)) (hz : ρ z = .k (.int kz j)) (hu : ρ u = .k (.int ku k))
    (h0 : 0 ≤ i) (h1 : i ≤ j) (h2 : j ≤ k) (h3 : k ≤ m) (hmp : 0 < m ∨ off = 0) : Step P o ρ H .any H := step_pure fun A φ a w hok hh => by
  have hx1 := hh x (by simp [ho, Op.operands])
  have e1 := k_of hy (hh y (by simp [ho, Op.operands]))
  have e2 := k_of hz (hh z (by simp [ho, Op.operands]))
  have e3 := k_of hu (hh u (by simp [ho, Op.operands]))
  rw [hx, Rel] at hx1
  obtain ⟨hd, q1, ⟨q2, q3⟩ | ⟨q4, q5, _⟩⟩ := hx1
  rotate_left
  · omega
  obtain ⟨ti, z', i1, i2, _⟩ := ht.i
  have ek : (k.toNat : Int) = k := Int.toNat_of_nonneg (by omega)
  have ej : (j.toNat : Int) = j := Int.toNat_of_nonneg (by omega)
  have hb : (Instr.sliceBounds true m (hd.cap - off) (some (.int ky i)) (some (.int kz j)) (some (.int ku k))).run P w = .ok (i.toNat, j.toNat, k.toNat) w := by
    simp [Instr.sliceBounds, run_sliceBound, (by omega : 0 ≤ k), (by omega : k ≤ ((hd.cap - off : Nat) : Int)), ek, (by omega : 0 ≤ j), h2, ej, h0, h1]
  have hr : (Instr.sliceAt t (.slice (hd.blk.map fun b => ⟨b, off * hd.esz, none⟩) m (hd.cap - off)) (some (.int ky i)) (some (.int kz j)) (some (.int ku k))).run P w = .ok (.slice (if k.toNat = i.toNat then (hd.blk.map fun b => (⟨b, off * hd.esz, none⟩ : Addr)) else (hd.blk.map fun b => (⟨b, off * hd.esz, none⟩ : Addr)).map (·.add (i.toNat * n))) (j.toNat - i.toNat) (k.toNat - i.toNat)) w := by
    simp [Instr.sliceAt, run_underlying ht.u, Instr.slice, hb, sizeOf, typeInfo, i1, i2]
  refine ⟨.slice (if k.toNat = i.toNat then (hd.blk.map fun b => (⟨b, off * hd.esz, none⟩ : Addr)) else (hd.blk.map fun b => (⟨b, off * hd.esz, none⟩ : Addr)).map (·.add (i.toNat * n))) (j.toNat - i.toNat) (k.toNat - i.toNat), ?_, by simp [Rel]⟩
  simp only [execOp, ho, q2, e1, e2, e3, Option.map_some]
  rw [Sem.run_bind, hr]
  rfl

/-- cap: some number, not less than what is known of the row. -/
theorem aops_cap {x : Operand} {t e n b h off k : Nat} {r : Reg} [ht : Sl P t e n b] (hw : wantA ops S o = some true) (ho : o.op = .call { callee := .builtin .cap, args := #[x], argTypes := #[t] }) (hx : S.ev x = .sl h off k) (hk : 0 < k ∨ off = 0) (hr : S.H[h]? = some r) (hm : r.mode ≤ 1) (hes : r.esz = n)
    (hn : ∀ c : Nat, r.cells.length ≤ (off + c) * n → k ≤ c → c ≤ maxLen → AOps P ops rest Q (S.put o.dst (I c) S.H)) : AOps P ops (o :: rest) Q S := ⟨fun C φ a w hI => by
  refine wpList_step fun K hK => ?_
  rw [if_pos (wantA_spec hI hw)]
  obtain ⟨hm0, ⟨A, hA, hrr⟩, hs, hd0⟩ := hI
  have hx1 := ev_rel hrr x
  rw [hx, Rel] at hx1
  obtain ⟨hd, q1, ⟨q2, q3⟩ | ⟨q4, q5, _⟩⟩ := hx1
  rotate_left
  · omega
  obtain ⟨⟨f1, f2, f3⟩, f4⟩ := hA.ok.regs h hd r q1 hr hm
  have hle : r.cells.length ≤ (off + (hd.cap - off)) * n := by
    cases hblk : hd.blk with
    | none => rw [hblk] at f4; rw [f4.1]; simp
    | some g =>
      rw [hblk] at f4
      obtain ⟨cur, g1, g2, g3, g4⟩ := f4
      rw [show off + (hd.cap - off) = hd.cap by omega, ← hes, ← f1, ← g2]
      exact g3
  have hrun : (execOp a.eval o).run P w = .ok (.value (.int .i64 ((hd.cap - off : Nat) : Int))) w := by
    simp only [execOp, ho, resolve, Sem.run_bind]
    simp [invoke, builtin, q2, Builtin.cap_, run_underlying ht.u, goInt]
  unfold Oper.wp
  rw [hrun]
  obtain ⟨h3, h4⟩ := put_rel (H := S.H) (v := I ((hd.cap - off : Nat) : Int)) (x := .int .i64 ((hd.cap - off : Nat) : Int)) hs hrr (by simp [Rel]) o.dst
  refine hK _ _ ((hn (hd.cap - off) hle (by omega) (by omega)).out C φ _ w ⟨by cases o.dst <;> exact hm0, ⟨A, ?_, h3⟩, h4, by cases o.dst <;> exact hd0⟩)
  have : (S.put o.dst (I ((hd.cap - off : Nat) : Int)) S.H).H = S.H := by cases o.dst <;> rfl
  rw [this]
  exact hA⟩

theorem st_cap {l : List V} {H : List Reg} {m : Nat} {f : Nat → List V} {x : Operand} {t e n b h off k : Nat} {r : Reg} [ht : Sl P t e n b] (hw : wantA ops ⟨l, H, m⟩ o = some true) (ho : o.op = .call { callee := .builtin .cap, args := #[x], argTypes := #[t] }) (hx : (⟨l, H, m⟩ : St).ev x = .sl h off k) (hk : 0 < k ∨ off = 0) (hr : H[h]? = some r) (hm : r.mode ≤ 1) (hes : r.esz = n)
    (hp : ∀ c : Nat, putF l H o.dst (I c) = some (f c, H)) (hn : ∀ c : Nat, r.cells.length ≤ (off + c) * n → k ≤ c → c ≤ maxLen → AOps P ops rest Q ⟨f c, H, m⟩) : AOps P ops (o :: rest) Q ⟨l, H, m⟩ :=
  aops_cap hw ho hx hk hr hm hes fun c h1 h2 h3 => by
    rw [putF_eq (hp c) m]
    exact hn c h1 h2 h3

/-- slices.overlaps at two rows of one's own. -/
theorem step_overlaps {f : FuncId} {fn : Func} {x y : Operand} {t tr e n b h h' off off' k k' : Nat} {ats : Array TypeId} {r r' : Reg} [ht : Sl P t e n b] (hf : P.funcs[f]? = some fn) (hnm : (fn.name == "runtime.NumGoroutine") = false) (hb : fn.body.isNone = true) (hn : Extern.findNext fn = none) (he : Extern.find fn = some (Extern.SlicesOverlaps.overlaps #[t, t] #[tr]))
    (ho : o.op = .call { callee := .value (.func f), args := #[x, y], argTypes := ats }) (hx : ρ x = .sl h off k) (hy : ρ y = .sl h' off' k') (hne : h ≠ h') (hr : H[h]? = some r) (hm : r.mode = 0) (hr' : H[h']? = some r') (hm' : r'.mode = 0) (hk : 0 < k ∨ off = 0) (hk' : 0 < k') (hes' : r'.esz = n) : Step P o ρ H (B false) H := step_pure fun A φ a w hok hh => by
  have hx1 := hh x (by simp [ho, Op.operands, Call.operands])
  have hy1 := hh y (by simp [ho, Op.operands, Call.operands])
  refine ⟨.bool false, ?_, by simp [Rel]⟩
  have hpos := ht.pos
  have key : (Extern.SlicesOverlaps.overlaps #[t, t] #[tr] #[a.eval x, a.eval y]).run P w = .ok (.bool false) w := by
    rw [hx, Rel] at hx1
    rw [hy, Rel] at hy1
    obtain ⟨hd, q1, ⟨q2, q3⟩ | ⟨q4, q5, _⟩⟩ := hx1
    rotate_left
    · omega
    obtain ⟨hd', p1, ⟨p2, p3⟩ | ⟨p4, p5, _⟩⟩ := hy1
    rotate_left
    · omega
    obtain ⟨⟨f1, f2, f3⟩, f4⟩ := hok.regs h hd r q1 hr (by omega)
    obtain ⟨⟨g1, g2, g3⟩, g4⟩ := hok.regs h' hd' r' p1 hr' (by omega)
    obtain ⟨ti, z', i1, i2, _⟩ := ht.i
    have hsz : ∀ w, (sizeOf e).run P w = .ok n w := fun w => by simp [sizeOf, typeInfo, i1, i2]
    cases hB' : hd'.blk with
    | none => rw [hB'] at g4; omega
    | some bb' =>
      rw [hB'] at g4 p2
      obtain ⟨c', d1, d2, d3, d4⟩ := g4
      cases hB : hd.blk with
      | none =>
        rw [hB] at q2
        rw [q2, p2]
        change Sem.run P (α := Value) (do
          let some t := (#[t, t] : Array TypeId)[0]? | stuck "slices.overlaps: no parameter types"
          let .slice elem ← underlying t | stuck "slices.overlaps: slice type expected"
          let size ← sizeOf elem
          pure (Value.bool false)) w = _
        simp [run_underlying ht.u, hsz]
      | some bb =>
        rw [hB] at f4 q2
        obtain ⟨c, s1, s2, s3, s4⟩ := f4
        have hbne : bb ≠ bb' := fun e => hne (hok.inj h h' bb ⟨hd, r, q1, hr, hm, hB⟩ (e ▸ ⟨hd', r', p1, hr', hm', hB'⟩))
        have hsz' : 0 < c'.size := by
          rw [d2, g1]
          exact Nat.mul_pos (by omega) (by omega)
        rw [q2, p2]
        exact Lib.run_overlaps_apart w t tr e ht.u n hsz ⟨bb, off * hd.esz, none⟩ ⟨bb', off' * hd'.esz, none⟩ k _ k' _ hbne hd.e hd'.e c.size c'.size (by simp [World.shape?, s1]) (by simp [World.shape?, d1]) (by omega) (by simp [World.frozen?, s1]) (by simp [World.frozen?, s1])
  have hc := run_callFunc_extern hf hnm hb hn he #[a.eval x, a.eval y] w
  obtain ⟨dst, op, type, pos, after, guard⟩ := o
  simp only at ho
  subst ho
  rw [show (#[x, y] : Array Operand) = [x, y].toArray from rfl, execOp_call_go]
  simp [hc, key]

/-! ### The nil slice as a row -/
mutual
inductive Nz (k : Nat) : V → V → Prop where
  | same (v : V) : Nz k v v
  | nil : Nz k (.k (.slice none 0 0)) (.sl k 0 0)
  | agg {cs ds : List V} (h : NzS k cs ds) : Nz k (.agg cs) (.agg ds)
  | tup {cs ds : List V} (h : NzS k cs ds) : Nz k (.tup cs) (.tup ds)
inductive NzS (k : Nat) : List V → List V → Prop where
  | rest (cs : List V) : NzS k cs cs
  | cons {c d : V} {cs ds : List V} (h : Nz k c d) (hs : NzS k cs ds) : NzS k (c :: cs) (d :: ds)
end
theorem NzS.length {k : Nat} : ∀ {cs ds : List V}, NzS k cs ds → ds.length = cs.length
  | _, _, .rest _ => rfl
  | _, _, .cons h hs => by simp [NzS.length hs]
inductive NzR (k : Nat) : List Reg → List Reg → Prop where
  | rest (H : List Reg) : NzR k H H
  | cons {r : Reg} {cs : List V} {H K : List Reg} (h : NzS k r.cells cs) (hs : NzR k H K) : NzR k (r :: H) ({ r with cells := cs } :: K)
theorem NzR.get {k : Nat} : ∀ {H K : List Reg}, NzR k H K → K.length = H.length ∧ ∀ (i : Nat) (r' : Reg), K[i]? = some r' → ∃ r, H[i]? = some r ∧ r'.mode = r.mode ∧ r'.esz = r.esz ∧ r'.e = r.e ∧ NzS k r.cells r'.cells
  | _, _, .rest H => ⟨rfl, fun i r h => ⟨r, h, rfl, rfl, rfl, .rest _⟩⟩
  | _, _, .cons h hs => by
    obtain ⟨e1, e2⟩ := hs.get
    refine ⟨by simp [e1], fun i r' hi => ?_⟩
    cases i with
    | zero => simp at hi; subst hi; exact ⟨_, rfl, rfl, rfl, rfl, h⟩
    | succ i => simp only [List.getElem?_cons_succ] at hi ⊢; exact e2 i r' hi

mutual
theorem Nz.rel {k : Nat} {hd : Hd} (hφ : φ[k]? = some hd) (hb : hd.blk = none) (hc : hd.cap = 0) : ∀ {v v' : V} {x : Value}, Nz k v v' → Rel A w φ v x → Rel A w φ v' x
  | _, _, x, .same v, h => h
  | _, _, x, .nil, h => by
    rw [Rel] at h
    rw [Rel]
    exact ⟨hd, hφ, Or.inl ⟨by rw [h, hb, hc]; rfl, by omega⟩⟩
  | _, _, x, .agg hs, h => by
    rw [Rel] at h ⊢
    obtain ⟨xs, e1, e2, h1⟩ := h
    exact ⟨xs, e1, e2.trans (NzS.length hs).symm, NzS.rels hφ hb hc hs h1⟩
  | _, _, x, .tup hs, h => by
    rw [Rel] at h ⊢
    obtain ⟨xs, e1, e2, h1⟩ := h
    exact ⟨xs, e1, e2.trans (NzS.length hs).symm, NzS.rels hφ hb hc hs h1⟩
theorem NzS.rels {k : Nat} {hd : Hd} (hφ : φ[k]? = some hd) (hb : hd.blk = none) (hc : hd.cap = 0) : ∀ {cs ds : List V} {g : Nat → Option Value}, NzS k cs ds → Rels A w φ cs g → Rels A w φ ds g
  | _, _, g, .rest _, h => h
  | _, _, g, .cons h hs, hr => by
    rw [Rels] at hr ⊢
    obtain ⟨⟨y, h1, h2⟩, h3⟩ := hr
    exact ⟨⟨y, h1, Nz.rel hφ hb hc h h2⟩, NzS.rels hφ hb hc hs h3⟩
end

theorem sub_nil {l l' : List V} {H K : List Reg} {m : Nat} (e n : Nat) (ht : NzS H.length l l') (hH : NzR H.length H K) : Sub ⟨l', K ++ [⟨e, n, [], 0⟩], m⟩ ⟨l, H, m⟩ := fun C φ a w hI => by
  obtain ⟨hm0, ⟨A, hA, hr⟩, hs, hd⟩ := hI
  obtain ⟨k1, k2⟩ := hH.get
  have hA1 := hA.addNil e n
  have hφ : (φ ++ [(⟨none, 0, n, e⟩ : Hd)])[H.length]? = some ⟨none, 0, n, e⟩ := by
    rw [← hA.ok.len]; simp
  have hup : ∀ (i : Nat) (d : Hd), φ[i]? = some d → (φ ++ [(⟨none, 0, n, e⟩ : Hd)])[i]? = some d := fun i d h => app_left h
  have hcell : ∀ (i : Nat) (r' : Reg), (K ++ [(⟨e, n, [], 0⟩ : Reg)])[i]? = some r' → ∃ r, (H ++ [(⟨e, n, [], 0⟩ : Reg)])[i]? = some r ∧ r'.mode = r.mode ∧ r'.esz = r.esz ∧ r'.e = r.e ∧ NzS H.length r.cells r'.cells := fun i r' hi => by
    rcases Nat.lt_or_ge i K.length with hlt | hge
    · rw [List.getElem?_append_left hlt] at hi
      obtain ⟨r, q1, q2, q3, q4, q5⟩ := k2 i r' hi
      exact ⟨r, app_left q1, q2, q3, q4, q5⟩
    · rw [List.getElem?_append_right hge, k1] at hi
      exact ⟨r', by rw [List.getElem?_append_right (by omega)]; exact hi, rfl, rfl, rfl, .rest _⟩
  have hlive : ∀ i b, LiveAt (φ ++ [(⟨none, 0, n, e⟩ : Hd)]) (K ++ [(⟨e, n, [], 0⟩ : Reg)]) i b → LiveAt (φ ++ [(⟨none, 0, n, e⟩ : Hd)]) (H ++ [(⟨e, n, [], 0⟩ : Reg)]) i b := fun i b ⟨d, r', q1, q2, q3, q4⟩ => by
    obtain ⟨r, p1, p2, _⟩ := hcell i r' q2
    exact ⟨d, r, q1, p1, by omega, q4⟩
  refine ⟨φ ++ [⟨none, 0, n, e⟩], hm0, ⟨A, ⟨⟨?_, fun i d r' q1 q2 q3 => ?_, fun i j b q1 q2 => hA1.ok.inj i j b (hlive i b q1) (hlive j b q2), fun i b q1 => hA1.ok.apart i b (hlive i b q1), fun i d r' b q1 q2 q3 q4 => ?_, hA1.ok.low⟩, hA1.old, fun i b q1 => hA1.own i b (hlive i b q1), hA1.frame, hA1.pre⟩, ?_⟩, hs.trans (NzS.length ht).symm, hd⟩
  · have := hA1.ok.len
    simp only [List.length_append] at this ⊢
    omega
  · obtain ⟨r, p1, p2, p3, p4, p5⟩ := hcell i r' q2
    obtain ⟨f1, f2⟩ := hA1.ok.regs i d r q1 p1 (by omega)
    refine ⟨⟨f1.1.trans p3.symm, f1.2.1.trans p4.symm, f1.2.2⟩, ?_⟩
    cases hb : d.blk with
    | none =>
      rw [hb] at f2
      have := NzS.length p5
      rw [f2.1] at this
      exact ⟨List.length_eq_zero_iff.1 this, f2.2⟩
    | some b =>
      rw [hb] at f2
      obtain ⟨c, c1, c2, c3, c4⟩ := f2
      exact ⟨c, c1, c2, by rw [NzS.length p5]; exact c3, NzS.rels hφ rfl rfl p5 c4⟩
  · obtain ⟨r, p1, p2, _⟩ := hcell i r' q2
    exact hA1.ok.frz i d r b q1 p1 (by omega) q4
  · exact NzS.rels hφ rfl rfl ht (Rels.mono (fun b hb => ⟨hb, rfl⟩) hup hr)

/-! ### Rows that are frozen -/
/-- Row h is frozen: from here on it is only read. -/
theorem sub_freezeM {l : List V} {H : List Reg} {m h : Nat} {r : Reg} (hh : H[h]? = some r) (hm : r.mode = 0) (hge : m ≤ h) (hlive : ∀ i, i < m → ∃ q, H[i]? = some q ∧ q.mode = 0) : Sub ⟨l, H.set h { r with mode := 1 }, m⟩ ⟨l, H, m⟩ := fun C φ a w hI => by
  obtain ⟨hm0, ⟨A, hA, hr⟩, hs, hd⟩ := hI
  have hlt : h < H.length := (List.getElem?_eq_some_iff.1 hh).1
  have hold : ∀ i b, LiveAt φ (H.set h { r with mode := 1 }) i b → i ≠ h ∧ LiveAt φ H i b := fun i b ⟨d, q, q1, q2, q3, q4⟩ => by
    rcases getElem?_set' q2 with ⟨rfl, rfl⟩ | ⟨hne, q2⟩
    · cases q3
    · exact ⟨hne, d, q, q1, q2, q3, q4⟩
  let B : Nat → Prop := fun b => ∃ d, φ[h]? = some d ∧ d.blk = some b
  have hB : ∀ b, B b → LiveAt φ H h b := fun b ⟨d, q1, q2⟩ => ⟨d, r, q1, hh, hm, q2⟩
  refine ⟨φ, hm0, ⟨fun b => A b ∨ B b, ⟨⟨by rw [List.length_set]; exact hA.ok.len, fun i d q q1 q2 q3 => ?_, fun i j b q1 q2 => hA.ok.inj i j b (hold i b q1).2 (hold j b q2).2, fun i b q1 hb => ?_, fun i d q b q1 q2 q3 q4 => ?_, fun b hb => ?_⟩, fun b hb => ?_, fun i b q1 => hA.own i b (hold i b q1).2, hA.frame, hA.pre⟩, Rels.mono (fun b hb => ⟨Or.inl hb, rfl⟩) (fun _ _ h => h) hr⟩, hs, hd⟩
  · obtain ⟨q', p1, p2⟩ : ∃ q', H[i]? = some q' ∧ q'.mode ≤ 1 ∧ q.esz = q'.esz ∧ q.e = q'.e ∧ q.cells = q'.cells := by
      rcases getElem?_set' q2 with ⟨rfl, rfl⟩ | ⟨hne, q2⟩
      · exact ⟨r, hh, by omega, rfl, rfl, rfl⟩
      · exact ⟨q, q2, q3, rfl, rfl, rfl⟩
    obtain ⟨f1, f2⟩ := hA.ok.regs i d q' q1 p1 p2.1
    refine ⟨⟨f1.1.trans p2.2.1.symm, f1.2.1.trans p2.2.2.1.symm, f1.2.2⟩, ?_⟩
    cases hb : d.blk with
    | none => rw [hb] at f2; rw [p2.2.2.2]; exact f2
    | some b =>
      rw [hb] at f2
      obtain ⟨c, c1, c2, c3, c4⟩ := f2
      exact ⟨c, c1, c2, by rw [p2.2.2.2]; exact c3, by rw [p2.2.2.2]; exact Rels.mono (fun b hb => ⟨Or.inl hb, rfl⟩) (fun _ _ h => h) c4⟩
  · obtain ⟨hne, hl⟩ := hold i b q1
    rcases hb with hb | hb
    · exact hA.ok.apart i b hl hb
    · exact hne (hA.ok.inj _ _ _ hl (hB b hb))
  · rcases getElem?_set' q2 with ⟨rfl, rfl⟩ | ⟨hne, q2⟩
    · exact Or.inr ⟨d, q1, q4⟩
    · exact Or.inl (hA.ok.frz i d q b q1 q2 q3 q4)
  · rcases hb with hb | ⟨d, q1, q2⟩
    · exact hA.ok.low b hb
    · exact blk_of hA.ok q1 hh (by omega) q2
  · rcases hb with hb | hb
    · exact hA.old b hb
    · rcases hA.own h b (hB b hb) with h1 | ⟨h0, d0, q0, p1, p2, p3, p4⟩
      · exact Or.inr h1
      · exfalso
        have hlt0 : h0 < m := by
          have := (List.getElem?_eq_some_iff.1 p1).1
          have e : C.φ0.length = m := hm0
          omega
        obtain ⟨q, k1, k2⟩ := hlive h0 hlt0
        have := hA.ok.inj h0 h b ⟨d0, q, hA.pre h0 d0 p1, k1, k2, p4⟩ (hB b hb)
        omega

mutual
/-- What is read of frozen rows, by what they hold. -/
inductive Vw (H : List Reg) : V → V → Prop where
  | same (v : V) : Vw H v v
  | pur {v v' : V} (h : Pur false H v v') : Vw H v v'
  | agg {cs ds : List V} (h : VwS H cs ds) : Vw H (.agg cs) (.agg ds)
  | tup {cs ds : List V} (h : VwS H cs ds) : Vw H (.tup cs) (.tup ds)
inductive VwS (H : List Reg) : List V → List V → Prop where
  | rest (cs : List V) : VwS H cs cs
  | cons {c d : V} {cs ds : List V} (h : Vw H c d) (hs : VwS H cs ds) : VwS H (c :: cs) (d :: ds)
end
theorem VwS.length : ∀ {cs ds : List V}, VwS H cs ds → ds.length = cs.length
  | _, _, .rest _ => rfl
  | _, _, .cons h hs => by simp [VwS.length hs]
theorem VwS.all {f : V → V} (hf : ∀ c, Vw H c (f c)) : ∀ cs : List V, VwS H cs (cs.map f)
  | [] => .rest _
  | c :: cs => .cons (hf c) (VwS.all hf cs)
mutual
theorem Vw.rel (hok : HeapOk A w φ H) : ∀ {v v' : V} {x : Value}, Vw H v v' → Rel A w φ v x → Rel A w φ v' x
  | _, _, x, .same _, h => h
  | _, _, x, .pur hp, h => rel_noH (Pur.noH hp) (Pur.rel hok (fun b hb => hb) (fun h => by cases h) hp h)
  | _, _, x, .agg hs, h => by
    rw [Rel] at h ⊢
    obtain ⟨xs, e1, e2, h1⟩ := h
    exact ⟨xs, e1, e2.trans (VwS.length hs).symm, VwS.rels hok hs h1⟩
  | _, _, x, .tup hs, h => by
    rw [Rel] at h ⊢
    obtain ⟨xs, e1, e2, h1⟩ := h
    exact ⟨xs, e1, e2.trans (VwS.length hs).symm, VwS.rels hok hs h1⟩
theorem VwS.rels (hok : HeapOk A w φ H) : ∀ {cs ds : List V} {g : Nat → Option Value}, VwS H cs ds → Rels A w φ cs g → Rels A w φ ds g
  | _, _, g, .rest _, h => h
  | _, _, g, .cons h hs, hr => by
    rw [Rels] at hr ⊢
    obtain ⟨⟨y, h1, h2⟩, h3⟩ := hr
    exact ⟨⟨y, h1, Vw.rel hok h h2⟩, VwS.rels hok hs h3⟩
end
inductive VwR (H : List Reg) : List Reg → List Reg → Prop where
  | rest (L : List Reg) : VwR H L L
  | cons {r : Reg} {cs : List V} {L K : List Reg} (h : VwS H r.cells cs) (hs : VwR H L K) : VwR H (r :: L) ({ r with cells := cs } :: K)
theorem VwR.get {G : List Reg} : ∀ {H K : List Reg}, VwR G H K → K.length = H.length ∧ ∀ (i : Nat) (r' : Reg), K[i]? = some r' → ∃ r, H[i]? = some r ∧ r'.mode = r.mode ∧ r'.esz = r.esz ∧ r'.e = r.e ∧ VwS G r.cells r'.cells
  | _, _, .rest H => ⟨rfl, fun i r h => ⟨r, h, rfl, rfl, rfl, .rest _⟩⟩
  | _, _, .cons h hs => by
    obtain ⟨e1, e2⟩ := hs.get
    refine ⟨by simp [e1], fun i r' hi => ?_⟩
    cases i with
    | zero => simp at hi; subst hi; exact ⟨_, rfl, rfl, rfl, rfl, h⟩
    | succ i => simp only [List.getElem?_cons_succ] at hi ⊢; exact e2 i r' hi
theorem sub_view {l l' : List V} {H K : List Reg} {m : Nat} (ht : VwS H l l') (hH : VwR H H K) : Sub ⟨l', K, m⟩ ⟨l, H, m⟩ := fun C φ a w hI => by
  obtain ⟨hm0, ⟨A, hA, hr⟩, hs, hd⟩ := hI
  obtain ⟨k1, k2⟩ := hH.get
  have hlive : ∀ i b, LiveAt φ K i b → LiveAt φ H i b := fun i b ⟨d, r', q1, q2, q3, q4⟩ => by
    obtain ⟨r, p1, p2, _⟩ := k2 i r' q2
    exact ⟨d, r, q1, p1, by omega, q4⟩
  refine ⟨φ, hm0, ⟨A, ⟨⟨by rw [k1]; exact hA.ok.len, fun i d r' q1 q2 q3 => ?_, fun i j b q1 q2 => hA.ok.inj i j b (hlive i b q1) (hlive j b q2), fun i b q1 => hA.ok.apart i b (hlive i b q1), fun i d r' b q1 q2 q3 q4 => ?_, hA.ok.low⟩, hA.old, fun i b q1 => hA.own i b (hlive i b q1), hA.frame, hA.pre⟩, VwS.rels hA.ok ht hr⟩, hs.trans (VwS.length ht).symm, hd⟩
  · obtain ⟨r, p1, p2, p3, p4, p5⟩ := k2 i r' q2
    obtain ⟨f1, f2⟩ := hA.ok.regs i d r q1 p1 (by omega)
    refine ⟨⟨f1.1.trans p3.symm, f1.2.1.trans p4.symm, f1.2.2⟩, ?_⟩
    cases hb : d.blk with
    | none =>
      rw [hb] at f2
      have := VwS.length p5
      rw [f2.1] at this
      exact ⟨List.length_eq_zero_iff.1 this, f2.2⟩
    | some b =>
      rw [hb] at f2
      obtain ⟨c, c1, c2, c3, c4⟩ := f2
      exact ⟨c, c1, c2, by rw [VwS.length p5]; exact c3, VwS.rels hA.ok p5 c4⟩
  · obtain ⟨r, p1, p2, _⟩ := k2 i r' q2
    exact hA.ok.frz i d r b q1 p1 (by omega) q4

theorem aops_sub {l : List Oper} {T S : St} (hs : Sub T S) (h : AOps P ops l Q T) : AOps P ops l Q S := ⟨fun C φ a w hI => let ⟨φ', h'⟩ := hs C φ a w hI; h.out C φ' a w h'⟩
end
end Go.Proofs.Ytkcicbigpbdjpaa.Ab
