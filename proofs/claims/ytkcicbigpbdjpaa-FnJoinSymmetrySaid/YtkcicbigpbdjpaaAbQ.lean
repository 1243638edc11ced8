/-
  WHAT IS HANDED BACK AS A VALUE THAT IS ONLY READ; RESULTS IN CELLS; ROWS THAT ARE READ ONLY FROM HERE ON.
-/
import Derived.Test.YtkcicbigpbdjpaaAbP
namespace Go.Proofs.Ytkcicbigpbdjpaa.Ab
open Go.RowKit
set_option linter.unusedVariables false
set_option linter.unusedSimpArgs false

section
variable {P : Program} {Q : Exit → St → Prop} {l : List V} {H : List Reg} {m : Nat}

mutual
theorem Pur.noH {live : Bool} : ∀ {v v' : V}, Pur live H v v' → Ab.noH v' = true
  | _, _, .same h => h
  | _, _, .any => rfl
  | _, _, .nil => rfl
  | _, _, .sl _ _ _ _ _ _ => rfl
  | _, _, .ptr _ _ _ _ => rfl
  | _, _, .slN _ _ _ _ _ => rfl
  | _, _, .agg h => by simp only [Ab.noH]; exact Purs.noHs h
  | _, _, .fn h => by simp only [Ab.noH]; exact Purs.noHs h
  | _, _, .tup h => by simp only [Ab.noH]; exact Purs.noHs h
theorem Purs.noHs {live : Bool} : ∀ {cs ds : List V}, Purs live H cs ds → Ab.noHs ds = true
  | _, _, .nil => rfl
  | _, _, .cons h hs => by simp only [Ab.noHs, Pur.noH h, Purs.noHs hs, Bool.and_self]
end

/-- Handed back: a value that is only read; the walk's own rows in it are so from now on. -/
theorem out_pur {r v : V} {S : St} (hm : S.m = 0) (hp : Pur true S.H v r) : Out true r [] v S := by
  intro C A φ w x hm0 hA hv
  have h0 : C.φ0 = [] := List.length_eq_zero_iff.1 (hm0.trans hm)
  refine ⟨[], fun b => A b ∨ ∃ h, LiveAt φ S.H h b, ⟨rfl, fun h hd r h1 => by simp at h1, fun h h' b ⟨hd, r, h1, _⟩ => by simp at h1, fun h b ⟨hd, r, h1, _⟩ => by simp at h1, fun h hd r b h1 => by simp at h1, fun b hb => ?_⟩,
    Pur.rel hA.ok (fun b hb => Or.inl hb) (fun _ h b hb => Or.inr ⟨h, hb⟩) hp hv, fun b hb => ?_, fun h b ⟨hd, r, h1, _⟩ => by simp at h1, fun h hd h1 => by rw [h0] at h1; simp at h1⟩
  · rcases hb with hb | ⟨h, hd, r, q1, q2, q3, q4⟩
    · exact hA.ok.low b hb
    · exact blk_of hA.ok q1 q2 (by omega) q4
  · rcases hb with hb | ⟨h, hb⟩
    · exact (hA.old b hb).imp (fun h => ⟨rfl, h⟩) id
    · rcases hA.own h b hb with h1 | ⟨h9, hd, r, p1, _⟩
      · exact Or.inr h1
      · rw [h0] at p1
        simp at p1

theorem finP {t : Tmp} {v r : V} (hv : evO l (.tmp t) = some v) (hp : Pur true H v r) : (Exit.ret = .ret ∨ Exit.ret = .normal) ∧ Out true r [] (resV ⟨l, H, 0⟩ [t]) ⟨l, H, 0⟩ := by
  have : resV ⟨l, H, 0⟩ [t] = v := ev_of (H := H) (m := 0) (x := .tmp t) hv
  rw [this]
  exact ⟨Or.inl rfl, out_pur rfl hp⟩

theorem finPT {ts : List Tmp} {v r : V} (hv : resV ⟨l, H, 0⟩ ts = v) (hp : Pur true H v r) : (Exit.ret = .ret ∨ Exit.ret = .normal) ∧ Out true r [] (resV ⟨l, H, 0⟩ ts) ⟨l, H, 0⟩ := by
  rw [hv]
  exact ⟨Or.inl rfl, out_pur rfl hp⟩

/-- A list of the walk's own, as a slice that is only read. -/
theorem pur_L {α : Type} {t : Ty α} {h n es : Nat} {e : TypeId} {c : List V} {xs : List α} (hH : H[h]? = some ⟨e, es, c, 0⟩) (he : es = t.n) (hc : c = t.flat xs) (hn : n = xs.length) : Pur true H (.sl h 0 n) (lstOf t xs) := by
  subst hc he hn
  exact pur_l (t := t) (e := e) hH rfl

/-- What a result that lies in a cell is. -/
structure CellIs (l : List V) (H : List Reg) (t : Tmp) (n : Nat) (v : V) : Prop where
  ex : ∃ h off r, l[t]? = some (.ptr h off) ∧ H[h]? = some r ∧ r.mode ≤ 1 ∧ off + n ≤ r.cells.length ∧ v = .agg ((r.cells.drop off).take n)

theorem cell_is {t : Tmp} {n h off : Nat} {r : Reg} {v : V} (h1 : l[t]? = some (.ptr h off)) (h2 : H[h]? = some r) (h3 : Nat.ble r.mode 1 = true) (h4 : Nat.ble (off + n) r.cells.length = true) (h5 : .agg ((r.cells.drop off).take n) = v) : CellIs l H t n v := ⟨h, off, r, h1, h2, Nat.le_of_ble_eq_true h3, Nat.le_of_ble_eq_true h4, h5.symm⟩

/-- The contract of a function whose result lies in a cell. -/
theorem meets_ofC {f : FuncId} {fn : Func} {c : Code} {cargs : List V} {hs : List Reg} {r : V} {hs' : List Reg} {al : Bool} (t : Tmp) (ty : TypeId) {n : Nat} [ht : Ag P ty n]
    (hf : P.funcs[f]? = some fn) (hb : fn.body = some c) (hr : fn.results = #[.cell t ty])
    (h : AW P c (fun e S => (e = .ret ∨ e = .normal) ∧ ∃ v, CellIs S.tmps S.H t n v ∧ Out al r hs' v S) ⟨cargs ++ List.replicate (fn.ntmps - cargs.length) (.k undef), hs, hs.length⟩) : Meets P f cargs hs r hs' al := by
  intro A φ w xs hok hrel hsz
  refine calls_of_wp hf hb ?_
  have hI : Inv ⟨A, w, φ, hs⟩ φ ⟨cargs ++ List.replicate (fn.ntmps - cargs.length) (.k undef), hs, hs.length⟩ { tmps := xs ++ Array.replicate (fn.ntmps - xs.size) undef, defers := [] } w := by
    refine ⟨hok.len, ⟨A, ⟨hok, fun b hb => Or.inl hb, fun h b hl => Or.inr ⟨h, hl⟩, ⟨rfl, rfl, rfl, Nat.le_refl _, fun _ _ _ => rfl⟩, fun _ _ h => h⟩, ?_⟩, by simp [hsz], rfl⟩
    refine rels_append (rels_congr hrel fun i hi => ?_) (rels_iff.2 fun i c hc => ⟨undef, ?_, ?_⟩)
    · simp [Array.getElem?_append, hsz, hi]
    · have hlt := (List.getElem?_eq_some_iff.1 hc).1
      simp only [List.length_replicate] at hlt
      simp only [Array.getElem?_append, hsz, Nat.not_lt.2 (Nat.le_add_right _ _), if_false, Nat.add_sub_cancel_left]
      simp [hlt]
    · have := List.mem_of_getElem? hc
      obtain rfl := List.eq_of_mem_replicate this
      simp [Rel]
  refine wp_mono (h.out ⟨A, w, φ, hs⟩ φ _ w hI) ?_
  rintro e a' w' ⟨S', φ1, hI', he, v, hc, ho⟩
  obtain ⟨hm, ⟨A1, hA1, hr1⟩, hs1, hd1⟩ := hI'
  obtain ⟨⟨h, off, r0, c1, c2, c3, c4, c5⟩⟩ := hc
  obtain ⟨y, y1, y2⟩ := rels_get hr1 c1
  rw [Rel] at y2
  obtain ⟨hd, b, e1, e2, e3⟩ := y2
  obtain ⟨us, h2, h3, h4⟩ := run_loadCells_rels (P := P) (rels_take (rels_drop (row_cells hA1.ok e1 c2 c3 e2) off) n)
  have hl : ((r0.cells.drop off).take n).length = n := by simp; omega
  rw [hl] at h2
  have hx : Rel A1 w' φ1 v (.agg us) := by subst c5; rw [Rel]; exact ⟨us, rfl, h3, h4⟩
  have hrun : (results fn a'.tmps).run P w' = .ok (.agg us) w' := by
    have hg : a'.tmps.getD t undef = .pointer (some ⟨b, off, none⟩) := by
      rw [Array.getD_eq_getD_getElem?, show a'.tmps[t]? = some y from y1, e3]
      rfl
    unfold results
    rw [hr]
    simp only [List.mapM_toArray, List.mapM_cons, List.mapM_nil, hg, Sem.run_bind, Sem.run_map, Sem.run_pure, Result.andThen_ok, asAddr, loadVar, ht.a, ht.s, h2, if_true]
    rfl
  obtain ⟨φ', A', k1, k2, k3, k4, k5⟩ := ho ⟨A, w, φ, hs⟩ A1 φ1 w' (.agg us) hm hA1 hx
  have key : a'.defers = [] ∧ ∃ v, (results fn a'.tmps).run P w' = .ok v w' ∧ ∃ x φ' A', (Ending.returned v) = .returned x ∧ HeapOk A' w' φ' hs' ∧ Rel A' w' φ' r x ∧ (∀ b, A' b → (al = true ∧ A b) ∨ w.heap.size ≤ b) ∧
      (∀ h b, LiveAt φ' hs' h b → w.heap.size ≤ b ∨ ∃ h0, LiveAt φ hs h0 b) ∧ Framed ⟨A, w, φ, hs⟩ w' ∧ (∀ (h : Nat) (hd : Hd), φ[h]? = some hd → φ'[h]? = some hd) :=
    ⟨hd1, _, hrun, _, φ', A', rfl, k1, k2, k3, k4, hA1.frame, k5⟩
  rcases he with rfl | rfl
  · exact key
  · exact key

theorem finC {t : Tmp} {n : Nat} {v r : V} (hv : CellIs l H t n v) (hp : Pur true H v r) : (Exit.ret = .ret ∨ Exit.ret = .normal) ∧ ∃ v, CellIs l H t n v ∧ Out true r [] v ⟨l, H, 0⟩ := ⟨Or.inl rfl, v, hv, out_pur rfl hp⟩

/-- A contract whose result is only read serves in a caller that holds it so. -/
theorem st_callL {o : Oper} {ρ : Operand → V} {K : List Reg} {f : FuncId} {args : List Operand} {ats : Array TypeId} {cargs : List V} {r : V} {al : Bool} [he : Ent P f] (ho : o.op = .call { callee := .value (.func f), args := args.toArray, argTypes := ats })
    (hm : Meets P f cargs [] r [] al) (hargs : Purs (!al) K (args.map ρ) cargs) (hr : noH r = true) : Step P o ρ K r K := st_call ho hm hargs hr

/-- A call of a function value that hands back what bears no memory of the walk's own. -/
theorem st_callV {o : Oper} {ρ : Operand → V} {K : List Reg} {fo : Operand} {f : FuncId} {args : List Operand} {ats : Array TypeId} {caps cargs : List V} {r : V} {al : Bool} [he : Ent P f] (ho : o.op = .call { callee := .value fo, args := args.toArray, argTypes := ats })
    (hf : ρ fo = .fn f caps) (hm : Meets P f cargs [] r [] al) (hargs : Purs (!al) K (args.map ρ ++ caps) cargs) (hr : noH r = true) : Step P o ρ K r K := by
  have h := step_callV ho hf hm hargs (fun q hq => by cases hq)
  rw [List.append_nil] at h
  rwa [shV_noH K.length hr] at h

/-! ### What stands next -/
section
variable {ops : Array Oper} {rest : List Oper} {ds : List Nat} {k : Nat} {S : St}
theorem isA (h : AOps P ops rest Q S) : AOps P ops rest Q S := h
theorem isL (h : ALex P ops ds k Q S) : ALex P ops ds k Q S := h
theorem isAc (f : Nat) {d : Option Tmp} {x : Array Operand} {y : Array TypeId} {ty : TypeId} {p : String} {a : Array Edge} {g : Option (Nat × Bool)} (h : AOps P ops (⟨d, .call { callee := .value (.func f), args := x, argTypes := y }, ty, p, a, g⟩ :: rest) Q S) : AOps P ops (⟨d, .call { callee := .value (.func f), args := x, argTypes := y }, ty, p, a, g⟩ :: rest) Q S := h
theorem isAd {t : Nat} {d : Option Tmp} {x : Array Operand} {y : Array TypeId} {ty : TypeId} {p : String} {a : Array Edge} {g : Option (Nat × Bool)} (h : AOps P ops (⟨d, .call { callee := .value (.tmp t), args := x, argTypes := y }, ty, p, a, g⟩ :: rest) Q S) : AOps P ops (⟨d, .call { callee := .value (.tmp t), args := x, argTypes := y }, ty, p, a, g⟩ :: rest) Q S := h
theorem isAp {d : Option Tmp} {x : Array Operand} {y : Array TypeId} {ty : TypeId} {p : String} {a : Array Edge} {g : Option (Nat × Bool)} (h : AOps P ops (⟨d, .call { callee := .builtin .append, args := x, argTypes := y }, ty, p, a, g⟩ :: rest) Q S) : AOps P ops (⟨d, .call { callee := .builtin .append, args := x, argTypes := y }, ty, p, a, g⟩ :: rest) Q S := h
theorem isAi {d : Option Tmp} {t : TypeId} {x y : Operand} {ty : TypeId} {p : String} {a : Array Edge} {g : Option (Nat × Bool)} (h : AOps P ops (⟨d, .indexAddr t x y, ty, p, a, g⟩ :: rest) Q S) : AOps P ops (⟨d, .indexAddr t x y, ty, p, a, g⟩ :: rest) Q S := h
theorem isAl {d : Option Tmp} {t : TypeId} {x : Operand} {ty : TypeId} {p : String} {a : Array Edge} {g : Option (Nat × Bool)} (h : AOps P ops (⟨d, .load t x, ty, p, a, g⟩ :: rest) Q S) : AOps P ops (⟨d, .load t x, ty, p, a, g⟩ :: rest) Q S := h
theorem isAs {d : Option Tmp} {t : TypeId} {x y : Operand} {ty : TypeId} {p : String} {a : Array Edge} {g : Option (Nat × Bool)} (h : AOps P ops (⟨d, .store t x y, ty, p, a, g⟩ :: rest) Q S) : AOps P ops (⟨d, .store t x y, ty, p, a, g⟩ :: rest) Q S := h
theorem isAm {d : Option Tmp} {t : TypeId} {x y : Operand} {ty : TypeId} {p : String} {a : Array Edge} {g : Option (Nat × Bool)} (h : AOps P ops (⟨d, .makeSlice t x y, ty, p, a, g⟩ :: rest) Q S) : AOps P ops (⟨d, .makeSlice t x y, ty, p, a, g⟩ :: rest) Q S := h
theorem isAf {d : Option Tmp} {f : Fn} {x y} {ty : TypeId} {p : String} {a : Array Edge} {g : Option (Nat × Bool)} (h : AOps P ops (⟨d, .makeFunc f x y, ty, p, a, g⟩ :: rest) Q S) : AOps P ops (⟨d, .makeFunc f x y, ty, p, a, g⟩ :: rest) Q S := h
theorem isAx {d : Option Tmp} {t : TypeId} {x : Operand} {lo hi mx : Option Operand} {ty : TypeId} {p : String} {a : Array Edge} {g : Option (Nat × Bool)} (h : AOps P ops (⟨d, .slice t x lo hi mx, ty, p, a, g⟩ :: rest) Q S) : AOps P ops (⟨d, .slice t x lo hi mx, ty, p, a, g⟩ :: rest) Q S := h
theorem isLc (f : Nat) {d : Option Tmp} {x : Array Operand} {y : Array TypeId} {ty : TypeId} {p : String} {a : Array Edge} {g : Option (Nat × Bool)} (ho : ops[k]? = some ⟨d, .call { callee := .value (.func f), args := x, argTypes := y }, ty, p, a, g⟩) (h : ALex P ops ds k Q S) : ALex P ops ds k Q S := h
theorem isLd {t : Nat} {d : Option Tmp} {x : Array Operand} {y : Array TypeId} {ty : TypeId} {p : String} {a : Array Edge} {g : Option (Nat × Bool)} (ho : ops[k]? = some ⟨d, .call { callee := .value (.tmp t), args := x, argTypes := y }, ty, p, a, g⟩) (h : ALex P ops ds k Q S) : ALex P ops ds k Q S := h
theorem isLp {d : Option Tmp} {x : Array Operand} {y : Array TypeId} {ty : TypeId} {p : String} {a : Array Edge} {g : Option (Nat × Bool)} (ho : ops[k]? = some ⟨d, .call { callee := .builtin .append, args := x, argTypes := y }, ty, p, a, g⟩) (h : ALex P ops ds k Q S) : ALex P ops ds k Q S := h
theorem isLi {d : Option Tmp} {t : TypeId} {x y : Operand} {ty : TypeId} {p : String} {a : Array Edge} {g : Option (Nat × Bool)} (ho : ops[k]? = some ⟨d, .indexAddr t x y, ty, p, a, g⟩) (h : ALex P ops ds k Q S) : ALex P ops ds k Q S := h
theorem isLl {d : Option Tmp} {t : TypeId} {x : Operand} {ty : TypeId} {p : String} {a : Array Edge} {g : Option (Nat × Bool)} (ho : ops[k]? = some ⟨d, .load t x, ty, p, a, g⟩) (h : ALex P ops ds k Q S) : ALex P ops ds k Q S := h
theorem isLs {d : Option Tmp} {t : TypeId} {x y : Operand} {ty : TypeId} {p : String} {a : Array Edge} {g : Option (Nat × Bool)} (ho : ops[k]? = some ⟨d, .store t x y, ty, p, a, g⟩) (h : ALex P ops ds k Q S) : ALex P ops ds k Q S := h
theorem isLm {d : Option Tmp} {t : TypeId} {x y : Operand} {ty : TypeId} {p : String} {a : Array Edge} {g : Option (Nat × Bool)} (ho : ops[k]? = some ⟨d, .makeSlice t x y, ty, p, a, g⟩) (h : ALex P ops ds k Q S) : ALex P ops ds k Q S := h
theorem isLf {d : Option Tmp} {f : Fn} {x y} {ty : TypeId} {p : String} {a : Array Edge} {g : Option (Nat × Bool)} (ho : ops[k]? = some ⟨d, .makeFunc f x y, ty, p, a, g⟩) (h : ALex P ops ds k Q S) : ALex P ops ds k Q S := h
theorem isLx {d : Option Tmp} {t : TypeId} {x : Operand} {lo hi mx : Option Operand} {ty : TypeId} {p : String} {a : Array Edge} {g : Option (Nat × Bool)} (ho : ops[k]? = some ⟨d, .slice t x lo hi mx, ty, p, a, g⟩) (h : ALex P ops ds k Q S) : ALex P ops ds k Q S := h
theorem lex_S {o : Oper} {m : Nat} {l' : List V} {K : List Reg} (ho : ops[k]? = some o) (hc : lexP ops k = true) (hw : wantA ops ⟨l, H, m⟩ o = some false) (hp : putF l H o.dst (.k undef) = some (l', K)) (h : ALex P ops ds (k + 1) Q ⟨l', K, m⟩) : ALex P ops ds k Q ⟨l, H, m⟩ :=
  lex_skip ho hc hw (by rw [show ({ tmps := l, H := H, m := m } : St).put o.dst (.k undef) H = ⟨l', K, m⟩ from putF_eq hp m]; exact h)
theorem isLg {d : Option Tmp} {op : Op} {ty : TypeId} {p : String} {a : Array Edge} {g : Nat × Bool} (ho : ops[k]? = some ⟨d, op, ty, p, a, some g⟩) (h : ALex P ops ds k Q S) : ALex P ops ds k Q S := h
theorem isAg {d : Option Tmp} {op : Op} {ty : TypeId} {p : String} {a : Array Edge} {g : Nat × Bool} (h : AOps P ops (⟨d, op, ty, p, a, some g⟩ :: rest) Q S) : AOps P ops (⟨d, op, ty, p, a, some g⟩ :: rest) Q S := h
end

/-! ### Rows, said again -/
inductive HLes (ψ : List Nat) (H : List Reg) : List Nat → List Reg → Prop where
  | nil : HLes ψ H [] []
  | cons {h : Nat} {r r' : Reg} {hs : List Nat} {K : List Reg} (hh : H[h]? = some r') (hm : r'.mode = r.mode) (he : r'.esz = r.esz) (hee : r'.e = r.e) (hc : Les ψ r.cells r'.cells) (ht : HLes ψ H hs K) : HLes ψ H (h :: hs) (r :: K)

theorem HLes.get {ψ : List Nat} : ∀ {hs : List Nat} {K : List Reg}, HLes ψ H hs K → hs.length = K.length ∧ ∀ (i h : Nat), hs[i]? = some h → ∃ r r', K[i]? = some r ∧ H[h]? = some r' ∧ (r.mode ≤ 1 → r'.mode = r.mode ∧ r'.esz = r.esz ∧ r'.e = r.e ∧ Les ψ r.cells r'.cells)
  | _, _, .nil => ⟨rfl, fun i h hi => by simp at hi⟩
  | _, _, .cons hh hm he hee hc hs => by
    obtain ⟨e1, e2⟩ := hs.get
    refine ⟨by simp [e1], fun i h hi => ?_⟩
    cases i with
    | zero =>
      simp at hi
      subst hi
      exact ⟨_, _, rfl, hh, fun _ => ⟨hm, he, hee, hc⟩⟩
    | succ i =>
      simp only [List.getElem?_cons_succ] at hi ⊢
      exact e2 i h hi

theorem hle_of {ψ : List Nat} {K : List Reg} (hn : ψ.Nodup) (h : HLes ψ H ψ K) : HLe ψ K H := ⟨h.get.1, hn, h.get.2⟩

theorem les_eq {ψ : List Nat} {cs ds : List V} (h : ds = cs) (hN : NoH cs) : Les ψ cs ds := by subst h; exact les_refl hN
theorem le_eq {ψ : List Nat} {c d : V} (h : d = c) (hN : noH c = true) : Le ψ c d := by subst h; exact le_refl hN

theorem aw_ct {c : Operand} {x y : Code} {S : St} (hc : S.ev c = .k (.bool true)) (h : AW P x Q S) : AW P (.cond c x y) Q S := aw_cond hc (fun _ => h) (fun e => by cases e)
theorem aw_cf {c : Operand} {x y : Code} {S : St} (hc : S.ev c = .k (.bool false)) (h : AW P y Q S) : AW P (.cond c x y) Q S := aw_cond hc (fun e => by cases e) (fun _ => h)

/-- Where a loop begins and goes round again. -/
theorem sub0 {T S : St} (ψ : List Nat) (hm : T.m = 0) (hm' : S.m = 0) (hn : ψ.Nodup) (hH : HLes ψ S.H ψ T.H) (ht : Les ψ T.tmps S.tmps) : Sub T S := sub_of ψ (hm.trans hm'.symm) (fun i hi => by omega) (hle_of hn hH) ht

theorem src_of {K : List Reg} {h off m : Nat} {r : Reg} {cs : List V} (hr : K[h]? = some r) (hm : Nat.ble r.mode 1 = true) (hl : Nat.ble ((off + m) * r.esz) r.cells.length = true) (hc : (r.cells.drop (off * r.esz)).take (m * r.esz) = cs) : Src K (.sl h off m) m cs := by
  subst hc
  exact Src.sl hr (Nat.le_of_ble_eq_true hm) (Nat.le_of_ble_eq_true hl)

/-- A list that is made. -/
theorem mk_l {o : Oper} {ρ : Operand → V} {K : List Reg} {α : Type} (T : Ty α) (z : α) {t e n b : Nat} {x y : Operand} {k k' : IntKind} {m : Nat} {zs : List Value} [ht : Sl P t e n b] [hz : Ze P e zs] (ho : o.op = .makeSlice t x y) (hx : ρ x = .k (.int k m)) (hy : ρ y = .k (.int k' m))
    (hm : m ≤ 1000000000) (hb : Nat.ble b 100000 = true) (hn : T.n = n) (hzz : zs.map V.k = T.enc z) : Step P o ρ K (.sl K.length 0 m) (K ++ [regOf T e (List.replicate m z)]) := by
  have hb' := Nat.le_of_ble_eq_true hb
  have h := step_make (P := P) (H := K) ho hx hy (b := b) (t := t) (n := n) (zs := zs) (Nat.le_trans (Nat.mul_le_mul hm hb') (by decide)) (by omega) (by rw [← hn, ← T.len z, ← hzz, List.length_map])
  have e1 : (List.replicate m (zs.map V.k)).flatten = T.flat (List.replicate m z) := by
    rw [hzz]
    show _ = (List.map T.enc (List.replicate m z)).flatten
    rw [List.map_replicate]
  rw [e1, ← hn] at h
  exact h

/-- An element of a list of the walk's own that is set. -/
theorem set_l {o : Oper} {ρ : Operand → V} {K : List Reg} {α : Type} {T : Ty α} {t e n h i : Nat} {x y : Operand} {xs : List α} {z : α} [ht : Ag P t n] (ho : o.op = .store t x y) (hx : ρ x = .ptr h (i * n)) (hy : ρ y = .agg (T.enc z)) (hn : T.n = n) (hH : K[h]? = some (regOf T e xs)) (hi : i < xs.length) :
    Step P o ρ K (.k undef) (K.set h (regOf T e (xs.set i z))) := by
  have h1 : i * n + n ≤ (T.flat xs).length := by rw [flat_length, hn, ← Nat.succ_mul]; exact Nat.mul_le_mul_right _ hi
  have := step_stores (P := P) (ρ := ρ) (H := K) ho hx hy ((T.len z).trans hn) (fun c hc => (T.ok z c hc).1) hH rfl h1
  subst hn
  have e1 := flat_set T (x := z) hi
  show Step P o ρ K (.k undef) (K.set h ⟨e, T.n, T.flat (xs.set i z), 0⟩)
  rw [← e1]
  exact this

/-- An element of a list of scalars that is set. -/
theorem set_l1 {o : Oper} {ρ : Operand → V} {K : List Reg} {α : Type} {T : Ty α} {t e h i : Nat} {x y : Operand} {xs : List α} {z : α} {v : V} [ht : Sc P t] (ho : o.op = .store t x y) (hx : ρ x = .ptr h i) (hy : ρ y = v) (hv : T.enc z = [v]) (hn : T.n = 1) (hH : K[h]? = some (regOf T e xs)) (hi : i < xs.length) :
    Step P o ρ K (.k undef) (K.set h (regOf T e (xs.set i z))) := by
  have h1 : i < (T.flat xs).length := by rw [flat_length, hn, Nat.mul_one]; exact hi
  have := step_store (P := P) (ρ := ρ) (H := K) ho hx hy (T.ok z v (by rw [hv]; simp)).1 hH rfl h1
  have e1 := flat_set T (x := z) hi
  rw [hn, Nat.mul_one, hv] at e1
  show Step P o ρ K (.k undef) (K.set h ⟨e, T.n, T.flat (xs.set i z), 0⟩)
  rw [← e1, setCells_one h1]
  exact this

theorem fill_step {α : Type} {xs ys : List α} {i : Nat} {z w : α} (h : ys[i]? = some z) (hl : xs.length = ys.length) : (ys.take i ++ List.replicate (ys.length - i) w).set i z = ys.take (i + 1) ++ List.replicate (ys.length - (i + 1)) w := by
  have hlt := (List.getElem?_eq_some_iff.1 h).1
  have hk : (ys.take i).length = i := by rw [List.length_take]; omega
  rw [List.set_append_right _ _ (by omega), hk, Nat.sub_self, show ys.length - i = (ys.length - (i + 1)) + 1 by omega, List.replicate_succ, List.set_cons_zero, List.take_add_one, h]
  simp

theorem wrap_succ {i n : Nat} (h : i < n) (hn : n ≤ 1000000000000) : IntKind.i64.wrap ((i : Int) + 1) = ((i + 1 : Nat) : Int) := by
  rw [IntKind.wrap_i64]
  omega

theorem le_i {ψ : List Nat} {i n : Nat} (h : i < n) (hn : n ≤ 1000000000000) : Le ψ (I ((i + 1 : Nat) : Int)) (I (IntKind.i64.wrap ((i : Int) + 1))) := le_k (congrArg _ (wrap_succ h hn).symm)

theorem step_load1 {o : Oper} {ρ : Operand → V} {K : List Reg} {α : Type} {T : Ty α} {t e h i : Nat} {x : Operand} {xs : List α} {z : α} {v : V} [ht : Sc P t] (ho : o.op = .load t x) (hx : ρ x = .ptr h i) (hH : K[h]? = some (regOf T e xs)) (hn : T.n = 1) (hz : xs[i]? = some z) (hv : T.enc z = [v]) : Step P o ρ K v K := by
  refine step_load_ptr ho hx hH (Nat.zero_le _) ?_
  have := flat_at T hz
  rw [hn, Nat.mul_one, hv] at this
  have h0 : ((T.flat xs).drop i)[0]? = some v := by rw [this]; rfl
  rwa [List.getElem?_drop, Nat.add_zero] at h0
end
end Go.Proofs.Ytkcicbigpbdjpaa.Ab
