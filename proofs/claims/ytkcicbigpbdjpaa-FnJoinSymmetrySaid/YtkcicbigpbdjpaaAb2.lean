/-
  MORE ON COMPARISONS; results that bear one another.
-/
import Derived.Test.YtkcicbigpbdjpaaAb1
namespace Go.Proofs.Ytkcicbigpbdjpaa.Ab
open Go.RowKit
set_option linter.unusedVariables false
set_option linter.unusedSimpArgs false

section
variable {P : Program} {o : Oper} {ρ : Operand → V} {H : List Reg} {l : List V}

theorem intFs_of {t : TypeId} {fs : Array Field} (hu : P.underlying t = some (.struct fs)) (hh : P.stoodInHeld t = false) (hg : P.eqGuardType P.depth t = false)
    (h : fs.toList.zipIdx.all (fun p => !(p.1.name == "_") && Nat.beq p.1.offset p.2 && (match P.underlying p.1.type with | some (.int .i64) => true | _ => false)) = true) : IntFs P t fs := ⟨hu, hh, hg, fun i f hf => by
  rw [List.all_eq_true] at h
  have := h (f, i) (List.mem_of_getElem? (i := i) (by rw [List.getElem?_zipIdx, hf]; simp))
  simp only [Bool.and_eq_true, Bool.not_eq_true', Nat.beq_eq] at this
  refine ⟨this.1.1, this.1.2, ?_⟩
  have h2 := this.2
  split at h2
  · assumption
  · cases h2⟩

theorem neqB_same {t t' : TypeId} {x y : Operand} {b : Bool} (ho : o.op = .binOp .neq t x y t') (hx : ρ x = B b) (hy : ρ y = B b) (ht : P.underlying t = some .bool) : Step P o ρ H (B false) H := by
  have := step_neqb (P := P) (H := H) ho hx hy ht
  simpa using this
theorem neqI_same {t t' : TypeId} {x y : Operand} {k : IntKind} {a : Int} (ho : o.op = .binOp .neq t x y t') (hx : ρ x = .k (.int k a)) (hy : ρ y = .k (.int k a)) : Step P o ρ H (B false) H := by
  have := step_neq (P := P) (H := H) ho hx hy
  simpa using this
theorem neqA_same {t t' : TypeId} {x y : Operand} (zs : List Int) (fs : Array Field) (hf : IntFs P t fs) (hl : zs.length = fs.size) (ho : o.op = .binOp .neq t x y t') (hx : ρ x = .agg (zs.map I)) (hy : ρ y = .agg (zs.map I)) : Step P o ρ H (B false) H := by
  have := step_neqA (P := P) (H := H) fs hf ho hx hy hl hl
  simpa using this
theorem eqlA_same {t t' : TypeId} {x y : Operand} (zs : List Int) (fs : Array Field) (hf : IntFs P t fs) (hl : zs.length = fs.size) (ho : o.op = .binOp .eql t x y t') (hx : ρ x = .agg (zs.map I)) (hy : ρ y = .agg (zs.map I)) : Step P o ρ H (B true) H := by
  have := step_eqlA (P := P) (H := H) fs hf ho hx hy hl hl
  simpa using this
end

section
variable {P : Program} {T : Tab} {ops : Array Oper} {ds d : List Nat} {n : Nat} {Q : Exit → St → Prop} {o : Oper} {l l' : List V} {H K : List Reg} {m : Nat}
/-- Number i, whatever the rows. -/
theorem per_A (i : Nat) {v : V} (ho : ops[i]? = some o) (hc : perP ops d i = true) (hw : wantA ops ⟨l, H, m⟩ o = some true) (h : ∀ H1, Step P o (St.ev ⟨l, H, m⟩) H1 v H1) (hp : putF l H o.dst v = some (l', K)) (hk : APer P ops ds (i :: d) n Q ⟨l', K, m⟩) : APer P ops ds d (n + 1) Q ⟨l, H, m⟩ := by
  simp only [perP, Bool.and_eq_true] at hc
  refine ⟨any_pure (mkL ops.size (i :: d)) ho (by simp only [takeP, hc.1, hc.2, mkL, Bool.true_and, beq_self_eq_true]) hw h ?_⟩
  rw [show (⟨l, H, m⟩ : St).put o.dst v (⟨l, H, m⟩ : St).H = ⟨l', K, m⟩ from putF_eq hp m]
  exact hk.out
end

section
variable {P : Program} {o : Oper} {ρ : Operand → V} {K : List Reg}
theorem flat_get {α : Type} (T : Ty α) {xs : List α} {i off : Nat} {z : α} {v : V} (hz : xs[i]? = some z) (hv : (T.enc z)[off]? = some v) : (T.flat xs)[i * T.n + off]? = some v := by
  rw [← List.getElem?_drop, flat_at T hz]
  exact app_left hv
/-- A field of an element of a row of one's own. -/
theorem ld_f {α : Type} {T : Ty α} {t e h i off : Nat} {x : Operand} {xs : List α} {z : α} {v : V} [ht : Sc P t] (ho : o.op = .load t x) (hx : ρ x = .ptr h (i * T.n + off)) (hH : K[h]? = some (regOf T e xs)) (hz : xs[i]? = some z) (hv : (T.enc z)[off]? = some v) : Step P o ρ K v K :=
  step_load_ptr ho hx hH (Nat.zero_le _) (flat_get T hz hv)
/-- An element of a row of one's own. -/
theorem ld_a {α : Type} {T : Ty α} {t e h i : Nat} {x : Operand} {xs : List α} {z : α} [ht : Ag P t T.n] (ho : o.op = .load t x) (hx : ρ x = .ptr h (i * T.n)) (hH : K[h]? = some (regOf T e xs)) (hz : xs[i]? = some z) : Step P o ρ K (.agg (T.enc z)) K := by
  have hlt := (List.getElem?_eq_some_iff.1 hz).1
  have := step_load_ptrs (P := P) (o := o) (ρ := ρ) (H := K) (n := T.n) ho hx hH (Nat.zero_le _) (by
    show i * T.n + T.n ≤ (T.flat xs).length
    rw [flat_length, ← Nat.succ_mul]
    exact Nat.mul_le_mul_right _ hlt)
  have e : ((regOf T e xs).cells.drop (i * T.n)).take T.n = T.enc z := by
    show ((T.flat xs).drop (i * T.n)).take T.n = _
    rw [flat_at T hz, ← T.len z, List.take_left']
    rfl
  rw [e] at this
  exact this
end

/-- A row without rows, handed over. -/
theorem GiveN.flat {H : List Reg} {hs0 : List Nat} {n h : Nat} {R R' : Reg} {hs : List Nat} {Rs Rs' R2 : List Reg} (hH : H[h]? = some R) (hm : R.mode = 0) (hm' : R'.mode = 0) (hN : NoH R.cells) (hN' : NoH R'.cells) (ht : GiveN H hs0 n hs Rs Rs' R2) : GiveN H hs0 n (h :: hs) (R :: Rs) (R' :: Rs') (R' :: R2) :=
  .cons (R0 := R) (R' := R') (cs := R.cells) (cs2 := R'.cells) hH hm (passS_noH hN) (by omega) (.rest hN') ht

/-! ### Less said of a row: its first cells alone -/
theorem HeapOk.cut {A : Nat → Prop} {w : World} {φ : List Hd} {H : List Reg} (hok : HeapOk A w φ H) {h : Nat} {r : Reg} (hh : H[h]? = some r) (n : Nat) : HeapOk A w φ (H.set h { r with cells := r.cells.take n }) := by
  have hget : ∀ (i : Nat) (q : Reg), (H.set h { r with cells := r.cells.take n })[i]? = some q → ∃ q0, H[i]? = some q0 ∧ q.mode = q0.mode ∧ q.esz = q0.esz ∧ q.e = q0.e ∧ ∃ k, q.cells = q0.cells.take k := fun i q hq => by
    rcases getElem?_set' hq with ⟨rfl, rfl⟩ | ⟨hne, hq⟩
    · exact ⟨r, hh, rfl, rfl, rfl, n, rfl⟩
    · exact ⟨q, hq, rfl, rfl, rfl, q.cells.length, by rw [List.take_length]⟩
  have hlive : ∀ i b, LiveAt φ (H.set h { r with cells := r.cells.take n }) i b → LiveAt φ H i b := fun i b ⟨d, q, q1, q2, q3, q4⟩ => by
    obtain ⟨q0, p1, p2, _⟩ := hget i q q2
    exact ⟨d, q0, q1, p1, by omega, q4⟩
  refine ⟨by rw [List.length_set]; exact hok.len, fun i d q q1 q2 q3 => ?_, fun i j b q1 q2 => hok.inj i j b (hlive i b q1) (hlive j b q2), fun i b q1 => hok.apart i b (hlive i b q1), fun i d q b q1 q2 q3 q4 => ?_, hok.low⟩
  · obtain ⟨q0, p1, p2, p3, p4, k, p5⟩ := hget i q q2
    obtain ⟨f1, f2⟩ := hok.regs i d q0 q1 p1 (by omega)
    refine ⟨⟨f1.1.trans p3.symm, f1.2.1.trans p4.symm, f1.2.2⟩, ?_⟩
    cases hb : d.blk with
    | none => rw [hb] at f2; exact ⟨by rw [p5, f2.1]; simp, f2.2⟩
    | some b =>
      rw [hb] at f2
      obtain ⟨c, c1, c2, c3, c4⟩ := f2
      exact ⟨c, c1, c2, by rw [p5, List.length_take]; omega, by rw [p5]; exact rels_take c4 k⟩
  · obtain ⟨q0, p1, p2, _⟩ := hget i q q2
    exact hok.frz i d q0 b q1 p1 (by omega) q4
theorem live_cut {φ : List Hd} {H : List Reg} {h : Nat} {r : Reg} (hh : H[h]? = some r) {n i b : Nat} (hl : LiveAt φ (H.set h { r with cells := r.cells.take n }) i b) : LiveAt φ H i b := by
  obtain ⟨d, q, q1, q2, q3, q4⟩ := hl
  rcases getElem?_set' q2 with ⟨rfl, rfl⟩ | ⟨hne, q2⟩
  · exact ⟨d, r, q1, hh, q3, q4⟩
  · exact ⟨d, q, q1, q2, q3, q4⟩
theorem sub_cut {l : List V} {H H' : List Reg} {m h : Nat} {r : Reg} (n : Nat) (hh : H[h]? = some r) (hH : H.set h { r with cells := r.cells.take n } = H') : Sub ⟨l, H', m⟩ ⟨l, H, m⟩ := fun C φ a w hI => by
  subst hH
  obtain ⟨hm0, ⟨A, hA, hr⟩, hs, hd⟩ := hI
  exact ⟨φ, hm0, ⟨A, ⟨hA.ok.cut hh n, hA.old, fun i b q => hA.own i b (live_cut hh q), hA.frame, hA.pre⟩, hr⟩, hs, hd⟩
theorem Meets.cut {P : Program} {f : FuncId} {cargs : List V} {hs : List Reg} {r : V} {K K' : List Reg} {al : Bool} (hm : Meets P f cargs hs r K al) {h : Nat} {q : Reg} (n : Nat) (hh : K[h]? = some q) (hK : K.set h { q with cells := q.cells.take n } = K') : Meets P f cargs hs r K' al := by
  subst hK
  intro A φ w xs hok hrel hsz
  refine (hm A φ w xs hok hrel hsz).mono ?_
  rintro e w' ⟨x, φ', A', k0, k1, k2, k3, k4, k5, k6⟩
  exact ⟨x, φ', A', k0, k1.cut hh n, k2, k3, fun i b q => k4 i b (live_cut hh q), k5, k6⟩
end Go.Proofs.Ytkcicbigpbdjpaa.Ab
