/-
  THE OPERATIONS THAT TURN NO MEMORY.
-/
import Derived.Test.YtkcicbigpbdjpaaAbE
namespace Go.Proofs.Ytkcicbigpbdjpaa.Ab
open Go.RowKit
set_option linter.unusedVariables false
set_option linter.unusedSimpArgs false

/-- A slice type: its elements' type, their cells, their bytes. -/
class Sl (P : Program) (t : TypeId) (e n b : outParam Nat) : Prop where
  u : P.underlying t = some (.slice e)
  i : ∃ i z, P.info? e = some i ∧ i.size = n ∧ i.bytes = b ∧ i.zero = some z ∧ z.cells.size = n
  pos : 0 < n
/-- A struct type of n cells. -/
class Ag (P : Program) (t : TypeId) (n : outParam Nat) : Prop where
  a : ∀ w, (isAgg t).run P w = .ok true w
  s : ∀ w, (sizeOf t).run P w = .ok n w
/-- A type of one cell. -/
class Sc (P : Program) (t : TypeId) : Prop where
  a : ∀ w, (isAgg t).run P w = .ok false w
  s : ∀ w, (sizeOf t).run P w = .ok 1 w
/-- Field f of struct type t: its place, its cells, whether it is a struct. -/
class Fd (P : Program) (t f : Nat) (off n : outParam Nat) (ag : outParam Bool) : Prop where
  u : ∃ fs, P.underlying t = some (.struct fs) ∧ ∃ fd, fs[f]? = some fd ∧ fd.offset = off ∧ (∀ w, (sizeOf fd.type).run P w = .ok n w) ∧ (∀ w, (isAgg fd.type).run P w = .ok ag w)
  pos : 0 < n
/-- A type's zero value. -/
class Ze (P : Program) (t : TypeId) (zs : outParam (List Value)) : Prop where
  z : ∃ i z, P.info? t = some i ∧ i.zero = some z ∧ z.cells.toList = zs
/-- A type of whole numbers. -/
class Ik (P : Program) (t : TypeId) (k : outParam IntKind) : Prop where
  u : P.underlying t = some (.int k)
class Str (P : Program) (t : TypeId) : Prop where
  u : P.underlying t = some .string

section
variable {P : Program} {o : Oper} {ρ : Operand → V} {H : List Reg}

theorem step_move {x : Operand} (ho : o.op = .move x) : Step P o ρ H (ρ x) H := step_pure fun A φ a w _ h => ⟨a.eval x, by simp [execOp, ho], h x (by simp [ho, Op.operands])⟩
theorem step_assign {x : Operand} (ho : o.op = .assign x) : Step P o ρ H (ρ x) H := step_pure fun A φ a w _ h => ⟨a.eval x, by simp [execOp, ho], h x (by simp [ho, Op.operands])⟩

theorem k_of {A : Nat → Prop} {w : World} {φ : List Hd} {v : V} {u x : Value} (e : v = .k u) (h : Rel A w φ v x) : x = u := by
  subst e
  simpa only [Rel] using h

theorem step_pick_true {c x y : Operand} (ho : o.op = .pick c x y) (hc : ρ c = .k (.bool true)) : Step P o ρ H (ρ x) H := step_pure fun A φ a w _ h => by
  have h1 := k_of hc (h c (by simp [ho, Op.operands]))
  exact ⟨a.eval x, by simp [execOp, ho, h1, asBool], h x (by simp [ho, Op.operands])⟩
theorem step_pick_false {c x y : Operand} (ho : o.op = .pick c x y) (hc : ρ c = .k (.bool false)) : Step P o ρ H (ρ y) H := step_pure fun A φ a w _ h => by
  have h1 := k_of hc (h c (by simp [ho, Op.operands]))
  exact ⟨a.eval y, by simp [execOp, ho, h1, asBool], h y (by simp [ho, Op.operands])⟩

/-- An operation of two operands that hold no memory. -/
theorem step_bin {op : BinOp} {t t' : TypeId} {x y : Operand} {u v r : Value} (ho : o.op = .binOp op t x y t') (hx : ρ x = .k u) (hy : ρ y = .k v)
    (hr : ∀ w, ((do eqGuard op t x y u v; binOp op t u v : Sem Value)).run P w = .ok r w) : Step P o ρ H (.k r) H := step_pure fun A φ a w _ h => by
  have h1 := k_of hx (h x (by simp [ho, Op.operands]))
  have h2 := k_of hy (h y (by simp [ho, Op.operands]))
  refine ⟨r, ?_, by simp [Rel]⟩
  have := hr w
  simp only [execOp, ho, h1, h2]
  rw [Sem.run_bind, this]
  rfl

theorem guard_int {P : Program} {w : World} {op : BinOp} {t : TypeId} {x y : Operand} {k k' : IntKind} {a b : Int} : (eqGuard op t x y (.int k a) (.int k' b)).run P w = .ok () w := by
  unfold eqGuard
  cases op <;> rfl

theorem step_add {t t' : TypeId} {x y : Operand} {k : IntKind} {a b : Int} (ho : o.op = .binOp .add t x y t') (hx : ρ x = .k (.int k a)) (hy : ρ y = .k (.int k b)) : Step P o ρ H (.k (.int k (k.wrap (a + b)))) H :=
  step_bin ho hx hy fun w => by rw [Sem.run_bind, guard_int]; simp [binOp, Op.intArith]
theorem step_sub {t t' : TypeId} {x y : Operand} {k : IntKind} {a b : Int} (ho : o.op = .binOp .sub t x y t') (hx : ρ x = .k (.int k a)) (hy : ρ y = .k (.int k b)) : Step P o ρ H (.k (.int k (k.wrap (a - b)))) H :=
  step_bin ho hx hy fun w => by rw [Sem.run_bind, guard_int]; simp [binOp, Op.intArith]
theorem step_mul {t t' : TypeId} {x y : Operand} {k : IntKind} {a b : Int} (ho : o.op = .binOp .mul t x y t') (hx : ρ x = .k (.int k a)) (hy : ρ y = .k (.int k b)) : Step P o ρ H (.k (.int k (k.wrap (a * b)))) H :=
  step_bin ho hx hy fun w => by rw [Sem.run_bind, guard_int]; simp [binOp, Op.intArith]
theorem step_quo {t t' : TypeId} {x y : Operand} {k : IntKind} {a b : Int} (ho : o.op = .binOp .quo t x y t') (hx : ρ x = .k (.int k a)) (hy : ρ y = .k (.int k b)) (h0 : b ≠ 0) : Step P o ρ H (.k (.int k (k.wrap (a.tdiv b)))) H :=
  step_bin ho hx hy fun w => by rw [Sem.run_bind, guard_int]; simp [binOp, Op.intDiv, h0]
theorem step_rem {t t' : TypeId} {x y : Operand} {k : IntKind} {a b : Int} (ho : o.op = .binOp .rem t x y t') (hx : ρ x = .k (.int k a)) (hy : ρ y = .k (.int k b)) (h0 : b ≠ 0) : Step P o ρ H (.k (.int k (a.tmod b))) H :=
  step_bin ho hx hy fun w => by rw [Sem.run_bind, guard_int]; simp [binOp, Op.intDiv, h0]
theorem step_lss {t t' : TypeId} {x y : Operand} {k : IntKind} {a b : Int} (ho : o.op = .binOp .lss t x y t') (hx : ρ x = .k (.int k a)) (hy : ρ y = .k (.int k b)) : Step P o ρ H (.k (.bool (decide (a < b)))) H :=
  step_bin ho hx hy fun w => by rw [Sem.run_bind, guard_int]; simp [binOp, Op.intCmp]
theorem step_leq {t t' : TypeId} {x y : Operand} {k : IntKind} {a b : Int} (ho : o.op = .binOp .leq t x y t') (hx : ρ x = .k (.int k a)) (hy : ρ y = .k (.int k b)) : Step P o ρ H (.k (.bool (decide (a ≤ b)))) H :=
  step_bin ho hx hy fun w => by rw [Sem.run_bind, guard_int]; simp [binOp, Op.intCmp]
theorem step_gtr {t t' : TypeId} {x y : Operand} {k : IntKind} {a b : Int} (ho : o.op = .binOp .gtr t x y t') (hx : ρ x = .k (.int k a)) (hy : ρ y = .k (.int k b)) : Step P o ρ H (.k (.bool (decide (b < a)))) H :=
  step_bin ho hx hy fun w => by rw [Sem.run_bind, guard_int]; simp [binOp, Op.intCmp]
theorem step_geq {t t' : TypeId} {x y : Operand} {k : IntKind} {a b : Int} (ho : o.op = .binOp .geq t x y t') (hx : ρ x = .k (.int k a)) (hy : ρ y = .k (.int k b)) : Step P o ρ H (.k (.bool (decide (b ≤ a)))) H :=
  step_bin ho hx hy fun w => by rw [Sem.run_bind, guard_int]; simp [binOp, Op.intCmp]
theorem step_eql {t t' : TypeId} {x y : Operand} {k : IntKind} {a b : Int} (ho : o.op = .binOp .eql t x y t') (hx : ρ x = .k (.int k a)) (hy : ρ y = .k (.int k b)) : Step P o ρ H (.k (.bool (decide (a = b)))) H :=
  step_bin ho hx hy fun w => by rw [Sem.run_bind, guard_int]; simp [binOp, Op.intCmp]; rfl
theorem step_neq {t t' : TypeId} {x y : Operand} {k : IntKind} {a b : Int} (ho : o.op = .binOp .neq t x y t') (hx : ρ x = .k (.int k a)) (hy : ρ y = .k (.int k b)) : Step P o ρ H (.k (.bool (!decide (a = b)))) H :=
  step_bin ho hx hy fun w => by rw [Sem.run_bind, guard_int]; simp [binOp, Op.intCmp]; rfl
theorem guard_bool {P : Program} {w : World} {op : BinOp} {t : TypeId} {x y : Operand} {a b : Bool} : (eqGuard op t x y (.bool a) (.bool b)).run P w = .ok () w := by
  unfold eqGuard
  cases op <;> rfl
theorem step_eqlb {t t' : TypeId} {x y : Operand} {a b : Bool} (ho : o.op = .binOp .eql t x y t') (hx : ρ x = .k (.bool a)) (hy : ρ y = .k (.bool b)) (ht : P.underlying t = some .bool) : Step P o ρ H (.k (.bool (a == b))) H :=
  step_bin ho hx hy fun w => by rw [Sem.run_bind, guard_bool, Result.andThen_ok, run_eql_bool _ _ _ _ ht]
theorem step_neqb {t t' : TypeId} {x y : Operand} {a b : Bool} (ho : o.op = .binOp .neq t x y t') (hx : ρ x = .k (.bool a)) (hy : ρ y = .k (.bool b)) (ht : P.underlying t = some .bool) : Step P o ρ H (.k (.bool (!(a == b)))) H :=
  step_bin ho hx hy fun w => by rw [Sem.run_bind, guard_bool, Result.andThen_ok, run_neq_bool _ _ _ _ ht]

theorem guard_str {P : Program} {w : World} {op : BinOp} {t : TypeId} {x y : Operand} {a b : ByteArray} : (eqGuard op t x y (.string a) (.string b)).run P w = .ok () w := by
  unfold eqGuard
  cases op <;> rfl
theorem step_adds {t t' : TypeId} {x y : Operand} {a b : ByteArray} (ho : o.op = .binOp .add t x y t') (hx : ρ x = .k (.string a)) (hy : ρ y = .k (.string b)) (hl : a.size + b.size ≤ 9223372036854775807) : Step P o ρ H (.k (.string (a ++ b))) H :=
  step_bin ho hx hy fun w => by
    rw [Sem.run_bind, guard_str, Result.andThen_ok]
    have : ¬ (((a.size + b.size : Nat) : Int) > IntKind.i64.max) := by simp [IntKind.max, IntKind.signed, IntKind.bits]; omega
    simp only [binOp, Op.stringOp, this, if_false, Sem.run_pure]
theorem step_eqls {t t' : TypeId} {x y : Operand} {a b : ByteArray} (ho : o.op = .binOp .eql t x y t') (hx : ρ x = .k (.string a)) (hy : ρ y = .k (.string b)) : Step P o ρ H (.k (.bool (a.toList == b.toList))) H :=
  step_bin ho hx hy fun w => by rw [Sem.run_bind, guard_str]; simp [binOp, Op.stringOp]
theorem step_neqs {t t' : TypeId} {x y : Operand} {a b : ByteArray} (ho : o.op = .binOp .neq t x y t') (hx : ρ x = .k (.string a)) (hy : ρ y = .k (.string b)) : Step P o ρ H (.k (.bool (!(a.toList == b.toList)))) H :=
  step_bin ho hx hy fun w => by rw [Sem.run_bind, guard_str]; simp [binOp, Op.stringOp]

theorem step_not {t : TypeId} {x : Operand} {b : Bool} (ho : o.op = .unOp .not t x) (hx : ρ x = .k (.bool b)) : Step P o ρ H (.k (.bool (!b))) H := step_pure fun A φ a w _ h => by
  have h1 := k_of hx (h x (by simp [ho, Op.operands]))
  exact ⟨.bool (!b), by simp [execOp, ho, h1, Op.unary], by simp [Rel]⟩
theorem step_neg {t : TypeId} {x : Operand} {k : IntKind} {n : Int} (ho : o.op = .unOp .neg t x) (hx : ρ x = .k (.int k n)) : Step P o ρ H (.k (.int k (k.wrap (0 - n)))) H := step_pure fun A φ a w _ h => by
  have h1 := k_of hx (h x (by simp [ho, Op.operands]))
  exact ⟨.int k (k.wrap (0 - n)), by simp [execOp, ho, h1, Op.unary, Op.intArith], by simp [Rel]⟩
theorem step_conv {s d : TypeId} {x : Operand} {k k' ks : IntKind} {n : Int} [hs : Ik P s ks] [hd : Ik P d k] (ho : o.op = .convert s d x) (hx : ρ x = .k (.int k' n)) : Step P o ρ H (.k (.int k (k.wrap n))) H := step_pure fun A φ a w _ h => by
  have h1 := k_of hx (h x (by simp [ho, Op.operands]))
  exact ⟨.int k (k.wrap n), by simp [execOp, ho, h1, convert, run_underlying hs.u, run_underlying hd.u, Conv.intToInt], by simp [Rel]⟩
theorem step_convs {s d : TypeId} {x : Operand} {b : ByteArray} [hs : Str P s] [hd : Str P d] (ho : o.op = .convert s d x) (hx : ρ x = .k (.string b)) : Step P o ρ H (.k (.string b)) H := step_pure fun A φ a w _ h => by
  have h1 := k_of hx (h x (by simp [ho, Op.operands]))
  exact ⟨.string b, by simp [execOp, ho, h1, convert, run_underlying hs.u, run_underlying hd.u], by simp [Rel]⟩
theorem step_extract {x : Operand} {i : Nat} {vs : List V} {v : V} (ho : o.op = .extract x i) (hx : ρ x = .tup vs) (hv : vs[i]? = some v) : Step P o ρ H v H := step_pure fun A φ a w _ h => by
  have h1 := h x (by simp [ho, Op.operands])
  rw [hx, Rel] at h1
  obtain ⟨xs, e1, e2, h2⟩ := h1
  obtain ⟨y, h3, h4⟩ := rels_get h2 hv
  refine ⟨y, ?_, h4⟩
  simp only [execOp, ho, e1, Instr.extract]
  rw [show xs[i]? = some y from h3]
  rfl

/-! ### Reading -/
theorem run_loadCells_rels {A : Nat → Prop} {w : World} {φ : List Hd} {b off : Nat} : ∀ {cs : List V}, Rels A w φ cs (fun i => w.cell? ⟨b, off + i, none⟩) →
    ∃ xs : Array Value, (loadCells ⟨b, off, none⟩ cs.length).run P w = .ok xs w ∧ xs.size = cs.length ∧ Rels A w φ cs (fun i => xs[i]?) := fun {cs} h => by
  have hex : ∀ j, j < cs.length → ∃ y, w.cell? ⟨b, off + j, none⟩ = some y ∧ Rel A w φ cs[j]! y := fun j hj => by
    have hc : cs[j]? = some cs[j]! := by rw [List.getElem?_eq_getElem hj]; simp [hj]
    exact rels_get h hc
  refine ⟨(Array.range cs.length).map fun j => (w.cell? ⟨b, off + j, none⟩).getD undef, ?_, by simp, rels_iff.2 fun i c hc => ?_⟩
  · have key := run_loadCells_list (P := P) w ⟨b, off, none⟩ ((List.range cs.length).map fun j => (w.cell? ⟨b, off + j, none⟩).getD undef) (fun j v hv => by
      rw [List.getElem?_map] at hv
      have hj : j < cs.length := by
        rcases Nat.lt_or_ge j cs.length with h' | h'
        · exact h'
        · rw [List.getElem?_eq_none (by simpa using h')] at hv; cases hv
      rw [List.getElem?_range hj] at hv
      simp only [Option.map_some, Option.some.injEq] at hv
      obtain ⟨y, h1, _⟩ := hex j hj
      rw [h1] at hv
      subst hv
      have : (⟨b, off, none⟩ : Addr).add j = ⟨b, off + j, none⟩ := by unfold Addr.add; split <;> simp_all
      rw [this, h1]
      rfl)
    simp only [List.length_map, List.length_range] at key
    rw [key]
    congr 1
    apply Array.ext'
    simp only [Array.toList_map, Array.toList_range]
  · obtain ⟨hi, _⟩ := List.getElem?_eq_some_iff.1 hc
    obtain ⟨y, h1, h2⟩ := rels_get h hc
    exact ⟨y, by simp [hi, show w.cell? ⟨b, off + i, none⟩ = some y from h1], h2⟩

theorem Addr.plus (b off j : Nat) : (⟨b, off, none⟩ : Addr).add j = ⟨b, off + j, none⟩ := by unfold Addr.add; split <;> simp_all

theorem step_load_pref {t : TypeId} {x : Operand} {c : V} {cs : List V} [ht : Sc P t] (ho : o.op = .load t x) (hx : ρ x = .pref (c :: cs)) : Step P o ρ H c H := step_pure fun A φ a w _ h => by
  have h1 := h x (by simp [ho, Op.operands])
  rw [hx, Rel] at h1
  obtain ⟨b, off, e, hA, hr⟩ := h1
  obtain ⟨y, h2, h3⟩ := rels_get hr (i := 0) rfl
  refine ⟨y, ?_, Rel.mono (fun b hb => ⟨hb, rfl⟩) (fun h hd hh => by simp at hh) h3⟩
  have h2' : w.cell? ⟨b, off, none⟩ = some y := h2
  simp [execOp, ho, e, Instr.loadAt, Instr.sureAddr, loadVar, ht.a, h2']

theorem step_load_prefs {t : TypeId} {x : Operand} {n : Nat} {cs : List V} [ht : Ag P t n] (ho : o.op = .load t x) (hx : ρ x = .pref cs) (hn : n ≤ cs.length) : Step P o ρ H (.agg (cs.take n)) H := step_pure fun A φ a w _ h => by
  have h1 := h x (by simp [ho, Op.operands])
  rw [hx, Rel] at h1
  obtain ⟨b, off, e, hA, hr⟩ := h1
  obtain ⟨xs, h2, h3, h4⟩ := run_loadCells_rels (P := P) (rels_take hr n)
  have hl : (cs.take n).length = n := by simp [hn]
  rw [hl] at h2
  refine ⟨.agg xs, ?_, ?_⟩
  · simp [execOp, ho, e, Instr.loadAt, Instr.sureAddr, loadVar, ht.a, ht.s, h2]
  · rw [Rel]
    exact ⟨xs, rfl, h3, Rels.mono (fun b hb => ⟨hb, rfl⟩) (fun h hd hh => by simp at hh) h4⟩

/-- The cells of a row that is read. -/
theorem row_cells {A : Nat → Prop} {w : World} {φ : List Hd} (hok : HeapOk A w φ H) {h : Nat} {hd : Hd} {r : Reg} {b : Nat} (hφ : φ[h]? = some hd) (hH : H[h]? = some r) (hm : r.mode ≤ 1) (hb : hd.blk = some b) :
    Rels A w φ r.cells (fun i => w.cell? ⟨b, i, none⟩) := by
  obtain ⟨e1, e2⟩ := hok.regs h hd r hφ hH hm
  rw [hb] at e2
  obtain ⟨c, k1, k2, k3, k4⟩ := e2
  refine rels_congr k4 fun i _ => ?_
  exact cell_of_row w b i c hd.e (0, 0) k1

theorem step_load_ptr {t : TypeId} {x : Operand} {h off : Nat} {r : Reg} {c : V} [ht : Sc P t] (ho : o.op = .load t x) (hx : ρ x = .ptr h off) (hr : H[h]? = some r) (hm : r.mode ≤ 1) (hc : r.cells[off]? = some c) : Step P o ρ H c H := step_pure fun A φ a w hok hh => by
  have h1 := hh x (by simp [ho, Op.operands])
  rw [hx, Rel] at h1
  obtain ⟨hd, b, e1, e2, e3⟩ := h1
  obtain ⟨y, h2, h3⟩ := rels_get (row_cells hok e1 hr hm e2) hc
  refine ⟨y, ?_, h3⟩
  have h2' : w.cell? ⟨b, off, none⟩ = some y := h2
  simp [execOp, ho, e3, Instr.loadAt, Instr.sureAddr, loadVar, ht.a, h2']

theorem step_load_ptrs {t : TypeId} {x : Operand} {h off n : Nat} {r : Reg} [ht : Ag P t n] (ho : o.op = .load t x) (hx : ρ x = .ptr h off) (hr : H[h]? = some r) (hm : r.mode ≤ 1) (hn : off + n ≤ r.cells.length) : Step P o ρ H (.agg ((r.cells.drop off).take n)) H := step_pure fun A φ a w hok hh => by
  have h1 := hh x (by simp [ho, Op.operands])
  rw [hx, Rel] at h1
  obtain ⟨hd, b, e1, e2, e3⟩ := h1
  obtain ⟨xs, h2, h3, h4⟩ := run_loadCells_rels (P := P) (rels_take (rels_drop (row_cells hok e1 hr hm e2) off) n)
  have hl : ((r.cells.drop off).take n).length = n := by simp; omega
  rw [hl] at h2
  refine ⟨.agg xs, ?_, by rw [Rel]; exact ⟨xs, rfl, h3, h4⟩⟩
  simp [execOp, ho, e3, Instr.loadAt, Instr.sureAddr, loadVar, ht.a, ht.s, h2]

theorem run_fieldPlace {t f off n : Nat} {ag : Bool} [ht : Fd P t f off n ag] (w : World) (b q : Nat) : (Instr.fieldAt t (.pointer (some ⟨b, q, none⟩)) f).run P w = .ok (.pointer (some ⟨b, q + off, none⟩)) w := by
  obtain ⟨fs, h1, fd, h2, h3, h4, h5⟩ := ht.u
  have := ht.pos
  simp only [Instr.fieldAt, Sem.run_bind, run_underlying h1, Result.andThen_ok, h2, Instr.sureAddr, Sem.run_pure, fieldPlace, h4]
  rw [if_neg (by omega)]
  simp [Addr.plus, h3]

theorem step_fa_pref {t f off n : Nat} {ag : Bool} {x : Operand} {cs : List V} [ht : Fd P t f off n ag] (ho : o.op = .fieldAddr t x f) (hx : ρ x = .pref cs) : Step P o ρ H (.pref (cs.drop off)) H := step_pure fun A φ a w hok hh => by
  have h1 := hh x (by simp [ho, Op.operands])
  rw [hx, Rel] at h1
  obtain ⟨b, q, e, hA, hr⟩ := h1
  refine ⟨.pointer (some ⟨b, q + off, none⟩), ?_, ?_⟩
  · simp only [execOp, ho, e]
    rw [Sem.run_bind, run_fieldPlace (off := off) (n := n) (ag := ag)]
    rfl
  · rw [Rel]
    refine ⟨b, q + off, rfl, hA, ?_⟩
    have := rels_drop hr off
    simpa [Nat.add_assoc] using this

theorem step_fa_ptr {t f off n q h : Nat} {ag : Bool} {x : Operand} [ht : Fd P t f off n ag] (ho : o.op = .fieldAddr t x f) (hx : ρ x = .ptr h q) : Step P o ρ H (.ptr h (q + off)) H := step_pure fun A φ a w hok hh => by
  have h1 := hh x (by simp [ho, Op.operands])
  rw [hx, Rel] at h1
  obtain ⟨hd, b, e1, e2, e3⟩ := h1
  refine ⟨.pointer (some ⟨b, q + off, none⟩), ?_, by rw [Rel]; exact ⟨hd, b, e1, e2, rfl⟩⟩
  simp only [execOp, ho, e3]
  rw [Sem.run_bind, run_fieldPlace (off := off) (n := n) (ag := ag)]
  rfl

theorem step_nilCheck {x : Operand} {h q : Nat} (ho : o.op = .nilCheck x) (hx : ρ x = .ptr h q) : Step P o ρ H (.ptr h q) H := step_pure fun A φ a w hok hh => by
  have h1 := hh x (by simp [ho, Op.operands])
  rw [hx] at h1
  have h2 := h1
  rw [Rel] at h1
  obtain ⟨hd, b, e1, e2, e3⟩ := h1
  exact ⟨a.eval x, by simp [execOp, ho, e3], h2⟩

theorem step_ia_lst {t e n b : Nat} {x y : Operand} {k : IntKind} {j : Int} {m : Nat} {cs : List V} [ht : Sl P t e n b] (ho : o.op = .indexAddr t x y) (hx : ρ x = .lst m cs) (hy : ρ y = .k (.int k j)) (h0 : 0 ≤ j) (h1 : j < m) : Step P o ρ H (.pref (cs.drop (j.toNat * n))) H := step_pure fun A φ a w hok hh => by
  have hx1 := hh x (by simp [ho, Op.operands])
  have hy1 := k_of hy (hh y (by simp [ho, Op.operands]))
  rw [hx, Rel] at hx1
  obtain ⟨ad, cap, e1, e2, e3, e4⟩ := hx1
  rcases e4 with e4 | ⟨bb, q, rfl, hA, hr⟩
  · subst e4; simp at e3; omega
  · obtain ⟨i, z, i1, i2, i3, _⟩ := ht.i
    refine ⟨.pointer (some ⟨bb, q + j.toNat * n, none⟩), ?_, ?_⟩
    · simp [execOp, ho, e1, hy1, Instr.indexAt, asIntOf, run_underlying ht.u, h0, h1, sizeOf, typeInfo, i1, i2, Addr.plus]
    · rw [Rel]
      refine ⟨bb, _, rfl, hA, ?_⟩
      have := rels_drop hr (j.toNat * n)
      simpa [Nat.add_assoc] using this

theorem step_ia_sl {t e n b : Nat} {x y : Operand} {k : IntKind} {j : Int} {h off m : Nat} {r : Reg} [ht : Sl P t e n b] (ho : o.op = .indexAddr t x y) (hx : ρ x = .sl h off m) (hr : H[h]? = some r) (hm : r.mode ≤ 1) (he : r.esz = n) (hy : ρ y = .k (.int k j)) (h0 : 0 ≤ j) (h1 : j < m) : Step P o ρ H (.ptr h ((off + j.toNat) * n)) H := step_pure fun A φ a w hok hh => by
  have hx1 := hh x (by simp [ho, Op.operands])
  have hy1 := k_of hy (hh y (by simp [ho, Op.operands]))
  rw [hx, Rel] at hx1
  obtain ⟨hd, e1, ⟨e2, e3⟩ | ⟨_, e3, _⟩⟩ := hx1
  rotate_left
  · omega
  obtain ⟨r1, r2⟩ := hok.regs h hd r e1 hr hm
  obtain ⟨i, z, i1, i2, i3, _⟩ := ht.i
  cases hb : hd.blk with
  | none => rw [hb] at r2; omega
  | some bb =>
    rw [hb] at e2
    have hes : hd.esz = n := r1.1.trans he
    refine ⟨.pointer (some ⟨bb, (off + j.toNat) * n, none⟩), ?_, by rw [Rel]; exact ⟨hd, bb, e1, hb, rfl⟩⟩
    simp [execOp, ho, e2, hy1, Instr.indexAt, asIntOf, run_underlying ht.u, h0, h1, sizeOf, typeInfo, i1, i2, Addr.plus, hes, Nat.add_mul]

theorem step_len_lst {ty t e n b m : Nat} {x : Operand} {cs : List V} [ht : Sl P t e n b] (ho : o.op = .call { callee := .builtin .len, args := #[x], argTypes := #[t] }) (hx : ρ x = .lst m cs) : Step P o ρ H (.k (.int .i64 m)) H := step_pure fun A φ a w hok hh => by
  have hx1 := hh x (by simp [ho, Op.operands, Call.operands])
  rw [hx, Rel] at hx1
  obtain ⟨ad, cap, e1, e2, e3, e4⟩ := hx1
  refine ⟨.int .i64 m, ?_, by simp [Rel]⟩
  simp [execOp, ho, resolve, invoke, builtin, e1, Builtin.len_, run_underlying ht.u, goInt]

theorem step_len_sl {t e n b m h off : Nat} {x : Operand} [ht : Sl P t e n b] (ho : o.op = .call { callee := .builtin .len, args := #[x], argTypes := #[t] }) (hx : ρ x = .sl h off m) : Step P o ρ H (.k (.int .i64 m)) H := step_pure fun A φ a w hok hh => by
  have hx1 := hh x (by simp [ho, Op.operands, Call.operands])
  rw [hx, Rel] at hx1
  refine ⟨.int .i64 m, ?_, by simp [Rel]⟩
  obtain ⟨hd, e1, ⟨e2, e3⟩ | ⟨_, rfl, _, e2⟩⟩ := hx1
  · simp [execOp, ho, resolve, invoke, builtin, e2, Builtin.len_, run_underlying ht.u, goInt]
  · simp [execOp, ho, resolve, invoke, builtin, e2, Builtin.len_, run_underlying ht.u, goInt]

theorem step_len_k {t e n b m cap : Nat} {ad : Option Addr} {x : Operand} [ht : Sl P t e n b] (ho : o.op = .call { callee := .builtin .len, args := #[x], argTypes := #[t] }) (hx : ρ x = .k (.slice ad m cap)) : Step P o ρ H (.k (.int .i64 m)) H := step_pure fun A φ a w hok hh => by
  have hx1 := k_of hx (hh x (by simp [ho, Op.operands, Call.operands]))
  refine ⟨.int .i64 m, ?_, by simp [Rel]⟩
  simp [execOp, ho, resolve, invoke, builtin, hx1, Builtin.len_, run_underlying ht.u, goInt]

theorem step_len_str {t : Nat} {x : Operand} {s : ByteArray} [ht : Str P t] (ho : o.op = .call { callee := .builtin .len, args := #[x], argTypes := #[t] }) (hx : ρ x = .k (.string s)) : Step P o ρ H (.k (.int .i64 s.size)) H := step_pure fun A φ a w hok hh => by
  have hx1 := k_of hx (hh x (by simp [ho, Op.operands, Call.operands]))
  refine ⟨.int .i64 s.size, ?_, by simp [Rel]⟩
  simp [execOp, ho, resolve, invoke, builtin, hx1, Builtin.len_, run_underlying ht.u, goInt]

theorem step_max {x y : Operand} {ts : Array TypeId} {k k' : IntKind} {m n : Int} (ho : o.op = .call { callee := .builtin .max, args := #[x, y], argTypes := ts }) (hx : ρ x = .k (.int k m)) (hy : ρ y = .k (.int k' n)) : Step P o ρ H (.k (.int k (if n > m then n else m))) H := step_pure fun A φ a w hok hh => by
  have hx1 := k_of hx (hh x (by simp [ho, Op.operands, Call.operands]))
  have hy1 := k_of hy (hh y (by simp [ho, Op.operands, Call.operands]))
  exact ⟨.int k (if n > m then n else m), by simp [execOp, ho, resolve, invoke, builtin, hx1, hy1, run_max_int2], by simp [Rel]⟩
theorem step_min {x y : Operand} {ts : Array TypeId} {k k' : IntKind} {m n : Int} (ho : o.op = .call { callee := .builtin .min, args := #[x, y], argTypes := ts }) (hx : ρ x = .k (.int k m)) (hy : ρ y = .k (.int k' n)) : Step P o ρ H (.k (.int k (if n < m then n else m))) H := step_pure fun A φ a w hok hh => by
  have hx1 := k_of hx (hh x (by simp [ho, Op.operands, Call.operands]))
  have hy1 := k_of hy (hh y (by simp [ho, Op.operands, Call.operands]))
  exact ⟨.int k (if n < m then n else m), by simp [execOp, ho, resolve, invoke, builtin, hx1, hy1, run_min_int2], by simp [Rel]⟩

theorem step_field {t f off n : Nat} {x : Operand} {cs : List V} {c : V} [ht : Fd P t f off n false] (ho : o.op = .field t x f) (hx : ρ x = .agg cs) (hc : cs[off]? = some c) : Step P o ρ H c H := step_pure fun A φ a w hok hh => by
  have hx1 := hh x (by simp [ho, Op.operands])
  rw [hx, Rel] at hx1
  obtain ⟨xs, e1, e2, hr⟩ := hx1
  obtain ⟨fs, h1, fd, h2, h3, h4, h5⟩ := ht.u
  obtain ⟨y, k1, k2⟩ := rels_get hr hc
  refine ⟨y, ?_, k2⟩
  have k1' : xs[fd.offset]? = some y := by rw [h3]; exact k1
  simp [execOp, ho, e1, Instr.field, run_underlying h1, h2, asAgg, part, h5, k1']
theorem step_fields {t f off n : Nat} {x : Operand} {cs : List V} [ht : Fd P t f off n true] (ho : o.op = .field t x f) (hx : ρ x = .agg cs) (hn : off + n ≤ cs.length) : Step P o ρ H (.agg ((cs.drop off).take n)) H := step_pure fun A φ a w hok hh => by
  have hx1 := hh x (by simp [ho, Op.operands])
  rw [hx, Rel] at hx1
  obtain ⟨xs, e1, e2, hr⟩ := hx1
  obtain ⟨fs, h1, fd, h2, h3, h4, h5⟩ := ht.u
  refine ⟨.agg (xs.extract off (off + n)), ?_, ?_⟩
  · simp [execOp, ho, e1, Instr.field, run_underlying h1, h2, asAgg, part, h5, h4, h3]
  · rw [Rel]
    refine ⟨_, rfl, by simp; omega, rels_congr (rels_take (rels_drop hr off) n) fun i hi => ?_⟩
    simp only [List.length_take, List.length_drop] at hi
    rw [Array.getElem?_extract]
    rw [if_pos (by omega)]
end

end Go.Proofs.Ytkcicbigpbdjpaa.Ab
