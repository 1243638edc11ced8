/-
  MORE RULES AS THE WALKS USE THEM.
-/
import Derived.Test.YtkcicbigpbdjpaaAbK
namespace Go.Proofs.Ytkcicbigpbdjpaa.Ab
open Go.RowKit
set_option linter.unusedVariables false
set_option linter.unusedSimpArgs false

abbrev I (n : Int) : V := .k (.int .i64 n)
abbrev B (b : Bool) : V := .k (.bool b)

section
variable {P : Program} {ops : Array Oper} {Q : Exit → St → Prop} {rest : List Oper} {l : List V} {H H' K : List Reg} {m : Nat} {o : Oper} {ρ : Operand → V}

/-- A guard that is not known: parted on. -/
theorem do_br {dst : Option Tmp} {op : Op} {ty : TypeId} {pos : String} {after : Array Edge} {j : Nat} {w b : Bool} {d : Tmp} (hj : (ops[j]?).bind (·.dst) = some d) (hd : l[d]? = some (B b))
    (ht : b = true → AOps P ops (⟨dst, op, ty, pos, after, some (j, w)⟩ :: rest) Q ⟨l.set d (B true), H, m⟩) (hf : b = false → AOps P ops (⟨dst, op, ty, pos, after, some (j, w)⟩ :: rest) Q ⟨l.set d (B false), H, m⟩) : AOps P ops (⟨dst, op, ty, pos, after, some (j, w)⟩ :: rest) Q ⟨l, H, m⟩ :=
  aops_split (S := ⟨l, H, m⟩) d hd fun b' hb => by
    subst hb
    cases b' with
    | true => exact ht rfl
    | false => exact hf rfl

/-- Handed back: one value without memory. -/
theorem fin1 {t : Tmp} {v r : V} (hv : evO l (.tmp t) = some v) (hf : (flatV v && noH v) = true) (hr : v = r) : (Exit.ret = .ret ∨ Exit.ret = .normal) ∧ Out false r [] (resV ⟨l, H, 0⟩ [t]) ⟨l, H, 0⟩ := by
  subst hr
  simp only [Bool.and_eq_true] at hf
  refine ⟨Or.inl rfl, out_of [] (fun i hi => absurd hi (Nat.not_lt_zero _)) hle_nil ?_ (Or.inr ⟨hf.1, fun q hq => by cases hq⟩)⟩
  have : resV ⟨l, H, 0⟩ [t] = v := ev_of (H := H) (m := 0) (x := .tmp t) hv
  rw [this]
  exact le_refl hf.2

/-- A list of the walk's own, handed back. -/
theorem finL {α : Type} {ty : Ty α} {e : TypeId} {xs ys : List α} {t : Tmp} {h n : Nat} {c : List V} {es : Nat} (hv : evO l (.tmp t) = some (.sl h 0 n)) (hH : H[h]? = some ⟨e, es, c, 0⟩) (he : es = ty.n) (hc : c = ty.flat xs) (hn : n = ys.length) (hr : xs = ys) (hf : FlatL (ty.flat ys)) :
    (Exit.ret = .ret ∨ Exit.ret = .normal) ∧ Out false (.sl 0 0 ys.length) [regOf ty e ys] (resV ⟨l, H, 0⟩ [t]) ⟨l, H, 0⟩ := by
  subst hr
  subst hn
  subst he
  subst hc
  refine ⟨Or.inl rfl, out_of [h] (fun i hi => absurd hi (Nat.not_lt_zero _)) (hle_one hH rfl rfl rfl (les_refl (flat_noH ty xs))) ?_ (Or.inr ⟨rfl, fun q hq => by simp at hq; subst hq; exact ⟨(by simp), fun _ => hf⟩⟩)⟩
  have : resV ⟨l, H, 0⟩ [t] = .sl h 0 xs.length := ev_of (H := H) (m := 0) (x := .tmp t) hv
  rw [this, Le]
  exact ⟨h, rfl, rfl⟩

/-- A call that hands back a value without memory. -/
theorem st_call {f : FuncId} {args : List Operand} {ats : Array TypeId} {cargs : List V} {r : V} {al : Bool} [he : Ent P f] (ho : o.op = .call { callee := .value (.func f), args := args.toArray, argTypes := ats })
    (hm : Meets P f cargs [] r [] al) (hargs : Purs (!al) K (args.map ρ) cargs) (hr : noH r = true) : Step P o ρ K r K := by
  have h := step_call ho hm hargs (fun q hq => by cases hq)
  rw [List.append_nil] at h
  rwa [shV_noH K.length hr] at h

/-- A list of the walk's own, read by a callee. -/
theorem pur_l {α : Type} {t : Ty α} {live : Bool} {h : Nat} {e : TypeId} {xs : List α} (hr : H[h]? = some (regOf t e xs)) (hl : live = true) : Pur live H (.sl h 0 xs.length) (lstOf t xs) :=
  Pur.sl hr (Or.inr ⟨hl, rfl⟩) (flat_noH t xs) t.pos (by rw [flat_length, Nat.zero_add]; exact Nat.le_refl _) (by
    simp only [Nat.zero_mul, List.drop_zero]
    rw [← flat_length, List.take_length])

/-- The element of a list of the walk's own that is read. -/
theorem ia_s {α : Type} {t : Ty α} {ty e e' n b h : Nat} {x y : Operand} {k : IntKind} {j : Int} {xs : List α} [ht : Sl P ty e n b] (ho : o.op = .indexAddr ty x y) (hx : ρ x = .sl h 0 xs.length) (hH : K[h]? = some (regOf t e' xs)) (hn : t.n = n) (hy : ρ y = .k (.int k j)) (h0 : 0 ≤ j) (h1 : j < xs.length) :
    Step P o ρ K (.ptr h (j.toNat * n)) K := by
  have := step_ia_sl (P := P) (ρ := ρ) (H := K) ho hx hH (Nat.zero_le _) hn hy h0 h1
  rwa [Nat.zero_add] at this

theorem ld_s {α : Type} {t : Ty α} {ty e' n h i : Nat} {x : Operand} {xs : List α} {z : α} [ht : Ag P ty n] (ho : o.op = .load ty x) (hx : ρ x = .ptr h (i * n)) (hH : K[h]? = some (regOf t e' xs)) (hn : t.n = n) (hz : xs[i]? = some z) : Step P o ρ K (.agg (t.enc z)) K := by
  have hi : i < xs.length := (List.getElem?_eq_some_iff.1 hz).1
  have h2 : i * n + n ≤ (t.flat xs).length := by rw [flat_length, hn, ← Nat.succ_mul]; exact Nat.mul_le_mul_right _ hi
  have := step_load_ptrs (P := P) (ρ := ρ) (H := K) ho hx hH (Nat.zero_le _) h2
  have e : ((regOf t e' xs).cells.drop (i * n)).take n = t.enc z := by
    show ((t.flat xs).drop (i * n)).take n = t.enc z
    rw [← hn, flat_at t hz, List.take_append_of_le_length (by rw [t.len]; exact Nat.le_refl _), ← t.len z, List.take_length]
  rwa [e] at this

/-- The element that an address in a list points to. -/
theorem ld_l {α : Type} {t : Ty α} {ty n : Nat} {x : Operand} {z : α} {r : List V} [ht : Ag P ty n] (ho : o.op = .load ty x) (hx : ρ x = .pref (t.enc z ++ r)) (hn : t.n = n) : Step P o ρ K (.agg (t.enc z)) K := by
  have := step_load_prefs (P := P) (ρ := ρ) (H := K) ho hx (n := n) (by rw [List.length_append, t.len, hn]; exact Nat.le_add_right _ _)
  rwa [List.take_append_of_le_length (by rw [t.len, hn]; exact Nat.le_refl _), ← hn, ← t.len z, List.take_length] at this

/-- append to a list of the walk's own. -/
theorem ap_l {α : Type} {t : Ty α} {ty e n b h : Nat} {s x : Operand} {xs ys : List α} [ht : Sl P ty e n b] (ho : o.op = .call { callee := .builtin .append, args := #[s, x], argTypes := #[ty, ty] })
    (hs : ρ s = .sl h 0 xs.length) (hH : K[h]? = some (regOf t e xs)) (hn : t.n = n) (hx : Src K (ρ x) ys.length (t.flat ys)) (hb : (xs.length + ys.length) * b ≤ 140737488355328) (hbp : decide (0 < b) = true) :
    Step P o ρ K (.sl K.length 0 (xs ++ ys).length) (K.set h ⟨e, n, t.flat xs, 2⟩ ++ [⟨e, n, t.flat (xs ++ ys), 0⟩]) := by
  obtain ⟨i, z, i1, i2, i3, i4, i5⟩ := ht.i
  have hl : (t.flat xs).take (xs.length * n) = t.flat xs := by rw [← hn, ← flat_length, List.take_length]
  have hb0 : b ≠ 0 := by have := of_decide_eq_true hbp; omega
  · have := step_append (P := P) (ρ := ρ) (ty := ty) ho hs hH rfl rfl hn (by show xs.length * n ≤ (t.flat xs).length; rw [flat_length, hn]; exact Nat.le_refl _) hx (by rw [flat_length, hn]) (flat_oneV t ys) hb (by
      have := Nat.le_mul_of_pos_right (xs.length + ys.length) (Nat.pos_of_ne_zero hb0)
      simp only [maxLen]
      omega)
    rw [List.length_append, flat_append]
    have e1 : (regOf t e xs).cells.take (xs.length * n) = t.flat xs := hl
    rw [e1] at this
    rw [← hn] at this ⊢
    exact this
end
end Go.Proofs.Ytkcicbigpbdjpaa.Ab
