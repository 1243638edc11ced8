/-
  WHOLE REGIONS RECKONED; REGIONS IN WHATEVER ORDER, TAKEN IN THE TEXT's.
-/
import Derived.Test.YtkcicbigpbdjpaaAbM
namespace Go.Proofs.Ytkcicbigpbdjpaa.Ab
open Go.RowKit
set_option linter.unusedVariables false
set_option linter.unusedSimpArgs false

theorem all_nil {α : Type} {p : α → Prop} : ∀ x ∈ ([] : List α), p x := fun x hx => by cases hx
theorem all_cons {α : Type} {p : α → Prop} {a : α} {l : List α} (h : p a) (t : ∀ x ∈ l, p x) : ∀ x ∈ a :: l, p x := fun x hx => by
  rcases List.mem_cons.1 hx with rfl | hx
  · exact h
  · exact t x hx

class TabC (P : Program) (T : outParam Tab) : Prop where
  ok : TabOk P T
  wide : P.follows .mixedOrders = true

def putF (l : List V) (H : List Reg) (dst : Option Tmp) (v : V) : Option (List V × List Reg) :=
  match dst with
  | some d => match setN l d v with
    | some l' => some (l', H)
    | none => none
  | none => some (l, H)

def stepO (T : Tab) (ops : Array Oper) (o : Oper) (l : List V) (H : List Reg) : Option (List V × List Reg) :=
  match wantA ops ⟨l, H, 0⟩ o with
  | some true => match stepF T l H o.op with
    | some (v, H') => putF l H' o.dst v
    | none => none
  | some false => putF l H o.dst (.k undef)
  | none => none

def runA (T : Tab) (ops : Array Oper) : List Oper → List V → List Reg → Option (List V × List Reg)
  | [], l, H => some (l, H)
  | o :: os, l, H => match stepO T ops o l H with
    | some (l', H') => runA T ops os l' H'
    | none => none

section
variable {P : Program} {T : Tab} {ops : Array Oper} {Q : Exit → St → Prop} {rest : List Oper} {l l' : List V} {H H' K : List Reg} {m : Nat} {o : Oper} {ρ : Operand → V}

theorem putF_eq {dst : Option Tmp} {v : V} (h : putF l H dst v = some (l', H')) (m : Nat) : (⟨l, K, m⟩ : St).put dst v H = ⟨l', H', m⟩ := by
  unfold putF at h
  cases dst with
  | none => cases h; rfl
  | some d =>
    simp only at h
    split at h
    · rename_i r hr
      cases h
      rw [setN_eq hr]
      rfl
    · cases h

theorem wantA_m {S S' : St} (h : S.tmps = S'.tmps) : wantA ops S o = wantA ops S' o := by unfold wantA; rw [h]

theorem do_F [hT : TabC P T] (h : stepO T ops o l H = some (l', H')) (k : AOps P ops rest Q ⟨l', H', m⟩) : AOps P ops (o :: rest) Q ⟨l, H, m⟩ := by
  unfold stepO at h
  split at h
  · rename_i hw
    split at h
    · rename_i v H'' hv
      refine aops_want (by exact hw) (stepF_ok (m := m) hT.ok hv) ?_
      rw [putF_eq h m]
      exact k
    · cases h
  · rename_i hw
    refine aops_skip (by exact hw) ?_
    rw [show (⟨l, H, m⟩ : St).put o.dst (.k undef) (⟨l, H, m⟩ : St).H = ⟨l', H', m⟩ from putF_eq h m]
    exact k
  · cases h

theorem do_A [hT : TabC P T] : ∀ {os : List Oper} {l l' : List V} {H H' : List Reg}, runA T ops os l H = some (l', H') → Q .normal ⟨l', H', m⟩ → AOps P ops os Q ⟨l, H, m⟩
  | [], l, l', H, H', h, k => by cases h; exact aops_nil k
  | o :: os, l, l', H, H', h, k => by
    unfold runA at h
    split at h
    · rename_i l1 H1 h1
      exact do_F h1 (do_A h k)
    · cases h

/-- An operation with a rule of its own. -/
theorem do_R {v : V} (hw : wantA ops ⟨l, H, m⟩ o = some true) (hs : Step P o (St.ev ⟨l, H, m⟩) H v H') (hp : putF l H' o.dst v = some (l', K)) (k : AOps P ops rest Q ⟨l', K, m⟩) : AOps P ops (o :: rest) Q ⟨l, H, m⟩ := by
  refine aops_want hw hs ?_
  rw [putF_eq hp m]
  exact k

/-! ### Whatever order, taken in the text's -/
def lst01 (n k : Nat) : Array Bool := (Array.range n).map fun i => decide (i < k)

theorem lst01_zero (n : Nat) : lst01 n 0 = Array.replicate n false := by
  apply Array.ext
  · simp [lst01]
  · intro i h1 h2; simp [lst01]
theorem lst01_succ (n k : Nat) : (lst01 n k).setIfInBounds k true = lst01 n (k + 1) := by
  unfold lst01
  apply Array.ext
  · simp
  · intro i h1 h2
    by_cases h : k = i
    · subst h; simp
    · rw [Array.getElem_setIfInBounds_ne (by simpa using h1) h]
      simp only [Array.getElem_map, Array.getElem_range]
      congr 1
      exact propext ⟨fun h => by omega, fun h' => by omega⟩

/-- The operations from number k on, in whatever order; the elder ones are carried out. -/
structure ALex (P : Program) (ops : Array Oper) (ds : List Nat) (k : Nat) (Q : Exit → St → Prop) (S : St) : Prop where
  out : AAny P .any ops ds Q (ops.size - k) (lst01 ops.size k) S

theorem aw_lex {id : Nat} {S : St} (ds : List Nat) [hT : TabC P T] (h : ALex P ops ds 0 Q S) : AW P (.region id ops true) Q S := by
  refine aw_region_any ds hT.wide ?_
  have := h.out
  rwa [lst01_zero] at this

theorem lex_done {ds : List Nat} {S : St} (k : Nat) (hk : Nat.ble ops.size k = true) (hr : (Region.ready .any ops (lst01 ops.size k) == []) = true) (h : Q .normal S) : ALex P ops ds k Q S := ⟨any_done hr h⟩

def lexP (ops : Array Oper) (k : Nat) : Bool := Nat.blt k ops.size && Region.free .any ops (lst01 ops.size k) k && (Region.ready .any ops (lst01 ops.size k)).contains k
def lexH (ops : Array Oper) (ds : List Nat) (k : Nat) : Bool := lexP ops k && Region.closedB .any ops (lst01 ops.size k) && Region.lastB .any ops (lst01 ops.size k) ds k
def lexO (ops : Array Oper) (ds : List Nat) (k : Nat) : Bool := Nat.blt k ops.size && (Region.ready .any ops (lst01 ops.size k) == [k]) && ds.contains k

theorem lex_size {k : Nat} (h : Nat.blt k ops.size = true) : ops.size - k = (ops.size - (k + 1)) + 1 := by
  have : k + 1 ≤ ops.size := Nat.le_of_ble_eq_true h
  omega

/-- Number k turns nothing whatever the rows. -/
theorem lex_pure {ds : List Nat} {k : Nat} {v : V} {S : St} (ho : ops[k]? = some o) (hc : lexP ops k = true) (hw : wantA ops S o = some true) (hs : ∀ H, Step P o S.ev H v H) (h : ALex P ops ds (k + 1) Q (S.put o.dst v S.H)) : ALex P ops ds k Q S := by
  simp only [lexP, Bool.and_eq_true] at hc
  refine ⟨?_⟩
  rw [lex_size hc.1.1]
  exact any_pure _ ho (by simp only [takeP, hc.1.2, hc.2, lst01_succ, Bool.true_and, beq_self_eq_true]) hw hs h.out
theorem lex_skip {ds : List Nat} {k : Nat} {S : St} (ho : ops[k]? = some o) (hc : lexP ops k = true) (hw : wantA ops S o = some false) (h : ALex P ops ds (k + 1) Q (S.put o.dst (.k undef) S.H)) : ALex P ops ds k Q S := by
  simp only [lexP, Bool.and_eq_true] at hc
  refine ⟨?_⟩
  rw [lex_size hc.1.1]
  exact any_skip _ ho (by simp only [takeP, hc.1.2, hc.2, lst01_succ, Bool.true_and, beq_self_eq_true]) hw h.out
theorem lex_read {ds : List Nat} {k : Nat} {v : V} {S : St} (ho : ops[k]? = some o) (hc : lexH ops ds k = true) (hw : wantA ops S o = some true) (hs : Step P o S.ev S.H v S.H) (h : ALex P ops ds (k + 1) Q (S.put o.dst v S.H)) : ALex P ops ds k Q S := by
  simp only [lexH, lexP, Bool.and_eq_true] at hc
  refine ⟨?_⟩
  rw [lex_size hc.1.1.1.1]
  exact any_read _ ho (by simp only [takeH, takeP, hc.1.1.1.2, hc.1.1.2, hc.1.2, hc.2, lst01_succ, Bool.true_and, beq_self_eq_true]) hw hs h.out
theorem lex_one {ds : List Nat} {k : Nat} {v : V} {S : St} (ho : ops[k]? = some o) (hc : lexO ops ds k = true) (hw : wantA ops S o = some true) (hs : Step P o S.ev S.H v H') (h : ALex P ops ds (k + 1) Q (S.put o.dst v H')) : ALex P ops ds k Q S := by
  simp only [lexO, Bool.and_eq_true] at hc
  refine ⟨?_⟩
  rw [lex_size hc.1.1]
  exact any_one _ ho (by simp only [oneB, hc.1.2, lst01_succ, Bool.true_and, beq_self_eq_true]) hw (by simpa using hc.2) hs h.out

/-- Operations that turn no row. -/
def stillOp : Op → Bool
  | .move _ | .assign _ | .pick .. | .binOp .. | .unOp .. | .convert .. | .extract .. | .load .. | .fieldAddr .. | .field .. | .nilCheck _ | .build .. => true
  | .call c => match c.callee with
    | .builtin _ => true
    | _ => false
  | _ => false

theorem still_eq {op : Op} {v : V} (hs : stillOp op = true) (h : stepF T l H op = some (v, H')) : H' = H := by
  cases op <;> simp only [stepF] at h <;> first | (cases hs; done) | skip
  all_goals first
    | (repeat' split at h) <;> first | (cases h; rfl) | cases h
    | skip
  rename_i c
  obtain ⟨callee, ⟨args⟩, ⟨ats⟩⟩ := c
  simp only at h
  unfold callF at h
  repeat' split at h
  all_goals first | (cases h; rfl) | cases h

/-- Number k is reckoned. -/
theorem lex_F {ds : List Nat} {k : Nat} [hT : TabC P T] (ho : ops[k]? = some o) (hc : lexH ops ds k = true) (hst : stillOp o.op = true) (h : stepO T ops o l H = some (l', H')) (hk : ALex P ops ds (k + 1) Q ⟨l', H', m⟩) : ALex P ops ds k Q ⟨l, H, m⟩ := by
  unfold stepO at h
  split at h
  · rename_i hw
    split at h
    · rename_i v H'' hv
      have := still_eq hst hv
      subst this
      refine lex_read ho hc (by exact hw) (stepF_ok (m := m) hT.ok hv) ?_
      rw [show (⟨l, H'', m⟩ : St).put o.dst v (⟨l, H'', m⟩ : St).H = ⟨l', H', m⟩ from putF_eq h m]
      exact hk
    · cases h
  · rename_i hw
    have hc' := hc
    simp only [lexH, Bool.and_eq_true] at hc'
    refine lex_skip ho hc'.1.1 (by exact hw) ?_
    rw [show (⟨l, H, m⟩ : St).put o.dst (.k undef) (⟨l, H, m⟩ : St).H = ⟨l', H', m⟩ from putF_eq h m]
    exact hk
  · cases h

/-- Number k has a rule of its own, and only reads. -/
theorem lex_R {ds : List Nat} {k : Nat} {v : V} (ho : ops[k]? = some o) (hc : lexH ops ds k = true) (hw : wantA ops ⟨l, H, m⟩ o = some true) (hs : Step P o (St.ev ⟨l, H, m⟩) H v H) (hp : putF l H o.dst v = some (l', K)) (h : ALex P ops ds (k + 1) Q ⟨l', K, m⟩) : ALex P ops ds k Q ⟨l, H, m⟩ := by
  refine lex_read ho hc hw hs ?_
  rw [show (⟨l, H, m⟩ : St).put o.dst v (⟨l, H, m⟩ : St).H = ⟨l', K, m⟩ from putF_eq hp m]
  exact h
/-- Number k alone may come up; it may write. -/
theorem lex_W {ds : List Nat} {k : Nat} {v : V} (ho : ops[k]? = some o) (hc : lexO ops ds k = true) (hw : wantA ops ⟨l, H, m⟩ o = some true) (hs : Step P o (St.ev ⟨l, H, m⟩) H v H') (hp : putF l H' o.dst v = some (l', K)) (h : ALex P ops ds (k + 1) Q ⟨l', K, m⟩) : ALex P ops ds k Q ⟨l, H, m⟩ := by
  refine lex_one ho hc hw hs ?_
  rw [putF_eq hp m]
  exact h
theorem lex_WF {ds : List Nat} {k : Nat} [hT : TabC P T] (ho : ops[k]? = some o) (hc : lexO ops ds k = true) (hw : wantA ops ⟨l, H, m⟩ o = some true) (h : stepO T ops o l H = some (l', H')) (hk : ALex P ops ds (k + 1) Q ⟨l', H', m⟩) : ALex P ops ds k Q ⟨l, H, m⟩ := by
  unfold stepO at h
  have hw0 : wantA ops ⟨l, H, 0⟩ o = some true := hw
  rw [hw0] at h
  simp only at h
  split at h
  · rename_i v H'' hv
    refine lex_one ho hc (by exact hw) (stepF_ok (m := m) hT.ok hv) ?_
    rw [putF_eq h m]
    exact hk
  · cases h
/-- A guard that is not known. -/
theorem lex_br {ds : List Nat} {k : Nat} {j : Nat} {w b : Bool} {d : Tmp} (ho : ops[k]? = some o) (hg : o.guard = some (j, w)) (hj : (ops[j]?).bind (·.dst) = some d) (hd : l[d]? = some (B b))
    (ht : b = true → ALex P ops ds k Q ⟨l.set d (B true), H, m⟩) (hf : b = false → ALex P ops ds k Q ⟨l.set d (B false), H, m⟩) : ALex P ops ds k Q ⟨l, H, m⟩ :=
  ⟨any_split (S := ⟨l, H, m⟩) d hd fun b' hb => by
    subst hb
    cases b' with
    | true => exact (ht rfl).out
    | false => exact (hf rfl).out⟩
end
end Go.Proofs.Ytkcicbigpbdjpaa.Ab
