/-
  REGIONS TAKEN IN AN ORDER THAT IS SAID; WHERE TWO MAY COME UP, BOTH ARE WALKED.
-/
import Derived.Test.YtkcicbigpbdjpaaAbQ
namespace Go.Proofs.Ytkcicbigpbdjpaa.Ab
open Go.RowKit
set_option linter.unusedVariables false
set_option linter.unusedSimpArgs false

def mkL (n : Nat) : List Nat → Array Bool
  | [] => Array.replicate n false
  | i :: d => (mkL n d).setIfInBounds i true

section
variable {P : Program} {T : Tab} {ops : Array Oper} {Q : Exit → St → Prop} {l l' l'' : List V} {H H' K : List Reg} {m : Nat} {o : Oper} {ds d : List Nat} {n : Nat}

structure APer (P : Program) (ops : Array Oper) (ds d : List Nat) (n : Nat) (Q : Exit → St → Prop) (S : St) : Prop where
  out : AAny P .any ops ds Q n (mkL ops.size d) S

theorem aw_per {id : Nat} {S : St} (ds : List Nat) (n : Nat) (hn : ops.size = n) [hT : TabC P T] (h : APer P ops ds [] n Q S) : AW P (.region id ops true) Q S := by
  subst hn
  exact aw_region_any ds hT.wide h.out

def perP (ops : Array Oper) (d : List Nat) (i : Nat) : Bool := Region.free .any ops (mkL ops.size d) i && (Region.ready .any ops (mkL ops.size d)).contains i
def perH (ops : Array Oper) (ds d : List Nat) (i : Nat) : Bool := perP ops d i && Region.closedB .any ops (mkL ops.size d) && Region.lastB .any ops (mkL ops.size d) ds i

theorem per_done {S : St} (hr : (Region.ready .any ops (mkL ops.size d) == []) = true) (h : Q .normal S) : APer P ops ds d 0 Q S := ⟨any_done hr h⟩

/-- Number i, reckoned, whatever the rows. -/
theorem per_P (i : Nat) {v : V} [hT : TabC P T] (ho : ops[i]? = some o) (hc : perP ops d i = true) (hw : wantA ops ⟨l, H, m⟩ o = some true) (h : ∀ H, stepF T l H o.op = some (v, H)) (hp : putF l H o.dst v = some (l', K)) (hk : APer P ops ds (i :: d) n Q ⟨l', K, m⟩) : APer P ops ds d (n + 1) Q ⟨l, H, m⟩ := by
  simp only [perP, Bool.and_eq_true] at hc
  refine ⟨any_pure (mkL ops.size (i :: d)) ho (by simp only [takeP, hc.1, hc.2, mkL, Bool.true_and, beq_self_eq_true]) hw (fun H1 => stepF_ok (m := m) hT.ok (h H1)) ?_⟩
  rw [show (⟨l, H, m⟩ : St).put o.dst v (⟨l, H, m⟩ : St).H = ⟨l', K, m⟩ from putF_eq hp m]
  exact hk.out

/-- Number i is not wanted. -/
theorem per_S (i : Nat) (ho : ops[i]? = some o) (hc : perP ops d i = true) (hw : wantA ops ⟨l, H, m⟩ o = some false) (hp : putF l H o.dst (.k undef) = some (l', K)) (hk : APer P ops ds (i :: d) n Q ⟨l', K, m⟩) : APer P ops ds d (n + 1) Q ⟨l, H, m⟩ := by
  simp only [perP, Bool.and_eq_true] at hc
  refine ⟨any_skip (mkL ops.size (i :: d)) ho (by simp only [takeP, hc.1, hc.2, mkL, Bool.true_and, beq_self_eq_true]) hw ?_⟩
  rw [show (⟨l, H, m⟩ : St).put o.dst (.k undef) (⟨l, H, m⟩ : St).H = ⟨l', K, m⟩ from putF_eq hp m]
  exact hk.out

/-- Number i only reads, and all that writes waits for it. -/
theorem per_R (i : Nat) {v : V} (ho : ops[i]? = some o) (hc : perH ops ds d i = true) (hw : wantA ops ⟨l, H, m⟩ o = some true) (hs : Step P o (St.ev ⟨l, H, m⟩) H v H) (hp : putF l H o.dst v = some (l', K)) (hk : APer P ops ds (i :: d) n Q ⟨l', K, m⟩) : APer P ops ds d (n + 1) Q ⟨l, H, m⟩ := by
  simp only [perH, perP, Bool.and_eq_true] at hc
  refine ⟨any_read (mkL ops.size (i :: d)) ho (by simp only [takeH, takeP, hc.1.1.1, hc.1.1.2, hc.1.2, hc.2, mkL, Bool.true_and, beq_self_eq_true]) hw hs ?_⟩
  rw [show (⟨l, H, m⟩ : St).put o.dst v (⟨l, H, m⟩ : St).H = ⟨l', K, m⟩ from putF_eq hp m]
  exact hk.out
theorem per_F (i : Nat) {v : V} [hT : TabC P T] (ho : ops[i]? = some o) (hc : perH ops ds d i = true) (hw : wantA ops ⟨l, H, m⟩ o = some true) (h : stepF T l H o.op = some (v, H)) (hp : putF l H o.dst v = some (l', K)) (hk : APer P ops ds (i :: d) n Q ⟨l', K, m⟩) : APer P ops ds d (n + 1) Q ⟨l, H, m⟩ :=
  per_R i ho hc hw (stepF_ok hT.ok h) hp hk

/-- Number i alone may come up; it may write. -/
theorem per_W (i : Nat) {v : V} (ho : ops[i]? = some o) (hr : (Region.ready .any ops (mkL ops.size d) == [i]) = true) (hd : ds.contains i = true) (hw : wantA ops ⟨l, H, m⟩ o = some true) (hs : Step P o (St.ev ⟨l, H, m⟩) H v H') (hp : putF l H' o.dst v = some (l', K)) (hk : APer P ops ds (i :: d) n Q ⟨l', K, m⟩) : APer P ops ds d (n + 1) Q ⟨l, H, m⟩ := by
  refine ⟨any_one (mkL ops.size (i :: d)) ho (by simp only [oneB, hr, mkL, Bool.true_and, beq_self_eq_true]) hw (by simpa using hd) hs ?_⟩
  rw [putF_eq hp m]
  exact hk.out
theorem per_WF (i : Nat) {v : V} [hT : TabC P T] (ho : ops[i]? = some o) (hr : (Region.ready .any ops (mkL ops.size d) == [i]) = true) (hd : ds.contains i = true) (hw : wantA ops ⟨l, H, m⟩ o = some true) (h : stepF T l H o.op = some (v, H')) (hp : putF l H' o.dst v = some (l', K)) (hk : APer P ops ds (i :: d) n Q ⟨l', K, m⟩) : APer P ops ds d (n + 1) Q ⟨l, H, m⟩ :=
  per_W i ho hr hd hw (stepF_ok hT.ok h) hp hk

/-- Numbers i and j may come up: i may write, j reads. -/
theorem per_2 (i j : Nat) {o' : Oper} {v u : V} {K' : List Reg} (ho : ops[i]? = some o) (ho' : ops[j]? = some o') (hr : ((Region.ready .any ops (mkL ops.size d)).all fun x => x == i || x == j) = true) (hne : (Region.ready .any ops (mkL ops.size d)).isEmpty = false) (hd : ds.contains i = true)
    (hw : wantA ops ⟨l, H, m⟩ o = some true) (hs : Step P o (St.ev ⟨l, H, m⟩) H v H') (hp : putF l H' o.dst v = some (l', K)) (hw' : wantA ops ⟨l, H, m⟩ o' = some true) (hs' : Step P o' (St.ev ⟨l, H, m⟩) H u H) (hp' : putF l H o'.dst u = some (l'', K'))
    (hk : APer P ops ds (i :: d) n Q ⟨l', K, m⟩) (hk' : APer P ops ds (j :: d) n Q ⟨l'', K', m⟩) : APer P ops ds d (n + 1) Q ⟨l, H, m⟩ := by
  refine ⟨⟨fun h0 => (by rw [h0] at hne; cases hne), fun x hx => ?_⟩⟩
  have hx' := List.all_eq_true.1 hr x hx
  simp only [Bool.or_eq_true, beq_iff_eq] at hx'
  unfold AOp
  rcases hx' with rfl | rfl
  · rw [ho]
    refine Or.inl ⟨hw, v, H', hs, fun hn => absurd (by simpa using hd) hn, ?_⟩
    rw [putF_eq hp m]
    exact hk.out
  · rw [ho']
    refine Or.inl ⟨hw', u, H, hs', fun _ => rfl, ?_⟩
    rw [show (⟨l, H, m⟩ : St).put o'.dst u H = ⟨l'', K', m⟩ from putF_eq hp' m]
    exact hk'.out

theorem per_2F (i j : Nat) {o' : Oper} {v u : V} {K' : List Reg} [hT : TabC P T] (ho : ops[i]? = some o) (ho' : ops[j]? = some o') (hr : ((Region.ready .any ops (mkL ops.size d)).all fun x => x == i || x == j) = true) (hne : (Region.ready .any ops (mkL ops.size d)).isEmpty = false) (hd : ds.contains i = true)
    (hw : wantA ops ⟨l, H, m⟩ o = some true) (hs : Step P o (St.ev ⟨l, H, m⟩) H v H') (hp : putF l H' o.dst v = some (l', K)) (hw' : wantA ops ⟨l, H, m⟩ o' = some true) (hs' : stepF T l H o'.op = some (u, H)) (hp' : putF l H o'.dst u = some (l'', K'))
    (hk : APer P ops ds (i :: d) n Q ⟨l', K, m⟩) (hk' : APer P ops ds (j :: d) n Q ⟨l'', K', m⟩) : APer P ops ds d (n + 1) Q ⟨l, H, m⟩ := per_2 i j ho ho' hr hne hd hw hs hp hw' (stepF_ok hT.ok hs') hp' hk hk'
end
end Go.Proofs.Ytkcicbigpbdjpaa.Ab
