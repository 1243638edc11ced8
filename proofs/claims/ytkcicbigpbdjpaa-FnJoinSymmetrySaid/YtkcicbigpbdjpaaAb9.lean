/-
  A contract that hands rows back: those behind the handed ones frozen.
-/
import Derived.Test.YtkcicbigpbdjpaaAbU
namespace Go.Proofs.Ytkcicbigpbdjpaa.Ab
open Go.RowKit
set_option linter.unusedVariables false
set_option linter.unusedSimpArgs false
section
variable {P : Program}
def deadR (r : Reg) : Reg := { r with mode := 2 }

theorem Meets.frozenK {f : FuncId} {cargs : List V} {Rs Rs' K : List Reg} {r r' : V} {al : Bool} (h : Meets P f cargs Rs r (Rs' ++ K) al) (hl : Rs'.length = Rs.length) (hN : ∀ q ∈ Rs', NoH q.cells)
    (hm : ∀ (i : Nat) (R R' : Reg), Rs[i]? = some R → Rs'[i]? = some R' → R.mode = 0 → R'.mode = 0) (hp : Pur true (Rs'.map deadR ++ K) r r') : Meets P f cargs Rs r' Rs' true := by
  intro A φ w xs hok hrel hsz
  refine (h A φ w xs hok hrel hsz).mono ?_
  rintro e w' ⟨x, φ', A', rfl, k1, k2, k3, k4, k5, k6⟩
  have hlen : φ'.length = Rs'.length + K.length := by rw [k1.len, List.length_append]
  have hφl : φ.length = Rs'.length := by rw [hok.len, hl]
  have hget : ∀ (i : Nat) (q : Reg), (Rs'.map deadR ++ K)[i]? = some q → q.mode ≤ 1 → Rs'.length ≤ i ∧ (Rs' ++ K)[i]? = some q := fun i q hq hm1 => by
    rcases Nat.lt_or_ge i Rs'.length with hlt | hge
    · rw [List.getElem?_append_left (by simpa using hlt), List.getElem?_map] at hq
      obtain ⟨z, hz⟩ : ∃ z, Rs'[i]? = some z := ⟨_, List.getElem?_eq_getElem hlt⟩
      rw [hz] at hq
      simp only [Option.map_some, Option.some.injEq] at hq
      subst hq
      exact absurd (show (2 : Nat) ≤ 1 from hm1) (by decide)
    · refine ⟨hge, ?_⟩
      rw [List.getElem?_append_right (by simpa using hge), List.length_map] at hq
      rw [List.getElem?_append_right hge]
      exact hq
  have hlive2 : ∀ i b, LiveAt φ' (Rs'.map deadR ++ K) i b → Rs'.length ≤ i ∧ LiveAt φ' (Rs' ++ K) i b := fun i b ⟨hd, q, q1, q2, q3, q4⟩ =>
    have := hget i q q2 (by omega)
    ⟨this.1, hd, q, q1, this.2, q3, q4⟩
  have kd : HeapOk A' w' φ' (Rs'.map deadR ++ K) := ⟨by rw [hlen]; simp, fun i hd q q1 q2 q3 => k1.regs i hd q q1 (hget i q q2 q3).2 q3, fun i j b q1 q2 => k1.inj i j b (hlive2 i b q1).2 (hlive2 j b q2).2, fun i b q1 => k1.apart i b (hlive2 i b q1).2, fun i hd q b q1 q2 q3 q4 => k1.frz i hd q b q1 (hget i q q2 (by omega)).2 q3 q4, k1.low⟩
  have hT : ∀ (i : Nat) (hd : Hd), (φ'.take Rs'.length)[i]? = some hd → i < Rs'.length ∧ φ'[i]? = some hd := fun i hd hi => by
    have hlt : i < (φ'.take Rs'.length).length := (List.getElem?_eq_some_iff.1 hi).1
    rw [List.length_take] at hlt
    rw [List.getElem?_take_of_lt (by omega)] at hi
    exact ⟨by omega, hi⟩
  have hL : ∀ i b, LiveAt (φ'.take Rs'.length) Rs' i b → i < Rs'.length ∧ LiveAt φ' (Rs' ++ K) i b := fun i b ⟨hd, q, q1, q2, q3, q4⟩ =>
    have := hT i hd q1
    ⟨this.1, hd, q, this.2, by rw [List.getElem?_append_left this.1]; exact q2, q3, q4⟩
  have hmono : ∀ b, A' b → (A' b ∨ ∃ i, LiveAt φ' (Rs'.map deadR ++ K) i b) ∧ w'.heap[b]? = w'.heap[b]? := fun b hb => ⟨Or.inl hb, rfl⟩
  refine ⟨x, φ'.take Rs'.length, fun b => A' b ∨ ∃ i, LiveAt φ' (Rs'.map deadR ++ K) i b, rfl, ⟨by rw [List.length_take]; omega, fun i hd q q1 q2 q3 => ?_, fun i j b q1 q2 => k1.inj i j b (hL i b q1).2 (hL j b q2).2, fun i b q1 hb => ?_, fun i hd q b q1 q2 q3 q4 => ?_, fun b hb => ?_⟩, ?_, fun b hb => ?_, fun i b q1 => k4 i b (hL i b q1).2, k5, fun i hd q1 => ?_⟩
  · obtain ⟨t1, t2⟩ := hT i hd q1
    have := k1.regs i hd q t2 (by rw [List.getElem?_append_left t1]; exact q2) q3
    obtain ⟨e1, e2⟩ := this
    refine ⟨e1, ?_⟩
    cases hk : hd.blk with
    | none => rw [hk] at e2; exact e2
    | some b =>
      rw [hk] at e2
      obtain ⟨c, f1, f2, f3, f4⟩ := e2
      exact ⟨c, f1, f2, f3, Rels.mono hmono (fun _ _ h => h) (rels_noH (hN q (List.mem_of_getElem? q2)) f4)⟩
  · rcases hb with hb | ⟨j, hb⟩
    · exact k1.apart i b (hL i b q1).2 hb
    · obtain ⟨g1, g2⟩ := hlive2 j b hb
      have := k1.inj i j b (hL i b q1).2 g2
      have := (hL i b q1).1
      omega
  · obtain ⟨t1, t2⟩ := hT i hd q1
    exact Or.inl (k1.frz i hd q b t2 (by rw [List.getElem?_append_left t1]; exact q2) q3 q4)
  · rcases hb with hb | ⟨j, hb⟩
    · exact k1.low b hb
    · obtain ⟨g1, hd, q, g2, g3, g4, g5⟩ := hlive2 j b hb
      exact blk_of k1 g2 g3 (by omega) g5
  · exact Rel.mono (fun b hb => ⟨hb, rfl⟩) (fun j hd hj => by simp at hj) (Pur.rel kd (fun b hb => Or.inl hb) (fun _ j b hb => Or.inr ⟨j, hb⟩) hp k2)
  · rcases hb with hb | ⟨j, hb⟩
    · exact (k3 b hb).imp (fun h => ⟨rfl, h.2⟩) id
    · obtain ⟨g1, g2⟩ := hlive2 j b hb
      rcases k4 j b g2 with h1 | ⟨h0, hd, q, p1, p2, p3, p4⟩
      · exact Or.inr h1
      · exfalso
        have hlt : h0 < Rs'.length := by have := (List.getElem?_eq_some_iff.1 p1).1; omega
        obtain ⟨z, hz⟩ : ∃ z, Rs'[h0]? = some z := ⟨_, List.getElem?_eq_getElem hlt⟩
        have hz0 := hm h0 q z p2 hz p3
        have := k1.inj j h0 b g2 ⟨hd, z, k6 h0 hd p1, by rw [List.getElem?_append_left hlt]; exact hz, hz0, p4⟩
        omega
  · have hlt : i < Rs'.length := by have := (List.getElem?_eq_some_iff.1 q1).1; omega
    rw [List.getElem?_take_of_lt hlt]
    exact k6 i hd q1
end
theorem aw_joinR {P : Program} (id : Nat) {ops : Array Oper} {b : Bool} {y : Code} {Q : Exit → St → Prop} {S : St} (T : St) (h : AW P (.region id ops b) (fun e S' => e = .normal ∧ Sub T S') S) (k : AW P y Q T) : AW P (.seq (.region id ops b) y) Q S :=
  aw_seq ⟨fun C φ a w hI => wp_mono (h.out C φ a w hI) fun e a' w' hq => by
    obtain ⟨S', φ1, hI', he, hs⟩ := hq
    subst he
    obtain ⟨φ2, h2⟩ := hs C φ1 a' w' hI'
    exact ⟨T, φ2, h2, k⟩⟩
@[irreducible] def Hold (p : Prop) : Prop := p
theorem unhold {p : Prop} (h : Hold p) : p := by unfold Hold at h; exact h
theorem hold {p : Prop} (h : p) : Hold p := by unfold Hold; exact h
end Go.Proofs.Ytkcicbigpbdjpaa.Ab
