/-
  HOW THE ROWS TURN: a new one, one that is written, one that is given up.
-/
import Derived.Test.YtkcicbigpbdjpaaAbD
namespace Go.Proofs.Ytkcicbigpbdjpaa.Ab
open Go.RowKit
set_option linter.unusedVariables false
set_option linter.unusedSimpArgs false

section
variable {C : Cx} {A : Nat → Prop} {φ : List Hd} {H : List Reg} {w w' : World}

theorem getElem?_app {α : Type} {l : List α} {x y : α} {i : Nat} (h : (l ++ [x])[i]? = some y) : l[i]? = some y ∨ (i = l.length ∧ y = x) := by
  rcases Nat.lt_or_ge i l.length with hi | hi
  · rw [List.getElem?_append_left hi] at h; exact Or.inl h
  · rw [List.getElem?_append_right hi] at h
    cases hk : i - l.length with
    | zero => rw [hk] at h; simp at h; exact Or.inr ⟨by omega, h.symm⟩
    | succ n => rw [hk] at h; simp at h

theorem app_left {α : Type} {l l' : List α} {i : Nat} {y : α} (h : l[i]? = some y) : (l ++ l')[i]? = some y := by
  rw [List.getElem?_append_left (List.getElem?_eq_some_iff.1 h).1]; exact h

/-- A row in block b, which none of the others holds: a new block, or one that was given up. -/
theorem InvA.add (hA : InvA C A φ H w) {b cap esz : Nat} {e : TypeId} {c : Array Value} {cells : List V} (hfree : ∀ h, ¬ LiveAt φ H h b) (hb : ¬ A b)
    (hoth : ∀ i, i < w.heap.size → i ≠ b → w'.heap[i]? = w.heap[i]?) (hsz : w.heap.size ≤ w'.heap.size)
    (hown : C.w0.heap.size ≤ b ∨ ∃ h0, LiveAt C.φ0 C.H0 h0 b) (hos : w'.os = w.os) (htape : w'.tape = w.tape) (hout : w'.output = w.output)
    (hnew : w'.heap[b]? = some (.cells c e (0, 0))) (hc : c.size = cap * esz) (hcap : cap ≤ maxLen) (hl : cells.length ≤ c.size) (hr : Rels A w φ cells (fun i => c[i]?)) :
    InvA C A (φ ++ [⟨some b, cap, esz, e⟩]) (H ++ [⟨e, esz, cells, 0⟩]) w' := by
  have hlen := hA.ok.len
  have hAb : ∀ i, A i → A i ∧ w'.heap[i]? = w.heap[i]? := fun i hi => ⟨hi, hoth i (hA.ok.low i hi) (fun e => hb (e ▸ hi))⟩
  have hφ : ∀ (h : Nat) (hd : Hd), φ[h]? = some hd → (φ ++ [(⟨some b, cap, esz, e⟩ : Hd)])[h]? = some hd := fun h hd hh => app_left hh
  have hlive : ∀ h b', LiveAt (φ ++ [⟨some b, cap, esz, e⟩]) (H ++ [⟨e, esz, cells, 0⟩]) h b' → LiveAt φ H h b' ∨ (h = φ.length ∧ b' = b) := by
    rintro h b' ⟨hd, r, h1, h2, h3, h4⟩
    rcases getElem?_app h1 with p1 | ⟨p1, rfl⟩
    · rcases getElem?_app h2 with p2 | ⟨p2, rfl⟩
      · exact Or.inl ⟨hd, r, p1, p2, h3, h4⟩
      · have := (List.getElem?_eq_some_iff.1 p1).1
        omega
    · simp only [Option.some.injEq] at h4
      exact Or.inr ⟨p1, h4.symm⟩
  refine ⟨⟨by simp [hlen], fun h hd r h1 h2 h3 => ?_, fun h h' b' h1 h2 => ?_, fun h b' h1 => ?_, fun h hd r b' h1 h2 h3 h4 => ?_, fun b' hb' => Nat.lt_of_lt_of_le (hA.ok.low b' hb') hsz⟩, hA.old, fun h b' h1 => ?_, ?_, fun h hd hh => hφ h hd (hA.pre h hd hh)⟩
  · rcases getElem?_app h1 with p1 | ⟨p1, rfl⟩
    · rcases getElem?_app h2 with p2 | ⟨p2, rfl⟩
      · obtain ⟨e1, e2⟩ := hA.ok.regs h hd r p1 p2 h3
        refine ⟨e1, ?_⟩
        cases hk : hd.blk with
        | none => rw [hk] at e2; exact e2
        | some b' =>
          rw [hk] at e2
          obtain ⟨c', k1, k2, k3, k4⟩ := e2
          have hne : b' ≠ b := by
            rintro rfl
            rcases Nat.lt_or_ge r.mode 1 with hm | hm
            · exact hfree h ⟨hd, r, p1, p2, by omega, hk⟩
            · exact hb (hA.ok.frz h hd r b' p1 p2 (by omega) hk)
          have hlt : b' < w.heap.size := by
            rcases Nat.lt_or_ge b' w.heap.size with hh | hh
            · exact hh
            · rw [Array.getElem?_eq_none hh] at k1; cases k1
          exact ⟨c', (hoth b' hlt hne).trans k1, k2, k3, Rels.mono hAb hφ k4⟩
      · have := (List.getElem?_eq_some_iff.1 p1).1
        omega
    · rcases getElem?_app h2 with p2 | ⟨p2, rfl⟩
      · have := (List.getElem?_eq_some_iff.1 p2).1
        omega
      · exact ⟨⟨rfl, rfl, hcap⟩, c, hnew, hc, hl, Rels.mono hAb hφ hr⟩
  · rcases hlive h b' h1 with p1 | ⟨q1, q2⟩
    · rcases hlive h' b' h2 with p2 | ⟨q3, q4⟩
      · exact hA.ok.inj _ _ _ p1 p2
      · exact absurd (q4 ▸ p1) (hfree h)
    · rcases hlive h' b' h2 with p2 | ⟨q3, q4⟩
      · exact absurd (q2 ▸ p2) (hfree h')
      · exact q1.trans q3.symm
  · rcases hlive h b' h1 with p1 | ⟨q1, q2⟩
    · exact hA.ok.apart _ _ p1
    · exact q2 ▸ hb
  · rcases getElem?_app h1 with p1 | ⟨p1, rfl⟩
    · rcases getElem?_app h2 with p2 | ⟨p2, rfl⟩
      · exact hA.ok.frz h hd r b' p1 p2 h3 h4
      · cases h3
    · rcases getElem?_app h2 with p2 | ⟨p2, rfl⟩
      · have := (List.getElem?_eq_some_iff.1 p2).1
        omega
      · cases h3
  · rcases hlive h b' h1 with p1 | ⟨q1, q2⟩
    · exact hA.own _ _ p1
    · exact q2 ▸ hown
  · obtain ⟨f1, f2, f3, f4, f5⟩ := hA.frame
    refine ⟨hos.trans f1, htape.trans f2, hout.trans f3, Nat.le_trans f4 hsz, fun i hi hno => ?_⟩
    rw [← f5 i hi hno]
    refine hoth i (Nat.lt_of_lt_of_le hi f4) ?_
    rintro rfl
    rcases hown with hown | ⟨h0, hown⟩
    · omega
    · exact hno h0 hown

theorem getElem?_set' {α : Type} {l : List α} {h i : Nat} {x y : α} (hi : (l.set h x)[i]? = some y) : (i = h ∧ y = x) ∨ (i ≠ h ∧ l[i]? = some y) := by
  rw [List.getElem?_set] at hi
  by_cases e : h = i
  · subst e
    simp only [if_true] at hi
    split at hi
    · simp at hi; exact Or.inl ⟨rfl, hi.symm⟩
    · cases hi
  · rw [if_neg e] at hi
    exact Or.inr ⟨fun h => e h.symm, hi⟩

/-- A row is given up. -/
theorem InvA.kill (hA : InvA C A φ H w) {h : Nat} {r : Reg} (hH : H[h]? = some r) : InvA C A φ (H.set h { r with mode := 2 }) w := by
  have hlive : ∀ h' b, LiveAt φ (H.set h { r with mode := 2 }) h' b → LiveAt φ H h' b := by
    rintro h' b ⟨hd, r', h1, h2, h3, h4⟩
    rcases getElem?_set' h2 with ⟨_, rfl⟩ | ⟨_, h2⟩
    · cases h3
    · exact ⟨hd, r', h1, h2, h3, h4⟩
  refine ⟨⟨by simp [hA.ok.len], fun h' hd r' h1 h2 h3 => ?_, fun _ _ _ h1 h2 => hA.ok.inj _ _ _ (hlive _ _ h1) (hlive _ _ h2), fun _ _ h1 => hA.ok.apart _ _ (hlive _ _ h1), fun h' hd r' b h1 h2 h3 h4 => ?_, hA.ok.low⟩, hA.old, fun _ _ h1 => hA.own _ _ (hlive _ _ h1), hA.frame, hA.pre⟩
  · rcases getElem?_set' h2 with ⟨_, rfl⟩ | ⟨_, h2⟩
    · simp at h3
    · exact hA.ok.regs h' hd r' h1 h2 h3
  · rcases getElem?_set' h2 with ⟨_, rfl⟩ | ⟨_, h2⟩
    · cases h3
    · exact hA.ok.frz h' hd r' b h1 h2 h3 h4

/-- A live row is written. -/
theorem InvA.upd (hA : InvA C A φ H w) {h b : Nat} {hd : Hd} {r : Reg} {c : Array Value} {cells : List V} (hφ : φ[h]? = some hd) (hH : H[h]? = some r) (hm : r.mode = 0) (hb : hd.blk = some b)
    (hoth : ∀ i, i ≠ b → w'.heap[i]? = w.heap[i]?) (hsz : w'.heap.size = w.heap.size) (hos : w'.os = w.os) (htape : w'.tape = w.tape) (hout : w'.output = w.output)
    (hnew : w'.heap[b]? = some (.cells c hd.e (0, 0))) (hc : c.size = hd.cap * hd.esz) (hl : cells.length ≤ c.size) (hr : Rels A w φ cells (fun i => c[i]?)) :
    InvA C A φ (H.set h { r with cells := cells }) w' := by
  have hlb : LiveAt φ H h b := ⟨hd, r, hφ, hH, hm, hb⟩
  have hAb : ∀ i, A i → A i ∧ w'.heap[i]? = w.heap[i]? := fun i hi => ⟨hi, hoth i (fun e => hA.ok.apart h b hlb (e ▸ hi))⟩
  have hlive : ∀ h' b', LiveAt φ (H.set h { r with cells := cells }) h' b' → LiveAt φ H h' b' := by
    rintro h' b' ⟨hd', r', h1, h2, h3, h4⟩
    rcases getElem?_set' h2 with ⟨rfl, rfl⟩ | ⟨_, h2⟩
    · exact ⟨hd', r, h1, hH, hm, h4⟩
    · exact ⟨hd', r', h1, h2, h3, h4⟩
  refine ⟨⟨by simp [hA.ok.len], fun h' hd' r' h1 h2 h3 => ?_, fun _ _ _ h1 h2 => hA.ok.inj _ _ _ (hlive _ _ h1) (hlive _ _ h2), fun _ _ h1 => hA.ok.apart _ _ (hlive _ _ h1), fun h' hd' r' b' h1 h2 h3 h4 => ?_, fun b' hb' => by rw [hsz]; exact hA.ok.low b' hb'⟩, hA.old, fun _ _ h1 => hA.own _ _ (hlive _ _ h1), ?_, hA.pre⟩
  · rcases getElem?_set' h2 with ⟨rfl, rfl⟩ | ⟨hne, h2⟩
    · rw [hφ] at h1
      cases h1
      obtain ⟨e1, _⟩ := hA.ok.regs h' hd r hφ hH (by omega)
      refine ⟨e1, ?_⟩
      rw [hb]
      exact ⟨c, hnew, hc, hl, Rels.mono hAb (fun _ _ h => h) hr⟩
    · obtain ⟨e1, e2⟩ := hA.ok.regs h' hd' r' h1 h2 h3
      refine ⟨e1, ?_⟩
      cases hk : hd'.blk with
      | none => rw [hk] at e2; exact e2
      | some b' =>
        rw [hk] at e2
        obtain ⟨c', k1, k2, k3, k4⟩ := e2
        have hne' : b' ≠ b := by
          rintro rfl
          rcases Nat.lt_or_ge r'.mode 1 with hm' | hm'
          · exact hne (hA.ok.inj _ _ _ ⟨hd', r', h1, h2, by omega, hk⟩ hlb)
          · exact hA.ok.apart h b' hlb (hA.ok.frz h' hd' r' b' h1 h2 (by omega) hk)
        exact ⟨c', (hoth b' hne').trans k1, k2, k3, Rels.mono hAb (fun _ _ h => h) k4⟩
  · rcases getElem?_set' h2 with ⟨rfl, rfl⟩ | ⟨_, h2⟩
    · exact hA.ok.frz h' hd' r b' h1 hH h3 h4
    · exact hA.ok.frz h' hd' r' b' h1 h2 h3 h4
  · obtain ⟨f1, f2, f3, f4, f5⟩ := hA.frame
    refine ⟨hos.trans f1, htape.trans f2, hout.trans f3, by rw [hsz]; exact f4, fun i hi hno => ?_⟩
    rw [← f5 i hi hno]
    refine hoth i ?_
    rintro rfl
    rcases hA.own h i hlb with hown | ⟨h0, hown⟩
    · omega
    · exact hno h0 hown

/-- The rest of the state behind a turn of the rows. -/
theorem InvA.rels (hA : InvA C A φ H w) {φ' : List Hd} {cs : List V} {g : Nat → Option Value} (hoth : ∀ i, A i → w'.heap[i]? = w.heap[i]?) (hφ : ∀ (h : Nat) (hd : Hd), φ[h]? = some hd → φ'[h]? = some hd) (h : Rels A w φ cs g) : Rels A w' φ' cs g :=
  Rels.mono (fun b hb => ⟨hb, hoth b hb⟩) hφ h

/-- The walk goes on: the step's frame. -/
theorem step_frame {P : Program} {o : Oper} {ρ : Operand → V} {v : V} {H' : List Reg}
    (h : ∀ (C : Cx) (A : Nat → Prop) (φ : List Hd) (a : Act) (w : World), InvA C A φ H w → (∀ x ∈ o.op.operands, Rel A w φ (ρ x) (a.eval x)) →
      ∃ x w' A' φ', ((execOp a.eval o).run P w = .ok (.value x) w' ∨ ((execOp a.eval o).run P w = .ok .skip w' ∧ x = undef)) ∧ InvA C A' φ' H' w' ∧ (∀ b, A b → A' b ∧ w'.heap[b]? = w.heap[b]?) ∧ (∀ (h : Nat) (hd : Hd), φ[h]? = some hd → φ'[h]? = some hd) ∧ Rel A' w' φ' v x) : Step P o ρ H v H' := by
  intro S hS hρ C φ a w hI next Q hn
  obtain ⟨hm, ⟨A, hA, hr⟩, hs, hd⟩ := hI
  subst hS
  obtain ⟨x, w', A', φ', h1, h2, h3, h4, h5⟩ := h C A φ a w hA (fun y hy => by rw [← hρ y hy]; exact ev_rel hr y)
  have h6 : Rels A' w' φ' S.tmps (fun i => a.tmps[i]?) := Rels.mono h3 h4 hr
  have key : Inv C φ' (S.put o.dst v H') (a.put o.dst x) w' := by
    obtain ⟨h7, h8⟩ := put_rel (H := H') hs h6 h5 o.dst
    refine ⟨by cases o.dst <;> exact hm, ⟨A', ?_, h7⟩, h8, by cases o.dst <;> exact hd⟩
    have : (S.put o.dst v H').H = H' := by cases o.dst <;> rfl
    rw [this]
    exact h2
  unfold Oper.wp
  rcases h1 with h1 | ⟨h1, rfl⟩
  · rw [h1]
    exact hn x w' φ' key
  · rw [h1]
    exact hn undef w' φ' key
end

end Go.Proofs.Ytkcicbigpbdjpaa.Ab
