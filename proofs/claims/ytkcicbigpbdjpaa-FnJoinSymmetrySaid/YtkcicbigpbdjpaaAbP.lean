/-
  ROWS THAT ARE HANDED OVER TO A CALLEE; ROWS THAT ARE NO LONGER WRITTEN.
-/
import Derived.Test.YtkcicbigpbdjpaaAbO
namespace Go.Proofs.Ytkcicbigpbdjpaa.Ab
open Go.RowKit
set_option linter.unusedVariables false
set_option linter.unusedSimpArgs false

section
variable {C : Cx} {A A' : Nat → Prop} {φ φ' : List Hd} {H : List Reg} {w w' : World}

/-- A live row that is written no longer. -/
theorem InvA.freeze (hA : InvA C A φ H w) {h : Nat} {r : Reg} (hH : H[h]? = some r) (hm : r.mode = 0) (h0 : C.φ0 = []) : InvA C (fun b => A b ∨ LiveAt φ H h b) φ (H.set h { r with mode := 1 }) w := by
  have hlive : ∀ h' b, LiveAt φ (H.set h { r with mode := 1 }) h' b → LiveAt φ H h' b ∧ h' ≠ h := by
    rintro h' b ⟨hd, r', h1, h2, h3, h4⟩
    rcases getElem?_set' h2 with ⟨_, rfl⟩ | ⟨hne, h2⟩
    · cases h3
    · exact ⟨⟨hd, r', h1, h2, h3, h4⟩, hne⟩
  have hmono : ∀ b, A b → (A b ∨ LiveAt φ H h b) ∧ w.heap[b]? = w.heap[b]? := fun b hb => ⟨Or.inl hb, rfl⟩
  have hreg : ∀ {hd : Hd} {r' : Reg}, RegOk A w φ hd r' → RegOk (fun b => A b ∨ LiveAt φ H h b) w φ hd r' := fun {hd r'} hr => by
    obtain ⟨e1, e2⟩ := hr
    refine ⟨e1, ?_⟩
    cases hk : hd.blk with
    | none => rw [hk] at e2; exact e2
    | some b =>
      rw [hk] at e2
      obtain ⟨c, k1, k2, k3, k4⟩ := e2
      exact ⟨c, k1, k2, k3, Rels.mono hmono (fun _ _ h => h) k4⟩
  refine ⟨⟨by simp [hA.ok.len], fun h' hd r' h1 h2 h3 => ?_, fun _ _ _ h1 h2 => hA.ok.inj _ _ _ (hlive _ _ h1).1 (hlive _ _ h2).1, fun h' b h1 hb => ?_, fun h' hd r' b h1 h2 h3 h4 => ?_, fun b hb => ?_⟩, fun b hb => ?_, fun _ _ h1 => hA.own _ _ (hlive _ _ h1).1, hA.frame, hA.pre⟩
  · rcases getElem?_set' h2 with ⟨rfl, rfl⟩ | ⟨_, h2⟩
    · have := hreg (hA.ok.regs h' hd r h1 hH (by omega))
      exact this
    · exact hreg (hA.ok.regs h' hd r' h1 h2 h3)
  · obtain ⟨l1, l2⟩ := hlive _ _ h1
    rcases hb with hb | hb
    · exact hA.ok.apart _ _ l1 hb
    · exact l2 (hA.ok.inj _ _ _ l1 hb)
  · rcases getElem?_set' h2 with ⟨rfl, rfl⟩ | ⟨_, h2⟩
    · exact Or.inr ⟨hd, r, h1, hH, hm, h4⟩
    · exact Or.inl (hA.ok.frz h' hd r' b h1 h2 h3 h4)
  · rcases hb with hb | ⟨hd, r', h1, h2, h3, h4⟩
    · exact hA.ok.low b hb
    · exact blk_of hA.ok h1 h2 (by omega) h4
  · rcases hb with hb | hb
    · exact hA.old b hb
    · rcases hA.own h b hb with h1 | ⟨h9, h1⟩
      · exact Or.inr h1
      · obtain ⟨hd, r', p1, _⟩ := h1
        rw [h0] at p1
        simp at p1

theorem sub_freeze {l : List V} {h : Nat} {r : Reg} (hH : H[h]? = some r) (hm : r.mode = 0) : Sub ⟨l, H.set h { r with mode := 1 }, 0⟩ ⟨l, H, 0⟩ := fun C φ a w hI => by
  obtain ⟨hm0, ⟨A, hA, hr⟩, hs, hd⟩ := hI
  refine ⟨φ, hm0, ⟨_, hA.freeze hH hm (List.length_eq_zero_iff.1 hm0), Rels.mono (fun b hb => ⟨Or.inl hb, rfl⟩) (fun _ _ h => h) hr⟩, hs, hd⟩

/-- A frozen row's slice, said as a slice that is read. -/
theorem sub_lst {l l' : List V} {m : Nat} {H : List Reg} (hl : Purs false H l l') : True := trivial

/-- Beside the caller's rows: the one that was handed over, as the callee left it, and the new ones. -/
theorem InvA.joinM (hA : InvA C A φ H w) {h : Nat} {hd : Hd} {R R' : Reg} {K : List Reg} {ψ' : List Hd} (hφ : φ[h]? = some hd) (hH : H[h]? = some R) (hm : R.mode = 0) (hm' : R'.mode = 0) (hN' : NoH R'.cells) (hN : ∀ r ∈ K, NoH r.cells)
    (hK : HeapOk A' w' (hd :: ψ') (R' :: K)) (hA' : ∀ b, A' b → A b ∨ w.heap.size ≤ b) (hl : ∀ j b, LiveAt (hd :: ψ') (R' :: K) j b → w.heap.size ≤ b ∨ LiveAt φ H h b)
    (hoth : ∀ b, b < w.heap.size → ¬ LiveAt φ H h b → w'.heap[b]? = w.heap[b]?) (hsz : w.heap.size ≤ w'.heap.size) (hos : w'.os = w.os) (htape : w'.tape = w.tape) (hout : w'.output = w.output) :
    InvA C (fun b => A b ∨ A' b) (φ ++ ψ') (H.set h R' ++ K) w' := by
  have hlen := hA.ok.len
  have hφm : ∀ (i : Nat) (d : Hd), φ[i]? = some d → (φ ++ ψ')[i]? = some d := fun i d hh => app_left hh
  have hAm : ∀ b, A b → (A b ∨ A' b) ∧ w'.heap[b]? = w.heap[b]? := fun b hb => ⟨Or.inl hb, hoth b (hA.ok.low b hb) fun hl => hA.ok.apart h b hl hb⟩
  have hR'live : ∀ b, hd.blk = some b → LiveAt (hd :: ψ') (R' :: K) 0 b := fun b hb => ⟨hd, R', rfl, rfl, hm', hb⟩
  have hRlive : ∀ b, hd.blk = some b → LiveAt φ H h b := fun b hb => ⟨hd, R, hφ, hH, hm, hb⟩
  -- a row of the new state
  have hsplit : ∀ (i : Nat) (d : Hd) (r : Reg), (φ ++ ψ')[i]? = some d → (H.set h R' ++ K)[i]? = some r → (i = h ∧ d = hd ∧ r = R') ∨ (i ≠ h ∧ φ[i]? = some d ∧ H[i]? = some r) ∨ (∃ j, i = φ.length + j ∧ ψ'[j]? = some d ∧ K[j]? = some r) := fun i d r h1 h2 => by
    rcases Nat.lt_or_ge i φ.length with hh | hh
    · rw [List.getElem?_append_left hh] at h1
      rw [List.getElem?_append_left (by simp; omega)] at h2
      rcases getElem?_set' h2 with ⟨rfl, rfl⟩ | ⟨hne, h2⟩
      · rw [hφ] at h1
        cases h1
        exact Or.inl ⟨rfl, rfl, rfl⟩
      · exact Or.inr (Or.inl ⟨hne, h1, h2⟩)
    · rw [List.getElem?_append_right hh] at h1
      rw [List.getElem?_append_right (by simp; omega), List.length_set, ← hlen] at h2
      exact Or.inr (Or.inr ⟨i - φ.length, by omega, h1, h2⟩)
  have hlive : ∀ i b, LiveAt (φ ++ ψ') (H.set h R' ++ K) i b → (i = h ∧ LiveAt φ H h b) ∨ (i ≠ h ∧ LiveAt φ H i b) ∨ (∃ j, i = φ.length + j ∧ LiveAt (hd :: ψ') (R' :: K) (j + 1) b) := by
    rintro i b ⟨d, r, h1, h2, h3, h4⟩
    rcases hsplit i d r h1 h2 with ⟨rfl, rfl, rfl⟩ | ⟨hne, p1, p2⟩ | ⟨j, p0, p1, p2⟩
    · exact Or.inl ⟨rfl, hRlive b h4⟩
    · exact Or.inr (Or.inl ⟨hne, d, r, p1, p2, h3, h4⟩)
    · exact Or.inr (Or.inr ⟨j, p0, d, r, by simpa using p1, by simpa using p2, h3, h4⟩)
  have hlow : ∀ i b, LiveAt φ H i b → b < w.heap.size := fun i b ⟨d, r, h1, h2, h3, h4⟩ => blk_of hA.ok h1 h2 (by omega) h4
  -- a new row holds a new block
  have hnew : ∀ j b, LiveAt (hd :: ψ') (R' :: K) (j + 1) b → w.heap.size ≤ b := fun j b hj => by
    rcases hl _ _ hj with h1 | h1
    · exact h1
    · obtain ⟨d, r, q1, q2, q3, q4⟩ := h1
      rw [hφ] at q1
      cases q1
      have := hK.inj _ _ _ hj (hR'live b q4)
      omega
  refine ⟨⟨by simp [hlen, (by have := hK.len; simpa using this : ψ'.length = K.length)], fun i d r h1 h2 h3 => ?_, fun i i' b h1 h2 => ?_, fun i b h1 => ?_, fun i d r b h1 h2 h3 h4 => ?_, fun b hb => ?_⟩, fun b hb => ?_, fun i b h1 => ?_, ?_, fun i d hh => hφm i d (hA.pre i d hh)⟩
  · rcases hsplit i d r h1 h2 with ⟨rfl, rfl, rfl⟩ | ⟨hne, p1, p2⟩ | ⟨j, p0, p1, p2⟩
    · obtain ⟨e1, e2⟩ := hK.regs 0 d r rfl rfl h3
      refine ⟨e1, ?_⟩
      cases hk : d.blk with
      | none => rw [hk] at e2; exact e2
      | some b =>
        rw [hk] at e2
        obtain ⟨c, k1, k2, k3, k4⟩ := e2
        exact ⟨c, k1, k2, k3, Rels.mono (fun b hb => ⟨Or.inr hb, rfl⟩) (fun _ _ h => h) (rels_noH hN' k4)⟩
    · obtain ⟨e1, e2⟩ := hA.ok.regs i d r p1 p2 h3
      refine ⟨e1, ?_⟩
      cases hk : d.blk with
      | none => rw [hk] at e2; exact e2
      | some b =>
        rw [hk] at e2
        obtain ⟨c, k1, k2, k3, k4⟩ := e2
        have hnl : ¬ LiveAt φ H h b := fun hl => by
          rcases Nat.lt_or_ge r.mode 1 with hm1 | hm1
          · exact hne (hA.ok.inj _ _ _ ⟨d, r, p1, p2, by omega, hk⟩ hl)
          · exact hA.ok.apart h b hl (hA.ok.frz i d r b p1 p2 (by omega) hk)
        exact ⟨c, (hoth b (blk_of hA.ok p1 p2 h3 hk) hnl).trans k1, k2, k3, Rels.mono hAm hφm k4⟩
    · obtain ⟨e1, e2⟩ := hK.regs (j + 1) d r (by simpa using p1) (by simpa using p2) h3
      refine ⟨e1, ?_⟩
      cases hk : d.blk with
      | none => rw [hk] at e2; exact e2
      | some b =>
        rw [hk] at e2
        obtain ⟨c, k1, k2, k3, k4⟩ := e2
        exact ⟨c, k1, k2, k3, Rels.mono (fun b hb => ⟨Or.inr hb, rfl⟩) (fun _ _ h => h) (rels_noH (hN r (List.mem_of_getElem? p2)) k4)⟩
  · rcases hlive i b h1 with ⟨p1, q1⟩ | ⟨p1, q1⟩ | ⟨j, p1, q1⟩ <;> rcases hlive i' b h2 with ⟨p2, q2⟩ | ⟨p2, q2⟩ | ⟨j', p2, q2⟩
    · rw [p1, p2]
    · exact absurd (hA.ok.inj _ _ _ q2 q1) p2
    · have := hlow _ _ q1; have := hnew _ _ q2; omega
    · exact absurd (hA.ok.inj _ _ _ q1 q2) p1
    · exact hA.ok.inj _ _ _ q1 q2
    · have := hlow _ _ q1; have := hnew _ _ q2; omega
    · have := hlow _ _ q2; have := hnew _ _ q1; omega
    · have := hlow _ _ q2; have := hnew _ _ q1; omega
    · have := hK.inj _ _ _ q1 q2
      omega
  · have hA'no : ∀ b, b < w.heap.size → ¬ A b → ¬ A' b := fun b hb hn ha => by
      rcases hA' b ha with h | h
      · exact hn h
      · omega
    rcases hlive i b h1 with ⟨p1, q1⟩ | ⟨p1, q1⟩ | ⟨j, p1, q1⟩
    · rintro (hb | hb)
      · exact hA.ok.apart _ _ q1 hb
      · exact hA'no b (hlow _ _ q1) (hA.ok.apart _ _ q1) hb
    · rintro (hb | hb)
      · exact hA.ok.apart _ _ q1 hb
      · exact hA'no b (hlow _ _ q1) (hA.ok.apart _ _ q1) hb
    · rintro (hb | hb)
      · have := hA.ok.low b hb
        have := hnew _ _ q1
        omega
      · exact hK.apart _ _ q1 hb
  · rcases hsplit i d r h1 h2 with ⟨rfl, rfl, rfl⟩ | ⟨hne, p1, p2⟩ | ⟨j, p0, p1, p2⟩
    · omega
    · exact Or.inl (hA.ok.frz i d r b p1 p2 h3 h4)
    · exact Or.inr (hK.frz (j + 1) d r b (by simpa using p1) (by simpa using p2) h3 h4)
  · rcases hb with hb | hb
    · exact Nat.lt_of_lt_of_le (hA.ok.low b hb) hsz
    · exact hK.low b hb
  · rcases hb with hb | hb
    · exact hA.old b hb
    · rcases hA' b hb with hb | hb
      · exact hA.old b hb
      · exact Or.inr (Nat.le_trans hA.frame.size hb)
  · rcases hlive i b h1 with ⟨p1, q1⟩ | ⟨p1, q1⟩ | ⟨j, p1, q1⟩
    · exact hA.own _ _ q1
    · exact hA.own _ _ q1
    · exact Or.inl (Nat.le_trans hA.frame.size (hnew _ _ q1))
  · obtain ⟨f1, f2, f3, f4, f5⟩ := hA.frame
    refine ⟨hos.trans f1, htape.trans f2, hout.trans f3, Nat.le_trans f4 hsz, fun i hi hno => ?_⟩
    rw [← f5 i hi hno]
    refine hoth i (Nat.lt_of_lt_of_le hi f4) fun hl => ?_
    rcases hA.own h i hl with h1 | ⟨h9, h1⟩
    · omega
    · exact hno h9 h1

/-- A row's number in the caller: the handed one is h, the new ones come behind the caller's. -/
def renM (h k : Nat) : V → V
  | .sl 0 off len => .sl h off len
  | .sl (i + 1) off len => .sl (k + i) off len
  | .ptr 0 off => .ptr h off
  | .ptr (i + 1) off => .ptr (k + i) off
  | .tup vs => .tup (vs.map fun v => match v with
    | .sl 0 off len => .sl h off len
    | .sl (i + 1) off len => .sl (k + i) off len
    | .ptr 0 off => .ptr h off
    | .ptr (i + 1) off => .ptr (k + i) off
    | v => v)
  | v => v
end

section
variable {P : Program} {o : Oper} {ρ : Operand → V} {H : List Reg}

/-- What is handed to a callee that writes one row: that row, by its address or as a slice; all else without memory, or read only. -/
inductive Pas (h : Nat) (H : List Reg) : V → V → Prop where
  | same {v : V} (hv : noH v = true) : Pas h H v v
  | ptr {off : Nat} : Pas h H (.ptr h off) (.ptr 0 off)
  | sl {off n : Nat} : Pas h H (.sl h off n) (.sl 0 off n)
inductive Pass (h : Nat) (H : List Reg) : List V → List V → Prop where
  | nil : Pass h H [] []
  | cons {c d : V} {cs ds : List V} (hc : Pas h H c d) (hs : Pass h H cs ds) : Pass h H (c :: cs) (d :: ds)

theorem Pass.rels {A : Nat → Prop} {w : World} {φ : List Hd} {h : Nat} {hd : Hd} (hφ : φ[h]? = some hd) : ∀ {cs ds : List V} {g : Nat → Option Value}, Pass h H cs ds → Rels A w φ cs g → Rels A w [hd] ds g
  | [], _, g, .nil, hr => by simp only [Rels]
  | c :: cs, _, g, .cons hc hs, hr => by
    rw [Rels] at hr ⊢
    obtain ⟨⟨y, h1, h2⟩, h3⟩ := hr
    refine ⟨⟨y, h1, ?_⟩, Pass.rels hφ hs h3⟩
    cases hc with
    | same hv => exact rel_noH hv h2
    | ptr =>
      simp only [Rel] at h2 ⊢
      obtain ⟨hd', b, q1, q2⟩ := h2
      rw [hφ] at q1
      cases q1
      exact ⟨hd, b, rfl, q2⟩
    | sl =>
      simp only [Rel] at h2 ⊢
      obtain ⟨hd', q1, q2⟩ := h2
      rw [hφ] at q1
      cases q1
      exact ⟨hd, rfl, q2⟩
theorem Pass.length {h : Nat} : ∀ {cs ds : List V}, Pass h H cs ds → cs.length = ds.length
  | [], _, .nil => rfl
  | c :: cs, _, .cons hc hs => by simp [Pass.length hs]

/-- A call that is handed one row to write; what it hands back bears no memory. -/
theorem step_callM {f : FuncId} {args : List Operand} {ats : Array TypeId} {cargs : List V} {r : V} {R R' : Reg} {K : List Reg} {h : Nat} [he : Ent P f] (ho : o.op = .call { callee := .value (.func f), args := args.toArray, argTypes := ats })
    (hm : Meets P f cargs [R] r (R' :: K) true) (hH : H[h]? = some R) (hm0 : R.mode = 0) (hm1 : R'.mode = 0) (hargs : Pass h H (args.map ρ) cargs) (hNR : NoH R.cells) (hN' : NoH R'.cells) (hN : ∀ r ∈ K, NoH r.cells) (hr : noH r = true) : Step P o ρ H r (H.set h R' ++ K) := by
  intro S hS hρ C φ a w hI next Q hn
  obtain ⟨hm2, ⟨A, hA, hrr⟩, hs, hd0⟩ := hI
  subst hS
  have hargr : Rels A w φ (args.map ρ) (fun i => (args.map a.eval).toArray[i]?) := rels_map fun x hx => by
    rw [← hρ x (by rw [ho]; simp only [Op.operands, Call.operands]; simp [hx])]
    exact ev_rel hrr x
  obtain ⟨hd, hφ⟩ : ∃ hd, φ[h]? = some hd := ⟨φ[h]'(by rw [hA.ok.len]; exact (List.getElem?_eq_some_iff.1 hH).1), List.getElem?_eq_getElem _⟩
  have hli : ∀ j b, LiveAt [hd] [R] j b → LiveAt φ S.H h b := fun j b ⟨d, r', q1, q2, q3, q4⟩ => by
    cases j with
    | zero => simp at q1 q2; subst q1; subst q2; exact ⟨hd, R, hφ, hH, q3, q4⟩
    | succ j => simp at q1
  have hok1 : HeapOk A w [hd] [R] := by
    refine ⟨rfl, fun j d r' q1 q2 q3 => ?_, fun j j' b q1 q2 => ?_, fun j b q1 => hA.ok.apart _ _ (hli j b q1), fun j d r' b q1 q2 q3 q4 => ?_, hA.ok.low⟩
    · cases j with
      | zero =>
        simp at q1 q2
        subst q1
        subst q2
        obtain ⟨e1, e2⟩ := hA.ok.regs h hd R hφ hH q3
        refine ⟨e1, ?_⟩
        cases hk : hd.blk with
        | none => rw [hk] at e2; exact e2
        | some b =>
          rw [hk] at e2
          obtain ⟨c, k1, k2, k3, k4⟩ := e2
          exact ⟨c, k1, k2, k3, rels_noH hNR k4⟩
      | succ j => simp at q1
    · obtain ⟨d, r', p1, _⟩ := q1
      obtain ⟨d', r'', p2, _⟩ := q2
      cases j with
      | zero => cases j' with
        | zero => rfl
        | succ j' => simp at p2
      | succ j => simp at p1
    · cases j with
      | zero => simp at q2; subst q2; omega
      | succ j => simp at q1
  have hcall := hm A [hd] w (args.map a.eval).toArray hok1 (Pass.rels hφ hargs hargr) (by simp [← Pass.length hargs])
  unfold Oper.wp
  rw [run_call ho, Oper.upon_enter]
  refine hcall.mono ?_
  rintro e w' ⟨x, φ', A', rfl, k1, k2, k3, k4, k5, k6⟩
  obtain ⟨ψ', rfl⟩ : ∃ ψ', φ' = hd :: ψ' := by
    have h0 := k6 0 hd rfl
    cases φ' with
    | nil => simp at h0
    | cons d ψ' => simp at h0; subst h0; exact ⟨ψ', rfl⟩
  have hlr : ∀ b, LiveAt φ S.H h b → ∃ j, LiveAt [hd] [R] j b := fun b ⟨d, r', q1, q2, q3, q4⟩ => by
    rw [hφ] at q1
    rw [hH] at q2
    cases q1
    cases q2
    exact ⟨0, hd, R, rfl, rfl, q3, q4⟩
  have hJ := hA.joinM hφ hH hm0 hm1 hN' hN k1 (fun b hb => (k3 b hb).imp (fun h => h.2) id) (fun j b hl => (k4 j b hl).imp id fun ⟨j0, h⟩ => hli j0 b h) (fun b hb hn => k5.block b hb fun j hl => hn (hli j b hl)) k5.size k5.os k5.tape k5.output
  have hr' : Rels (fun b => A b ∨ A' b) w' (φ ++ ψ') S.tmps (fun i => a.tmps[i]?) := Rels.mono (fun b hb => ⟨Or.inl hb, k5.block b (hA.ok.low b hb) fun j hl => hA.ok.apart h b (hli j b hl) hb⟩) (fun h hd hh => app_left hh) hrr
  have hx : Rel (fun b => A b ∨ A' b) w' (φ ++ ψ') r x := rel_noH hr (Rel.mono (fun b hb => ⟨Or.inr hb, rfl⟩) (fun _ _ h => h) k2)
  obtain ⟨h7, h8⟩ := put_rel (H := S.H.set h R' ++ K) hs hr' hx o.dst
  refine hn x w' (φ ++ ψ') ⟨by cases o.dst <;> exact hm2, ⟨_, ?_, h7⟩, h8, by cases o.dst <;> exact hd0⟩
  rw [put_H]
  exact hJ
end
end Go.Proofs.Ytkcicbigpbdjpaa.Ab
