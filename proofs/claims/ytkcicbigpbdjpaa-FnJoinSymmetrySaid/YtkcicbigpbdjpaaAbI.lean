/-
  CALLS.
-/
import Derived.Test.YtkcicbigpbdjpaaAbH
import Derived.BigCall
namespace Go.Proofs.Ytkcicbigpbdjpaa.Ab
open Go.RowKit
set_option linter.unusedVariables false
set_option linter.unusedSimpArgs false

/-- A function with a Go body. -/
class Ent (P : Program) (f : FuncId) : Prop where
  e : ∀ args w, (callFunc f args).run P w = .ok (.enter f args) w

theorem ent_of {P : Program} {f : FuncId} {fn : Func} (hf : P.funcs[f]? = some fn) (hb : fn.body.isSome = true) (hn : (fn.name == "runtime.NumGoroutine") = false) : Ent P f := ⟨fun args w => by
  have hb' : fn.body.isNone = false := by cases h : fn.body <;> simp_all
  simp only [callFunc, Sem.run_bind, run_program, Result.andThen_ok, hf, hn, hb', Bool.false_eq_true, if_false, Sem.run_pure]⟩

mutual
/-- The rows' numbers, k more. -/
def shV (k : Nat) : V → V
  | .sl h off len => .sl (h + k) off len
  | .ptr h off => .ptr (h + k) off
  | .agg cs => .agg (shVs k cs)
  | .tup cs => .tup (shVs k cs)
  | .fn f cs => .fn f (shVs k cs)
  | .k v => .k v
  | .lst n cs => .lst n cs
  | .pref cs => .pref cs
  | .any => .any
def shVs (k : Nat) : List V → List V
  | [] => []
  | c :: cs => shV k c :: shVs k cs
end

section
variable {A A' : Nat → Prop} {w w' : World} {φ φ' : List Hd} {H : List Reg}

theorem shVs_length (k : Nat) : ∀ cs : List V, (shVs k cs).length = cs.length
  | [] => rfl
  | c :: cs => by simp [shVs, shVs_length k cs]

mutual
theorem shV_rel : ∀ {v : V} {x : Value}, Rel A w φ' v x → Rel A w (φ ++ φ') (shV φ.length v) x
  | .k v, x, h => by simp only [shV, Rel] at h ⊢; exact h
  | .lst n cs, x, h => by simp only [shV, Rel] at h ⊢; exact h
  | .pref cs, x, h => by simp only [shV, Rel] at h ⊢; exact h
  | .any, x, h => by simp only [shV, Rel]
  | .sl i off len, x, h => by
    simp only [shV, Rel] at h ⊢
    obtain ⟨hd, h1, h2⟩ := h
    exact ⟨hd, by rw [List.getElem?_append_right (Nat.le_add_left _ _), Nat.add_sub_cancel]; exact h1, h2⟩
  | .ptr i off, x, h => by
    simp only [shV, Rel] at h ⊢
    obtain ⟨hd, b, h1, h2⟩ := h
    exact ⟨hd, b, by rw [List.getElem?_append_right (Nat.le_add_left _ _), Nat.add_sub_cancel]; exact h1, h2⟩
  | .agg cs, x, h => by
    rw [shV, Rel]
    rw [Rel] at h
    obtain ⟨xs, e1, e2, h2⟩ := h
    exact ⟨xs, e1, e2.trans (shVs_length _ _).symm, shVs_rel h2⟩
  | .tup cs, x, h => by
    rw [shV, Rel]
    rw [Rel] at h
    obtain ⟨xs, e1, e2, h2⟩ := h
    exact ⟨xs, e1, e2.trans (shVs_length _ _).symm, shVs_rel h2⟩
  | .fn f cs, x, h => by
    rw [shV, Rel]
    rw [Rel] at h
    obtain ⟨xs, e1, e2, h2⟩ := h
    exact ⟨xs, e1, e2.trans (shVs_length _ _).symm, shVs_rel h2⟩
theorem shVs_rel : ∀ {cs : List V} {g : Nat → Option Value}, Rels A w φ' cs g → Rels A w (φ ++ φ') (shVs φ.length cs) g
  | [], g, h => by rw [shVs, Rels]; trivial
  | c :: cs, g, h => by
    rw [shVs, Rels]
    rw [Rels] at h
    obtain ⟨⟨y, h1, h2⟩, h3⟩ := h
    exact ⟨⟨y, h1, shV_rel h2⟩, shVs_rel h3⟩
end

mutual
theorem rel_noH : ∀ {v : V} {x : Value}, noH v = true → Rel A w φ v x → Rel A w φ' v x
  | .k u, x, hn, h => by simp only [Rel] at h ⊢; exact h
  | .lst n cs, x, hn, h => by simp only [Rel] at h ⊢; exact h
  | .pref cs, x, hn, h => by simp only [Rel] at h ⊢; exact h
  | .any, x, hn, h => by simp only [Rel]
  | .agg cs, x, hn, h => by
    rw [Rel] at h ⊢
    obtain ⟨xs, e1, e2, h2⟩ := h
    exact ⟨xs, e1, e2, rels_noH' (by simpa only [noH] using hn) h2⟩
  | .tup cs, x, hn, h => by
    rw [Rel] at h ⊢
    obtain ⟨xs, e1, e2, h2⟩ := h
    exact ⟨xs, e1, e2, rels_noH' (by simpa only [noH] using hn) h2⟩
  | .fn f cs, x, hn, h => by
    rw [Rel] at h ⊢
    obtain ⟨xs, e1, e2, h2⟩ := h
    exact ⟨xs, e1, e2, rels_noH' (by simpa only [noH] using hn) h2⟩
  | .sl _ _ _, x, hn, h => by simp [noH] at hn
  | .ptr _ _, x, hn, h => by simp [noH] at hn
theorem rels_noH' : ∀ {cs : List V} {g : Nat → Option Value}, noHs cs = true → Rels A w φ cs g → Rels A w φ' cs g
  | [], g, hn, h => by simp only [Rels]
  | c :: cs, g, hn, h => by
    simp only [noHs, Bool.and_eq_true] at hn
    rw [Rels] at h ⊢
    obtain ⟨⟨y, h1, h2⟩, h3⟩ := h
    exact ⟨⟨y, h1, rel_noH hn.1 h2⟩, rels_noH' hn.2 h3⟩
end
theorem rels_noH {cs : List V} {g : Nat → Option Value} (hn : NoH cs) (h : Rels A w φ cs g) : Rels A w φ' cs g :=
  rels_iff.2 fun i c hc => by
    obtain ⟨y, h1, h2⟩ := rels_get h hc
    exact ⟨y, h1, rel_noH (hn c (List.mem_of_getElem? hc)) h2⟩

mutual
theorem shV_noH (k : Nat) : ∀ {v : V}, noH v = true → shV k v = v
  | .k u, _ => rfl
  | .lst n cs, _ => rfl
  | .pref cs, _ => rfl
  | .any, _ => rfl
  | .agg cs, h => by rw [shV, shVs_noH k (by simpa only [noH] using h)]
  | .tup cs, h => by rw [shV, shVs_noH k (by simpa only [noH] using h)]
  | .fn f cs, h => by rw [shV, shVs_noH k (by simpa only [noH] using h)]
  | .sl _ _ _, h => by simp [noH] at h
  | .ptr _ _, h => by simp [noH] at h
theorem shVs_noH (k : Nat) : ∀ {cs : List V}, noHs cs = true → shVs k cs = cs
  | [], _ => rfl
  | c :: cs, h => by
    simp only [noHs, Bool.and_eq_true] at h
    rw [shVs, shV_noH k h.1, shVs_noH k h.2]
end

mutual
/-- How an argument is handed on: what it says in the caller, what it says in the callee (which sees rows of the caller's as slices that are read; 'live': those that may still be written, too). -/
inductive Pur (live : Bool) (H : List Reg) : V → V → Prop where
  | same {v : V} (h : noH v = true) : Pur live H v v
  | any {v : V} : Pur live H v .any
  | nil : Pur live H (.k (.slice none 0 0)) (.lst 0 [])
  | sl {h off m : Nat} {r : Reg} {cs : List V} (hr : H[h]? = some r) (hm : r.mode = 1 ∨ (live = true ∧ r.mode = 0)) (hN : NoH r.cells) (he : 0 < r.esz) (hl : (off + m) * r.esz ≤ r.cells.length) (hc : cs = (r.cells.drop (off * r.esz)).take (m * r.esz)) : Pur live H (.sl h off m) (.lst m cs)
  | ptr {h off : Nat} {r : Reg} {cs : List V} (hr : H[h]? = some r) (hm : r.mode = 1 ∨ (live = true ∧ r.mode = 0)) (hN : NoH r.cells) (hc : cs = r.cells.drop off) : Pur live H (.ptr h off) (.pref cs)
  | slN {h off m : Nat} {r : Reg} {cs : List V} (hr : H[h]? = some r) (hm : r.mode = 1 ∨ (live = true ∧ r.mode = 0)) (he : 0 < r.esz) (hl : (off + m) * r.esz ≤ r.cells.length) (hc : Purs live H ((r.cells.drop (off * r.esz)).take (m * r.esz)) cs) : Pur live H (.sl h off m) (.lst m cs)
  | agg {cs ds : List V} (h : Purs live H cs ds) : Pur live H (.agg cs) (.agg ds)
  | fn {f : FuncId} {cs ds : List V} (h : Purs live H cs ds) : Pur live H (.fn f cs) (.fn f ds)
  | tup {cs ds : List V} (h : Purs live H cs ds) : Pur live H (.tup cs) (.tup ds)
inductive Purs (live : Bool) (H : List Reg) : List V → List V → Prop where
  | nil : Purs live H [] []
  | cons {c d : V} {cs ds : List V} (h : Pur live H c d) (hs : Purs live H cs ds) : Purs live H (c :: cs) (d :: ds)
end

theorem Purs.length {live : Bool} : ∀ {cs ds : List V}, Purs live H cs ds → cs.length = ds.length
  | [], _, h => by cases h; rfl
  | c :: cs, _, h => by cases h with | cons h hs => simp [Purs.length hs]

theorem blk_of {h : Nat} {hd : Hd} {r : Reg} {b : Nat} (hok : HeapOk A w φ H) (hφ : φ[h]? = some hd) (hH : H[h]? = some r) (hm : r.mode ≤ 1) (hb : hd.blk = some b) : b < w.heap.size := by
  obtain ⟨_, e2⟩ := hok.regs h hd r hφ hH hm
  rw [hb] at e2
  obtain ⟨c, k1, _⟩ := e2
  exact (Array.getElem?_eq_some_iff.1 k1).1

mutual
theorem Pur.rel {live : Bool} (hok : HeapOk A w φ H) (hA : ∀ b, A b → A' b) (hlive : live = true → ∀ h b, LiveAt φ H h b → A' b) : ∀ {v v' : V} {x : Value}, Pur live H v v' → Rel A w φ v x → Rel A' w [] v' x
  | v, _, x, .same h, hr => Rel.mono (fun b hb => ⟨hA b hb, rfl⟩) (fun _ _ h => h) (rel_noH h hr)
  | v, _, x, .any, hr => by simp only [Rel]
  | _, _, x, .nil, hr => by
    simp only [Rel] at hr ⊢
    exact ⟨none, 0, hr, Nat.le_refl _, Nat.le_refl _, Or.inl trivial⟩
  | .sl h off m, .lst _ cs, x, .sl (r := r) h1 hm hN he hl hc, hr => by
    simp only [Rel] at hr ⊢
    have hlen : cs.length = m * r.esz := by
      subst hc
      simp only [List.length_take, List.length_drop, Nat.add_mul] at hl ⊢
      omega
    have hle : m ≤ cs.length := by rw [hlen]; exact Nat.le_mul_of_pos_right _ he
    obtain ⟨hd, e1, ⟨e2, e3⟩ | ⟨p1, p2, ad, e2⟩⟩ := hr
    · refine ⟨_, _, e2, by omega, hle, ?_⟩
      cases hb : hd.blk with
      | none =>
        obtain ⟨_, f2⟩ := hok.regs h hd r e1 h1 (by rcases hm with hm | hm <;> omega)
        rw [hb] at f2
        left
        rw [hc, f2.1]
        simp
      | some b =>
        right
        obtain ⟨⟨f1, _⟩, _⟩ := hok.regs h hd r e1 h1 (by rcases hm with hm | hm <;> omega)
        refine ⟨b, _, rfl, ?_, ?_⟩
        · rcases hm with hm | ⟨hm, hm'⟩
          · exact hA b (hok.frz h hd r b e1 h1 hm hb)
          · exact hlive hm h b ⟨hd, r, e1, h1, hm', hb⟩
        · have := rels_take (rels_drop (row_cells hok e1 h1 (by rcases hm with hm | hm <;> omega) hb) (off * r.esz)) (m * r.esz)
          rw [← hc, ← f1] at this
          refine Rels.mono (fun b hb => ⟨hA b hb, rfl⟩) (fun _ _ h => h) (rels_noH (fun c hc' => hN c ?_) this)
          rw [hc] at hc'
          exact List.mem_of_mem_drop (List.mem_of_mem_take hc')
    · subst p2
      refine ⟨ad, 0, e2, Nat.zero_le _, Nat.zero_le _, Or.inl ?_⟩
      rw [hc]
      simp
  | .sl h off m, .lst _ cs, x, .slN (r := r) h1 hm he hl hc, hr => by
    simp only [Rel] at hr ⊢
    have hlen : cs.length = m * r.esz := by
      rw [← Purs.length hc]
      simp only [List.length_take, List.length_drop, Nat.add_mul] at hl ⊢
      omega
    have hle : m ≤ cs.length := by rw [hlen]; exact Nat.le_mul_of_pos_right _ he
    obtain ⟨hd, e1, ⟨e2, e3⟩ | ⟨p1, p2, ad, e2⟩⟩ := hr
    · refine ⟨_, _, e2, by omega, hle, ?_⟩
      cases hb : hd.blk with
      | none =>
        obtain ⟨_, f2⟩ := hok.regs h hd r e1 h1 (by rcases hm with hm | hm <;> omega)
        rw [hb] at f2
        left
        have := Purs.length hc
        rw [f2.1] at this
        simp at this
        exact List.length_eq_zero_iff.1 this.symm
      | some b =>
        right
        obtain ⟨⟨f1, _⟩, _⟩ := hok.regs h hd r e1 h1 (by rcases hm with hm | hm <;> omega)
        refine ⟨b, _, rfl, ?_, ?_⟩
        · rcases hm with hm | ⟨hm, hm'⟩
          · exact hA b (hok.frz h hd r b e1 h1 hm hb)
          · exact hlive hm h b ⟨hd, r, e1, h1, hm', hb⟩
        · have := rels_take (rels_drop (row_cells hok e1 h1 (by rcases hm with hm | hm <;> omega) hb) (off * r.esz)) (m * r.esz)
          have := Purs.rels hok hA hlive hc this
          rw [← f1] at this
          exact this
    · subst p2
      refine ⟨ad, 0, e2, Nat.zero_le _, Nat.zero_le _, Or.inl ?_⟩
      exact List.length_eq_zero_iff.1 (by rw [hlen]; simp)
  | .ptr h off, .pref cs, x, .ptr (r := r) h1 hm hN hc, hr => by
    simp only [Rel] at hr ⊢
    obtain ⟨hd, b, e1, e2, e3⟩ := hr
    refine ⟨b, off, e3, ?_, ?_⟩
    · rcases hm with hm | ⟨hm, hm'⟩
      · exact hA b (hok.frz h hd r b e1 h1 hm e2)
      · exact hlive hm h b ⟨hd, r, e1, h1, hm', e2⟩
    · have := rels_drop (row_cells hok e1 h1 (by rcases hm with hm | hm <;> omega) e2) off
      rw [← hc] at this
      refine Rels.mono (fun b hb => ⟨hA b hb, rfl⟩) (fun _ _ h => h) (rels_noH (fun c hc' => hN c ?_) this)
      rw [hc] at hc'
      exact List.mem_of_mem_drop hc'
  | .agg cs, .agg ds, x, .agg h, hr => by
    rw [Rel] at hr ⊢
    obtain ⟨xs, e1, e2, h2⟩ := hr
    exact ⟨xs, e1, e2.trans (Purs.length h), Purs.rels hok hA hlive h h2⟩
  | .fn f cs, .fn _ ds, x, .fn h, hr => by
    rw [Rel] at hr ⊢
    obtain ⟨xs, e1, e2, h2⟩ := hr
    exact ⟨xs, e1, e2.trans (Purs.length h), Purs.rels hok hA hlive h h2⟩
  | .tup cs, .tup ds, x, .tup h, hr => by
    rw [Rel] at hr ⊢
    obtain ⟨xs, e1, e2, h2⟩ := hr
    exact ⟨xs, e1, e2.trans (Purs.length h), Purs.rels hok hA hlive h h2⟩
theorem Purs.rels {live : Bool} (hok : HeapOk A w φ H) (hA : ∀ b, A b → A' b) (hlive : live = true → ∀ h b, LiveAt φ H h b → A' b) : ∀ {cs ds : List V} {g : Nat → Option Value}, Purs live H cs ds → Rels A w φ cs g → Rels A' w [] ds g
  | [], _, g, .nil, hr => by simp only [Rels]
  | c :: cs, _, g, .cons h hs, hr => by
    rw [Rels] at hr ⊢
    obtain ⟨⟨y, h1, h2⟩, h3⟩ := hr
    exact ⟨⟨y, h1, Pur.rel hok hA hlive h h2⟩, Purs.rels hok hA hlive hs h3⟩
end

/-- The caller's rows beside those that a call hands back. -/
theorem InvA.join {C : Cx} (hA : InvA C A φ H w) {K : List Reg} (hK : HeapOk A' w' φ' K) (hN : ∀ r ∈ K, NoH r.cells) (hA' : ∀ b, A' b → A b ∨ w.heap.size ≤ b) (hl : ∀ h b, LiveAt φ' K h b → w.heap.size ≤ b) (hoth : ∀ b, b < w.heap.size → w'.heap[b]? = w.heap[b]?)
    (hsz : w.heap.size ≤ w'.heap.size) (hos : w'.os = w.os) (htape : w'.tape = w.tape) (hout : w'.output = w.output) :
    InvA C (fun b => A b ∨ A' b) (φ ++ φ') (H ++ K) w' := by
  have hlen := hA.ok.len
  have hφ : ∀ (h : Nat) (hd : Hd), φ[h]? = some hd → (φ ++ φ')[h]? = some hd := fun h hd hh => app_left hh
  have hAm : ∀ b, A b → (A b ∨ A' b) ∧ w'.heap[b]? = w.heap[b]? := fun b hb => ⟨Or.inl hb, hoth b (hA.ok.low b hb)⟩
  have hsplit : ∀ (h : Nat) (hd : Hd) (r : Reg), (φ ++ φ')[h]? = some hd → (H ++ K)[h]? = some r → (φ[h]? = some hd ∧ H[h]? = some r) ∨ (∃ j, h = φ.length + j ∧ φ'[j]? = some hd ∧ K[j]? = some r) := fun h hd r h1 h2 => by
    rcases Nat.lt_or_ge h φ.length with hh | hh
    · rw [List.getElem?_append_left hh] at h1
      rw [List.getElem?_append_left (by omega)] at h2
      exact Or.inl ⟨h1, h2⟩
    · rw [List.getElem?_append_right hh] at h1
      rw [List.getElem?_append_right (by omega), ← hlen] at h2
      exact Or.inr ⟨h - φ.length, by omega, h1, h2⟩
  have hlive : ∀ h b, LiveAt (φ ++ φ') (H ++ K) h b → LiveAt φ H h b ∨ ∃ j, h = φ.length + j ∧ LiveAt φ' K j b := by
    rintro h b ⟨hd, r, h1, h2, h3, h4⟩
    rcases hsplit h hd r h1 h2 with ⟨p1, p2⟩ | ⟨j, p0, p1, p2⟩
    · exact Or.inl ⟨hd, r, p1, p2, h3, h4⟩
    · exact Or.inr ⟨j, p0, hd, r, p1, p2, h3, h4⟩
  have hlow : ∀ h b, LiveAt φ H h b → b < w.heap.size := fun h b ⟨hd, r, h1, h2, h3, h4⟩ => blk_of hA.ok h1 h2 (by omega) h4
  refine ⟨⟨by simp [hlen, hK.len], fun h hd r h1 h2 h3 => ?_, fun h h' b h1 h2 => ?_, fun h b h1 => ?_, fun h hd r b h1 h2 h3 h4 => ?_, fun b hb => ?_⟩, fun b hb => ?_, fun h b h1 => ?_, ?_, fun h hd hh => hφ h hd (hA.pre h hd hh)⟩
  · rcases hsplit h hd r h1 h2 with ⟨p1, p2⟩ | ⟨j, p0, p1, p2⟩
    · obtain ⟨e1, e2⟩ := hA.ok.regs h hd r p1 p2 h3
      refine ⟨e1, ?_⟩
      cases hk : hd.blk with
      | none => rw [hk] at e2; exact e2
      | some b =>
        rw [hk] at e2
        obtain ⟨c, k1, k2, k3, k4⟩ := e2
        exact ⟨c, (hoth b (blk_of hA.ok p1 p2 h3 hk)).trans k1, k2, k3, Rels.mono hAm hφ k4⟩
    · obtain ⟨e1, e2⟩ := hK.regs j hd r p1 p2 h3
      refine ⟨e1, ?_⟩
      cases hk : hd.blk with
      | none => rw [hk] at e2; exact e2
      | some b =>
        rw [hk] at e2
        obtain ⟨c, k1, k2, k3, k4⟩ := e2
        exact ⟨c, k1, k2, k3, Rels.mono (fun b hb => ⟨Or.inr hb, rfl⟩) (fun _ _ h => h) (rels_noH (hN r (List.mem_of_getElem? p2)) k4)⟩
  · rcases hlive h b h1 with q1 | ⟨j, p1, q1⟩
    · rcases hlive h' b h2 with q2 | ⟨j', p2, q2⟩
      · exact hA.ok.inj _ _ _ q1 q2
      · have := hlow _ _ q1
        have := hl _ _ q2
        omega
    · rcases hlive h' b h2 with q2 | ⟨j', p2, q2⟩
      · have := hlow _ _ q2
        have := hl _ _ q1
        omega
      · rw [p1, p2, hK.inj _ _ _ q1 q2]
  · rcases hlive h b h1 with q1 | ⟨j, p1, q1⟩
    · rintro (hb | hb)
      · exact hA.ok.apart _ _ q1 hb
      · rcases hA' b hb with hb | hb
        · exact hA.ok.apart _ _ q1 hb
        · have := hlow _ _ q1
          omega
    · rintro (hb | hb)
      · have := hA.ok.low b hb
        have := hl _ _ q1
        omega
      · exact hK.apart _ _ q1 hb
  · rcases hsplit h hd r h1 h2 with ⟨p1, p2⟩ | ⟨j, p0, p1, p2⟩
    · exact Or.inl (hA.ok.frz h hd r b p1 p2 h3 h4)
    · exact Or.inr (hK.frz j hd r b p1 p2 h3 h4)
  · rcases hb with hb | hb
    · exact Nat.lt_of_lt_of_le (hA.ok.low b hb) hsz
    · exact hK.low b hb
  · rcases hb with hb | hb
    · exact hA.old b hb
    · rcases hA' b hb with hb | hb
      · exact hA.old b hb
      · exact Or.inr (Nat.le_trans hA.frame.size hb)
  · rcases hlive h b h1 with q1 | ⟨j, p1, q1⟩
    · exact hA.own _ _ q1
    · exact Or.inl (Nat.le_trans hA.frame.size (hl _ _ q1))
  · obtain ⟨f1, f2, f3, f4, f5⟩ := hA.frame
    exact ⟨hos.trans f1, htape.trans f2, hout.trans f3, Nat.le_trans f4 hsz, fun i hi hno => (hoth i (Nat.lt_of_lt_of_le hi f4)).trans (f5 i hi hno)⟩
end

section
variable {P : Program} {o : Oper} {ρ : Operand → V} {H : List Reg}

theorem run_call {a : Act} {f : FuncId} {args : List Operand} {ats : Array TypeId} {w : World} [he : Ent P f] (ho : o.op = .call { callee := .value (.func f), args := args.toArray, argTypes := ats }) : (execOp a.eval o).run P w = .ok (.enter f (args.map a.eval).toArray) w := by
  obtain ⟨dst, op, type, pos, after, guard⟩ := o
  simp only at ho
  subst ho
  rw [execOp_call_go, he.e]
  simp

/-- A call whose arguments are only read, whatever names the callee. 'al': the result may be read from their memory; then no row that may still be written is among them. -/
theorem step_call_gen {f : FuncId} {vs cargs : List V} {r : V} {K : List Reg} {al : Bool}
    (hrun : ∀ (A : Nat → Prop) (φ : List Hd) (a : Act) (w : World), HeapOk A w φ H → (∀ x ∈ o.op.operands, Rel A w φ (ρ x) (a.eval x)) → ∃ xs : Array Value, (execOp a.eval o).run P w = .ok (.enter f xs) w ∧ xs.size = vs.length ∧ Rels A w φ vs (fun i => xs[i]?))
    (hm : Meets P f cargs [] r K al) (hargs : Purs (!al) H vs cargs) (hN : ∀ r ∈ K, NoH r.cells) : Step P o ρ H (shV H.length r) (H ++ K) := by
  intro S hS hρ C φ a w hI next Q hn
  obtain ⟨hm0, ⟨A, hA, hr⟩, hs, hd⟩ := hI
  subst hS
  obtain ⟨xs, hexec, hxl, hargr⟩ := hrun A φ a w hA.ok (fun x hx => by rw [← hρ x hx]; exact ev_rel hr x)
  let A1 : Nat → Prop := fun b => A b ∨ (al = false ∧ b < w.heap.size)
  have hok1 : HeapOk A1 w [] [] := ⟨rfl, fun h hd r h1 => by simp at h1, fun h h' b ⟨hd, r, h1, _⟩ => by simp at h1, fun h b ⟨hd, r, h1, _⟩ => by simp at h1, fun h hd r b h1 => by simp at h1, fun b hb => by
    rcases hb with hb | hb
    · exact hA.ok.low b hb
    · exact hb.2⟩
  have hargs1 : Rels A1 w [] cargs (fun i => xs[i]?) := Purs.rels hA.ok (fun b hb => Or.inl hb) (fun hl h b hb => Or.inr ⟨by cases al <;> simp_all, by obtain ⟨hd, r, q1, q2, q3, q4⟩ := hb; exact blk_of hA.ok q1 q2 (by omega) q4⟩) hargs hargr
  have hcall := hm A1 [] w xs hok1 hargs1 (hxl.trans (Purs.length hargs))
  unfold Oper.wp
  rw [hexec, Oper.upon_enter]
  refine hcall.mono ?_
  rintro e w' ⟨x, φ', A', rfl, k1, k2, k3, k4, k5, k6⟩
  have hfr : ∀ b, b < w.heap.size → w'.heap[b]? = w.heap[b]? := fun b hb => k5.block b hb (fun h ⟨hd, r, h1, _⟩ => by simp at h1)
  have hJ : InvA C (fun b => A b ∨ A' b) (φ ++ φ') (S.H ++ K) w' := hA.join k1 hN (fun b hb => by
      rcases k3 b hb with ⟨ha, hb | hb⟩ | hb
      · exact Or.inl hb
      · rw [ha] at hb; cases hb.1
      · exact Or.inr hb)
    (fun h b hl => by
      rcases k4 h b hl with h1 | ⟨h0, hd, r, h1, _⟩
      · exact h1
      · simp at h1) hfr k5.size k5.os k5.tape k5.output
  have hr' : Rels (fun b => A b ∨ A' b) w' (φ ++ φ') S.tmps (fun i => a.tmps[i]?) := Rels.mono (fun b hb => ⟨Or.inl hb, hfr b (hA.ok.low b hb)⟩) (fun h hd hh => app_left hh) hr
  have hx : Rel (fun b => A b ∨ A' b) w' (φ ++ φ') (shV S.H.length r) x := by
    rw [← hA.ok.len]
    exact shV_rel (Rel.mono (fun b hb => ⟨Or.inr hb, rfl⟩) (fun _ _ h => h) k2)
  obtain ⟨h7, h8⟩ := put_rel (H := S.H ++ K) hs hr' hx o.dst
  refine hn x w' (φ ++ φ') ⟨by cases o.dst <;> exact hm0, ⟨_, ?_, h7⟩, h8, by cases o.dst <;> exact hd⟩
  rw [put_H]
  exact hJ

theorem rels_map {A : Nat → Prop} {w : World} {φ : List Hd} {a : Act} {args : List Operand} (h : ∀ x ∈ args, Rel A w φ (ρ x) (a.eval x)) : Rels A w φ (args.map ρ) (fun i => (args.map a.eval).toArray[i]?) := rels_iff.2 fun i c hc => by
  rw [List.getElem?_map] at hc
  cases hi : args[i]? with
  | none => rw [hi] at hc; simp at hc
  | some x =>
    rw [hi] at hc
    simp only [Option.map_some, Option.some.injEq] at hc
    subst hc
    exact ⟨a.eval x, by simp [hi], h x (List.mem_of_getElem? hi)⟩

/-- A call of a function that the text names. -/
theorem step_call {f : FuncId} {args : List Operand} {ats : Array TypeId} {cargs : List V} {r : V} {K : List Reg} {al : Bool} [he : Ent P f] (ho : o.op = .call { callee := .value (.func f), args := args.toArray, argTypes := ats })
    (hm : Meets P f cargs [] r K al) (hargs : Purs (!al) H (args.map ρ) cargs) (hN : ∀ r ∈ K, NoH r.cells) : Step P o ρ H (shV H.length r) (H ++ K) :=
  step_call_gen (fun A φ a w _ hh => ⟨_, run_call ho, by simp, rels_map fun x hx => hh x (by rw [ho]; simp only [Op.operands, Call.operands]; simp [hx])⟩) hm hargs hN

/-- A call of a function value. -/
theorem step_callV {fo : Operand} {f : FuncId} {args : List Operand} {ats : Array TypeId} {caps cargs : List V} {r : V} {K : List Reg} {al : Bool} [he : Ent P f] (ho : o.op = .call { callee := .value fo, args := args.toArray, argTypes := ats })
    (hf : ρ fo = .fn f caps) (hm : Meets P f cargs [] r K al) (hargs : Purs (!al) H (args.map ρ ++ caps) cargs) (hN : ∀ r ∈ K, NoH r.cells) : Step P o ρ H (shV H.length r) (H ++ K) :=
  step_call_gen (fun A φ a w _ hh => by
    have h1 := hh fo (by rw [ho]; simp [Op.operands, Call.operands])
    rw [hf, Rel] at h1
    obtain ⟨ys, e1, e2, h2⟩ := h1
    refine ⟨(args.map a.eval).toArray ++ ys, ?_, by simp [e2], ?_⟩
    · simp only [execOp, ho, resolve, e1, Deferred.ofValue, Sem.run_bind, Sem.run_pure, Result.andThen_ok, invoke, he.e]
      simp
    · refine rels_append (rels_congr (rels_map fun x hx => hh x (by rw [ho]; simp only [Op.operands, Call.operands]; simp [hx])) fun i hi => ?_) (rels_congr h2 fun i hi => ?_)
      · simp only [List.length_map] at hi
        rw [Array.getElem?_append_left (by simpa using hi)]
      · rw [Array.getElem?_append_right (by simp)]
        simp) hm hargs hN

theorem step_makeFunc {f : FuncId} {cap : List Operand} (ho : o.op = .makeFunc (.func f) #[] cap.toArray) : Step P o ρ H (.fn f (cap.map ρ)) H := step_pure fun A φ a w _ hh => by
  refine ⟨.func (.func f) #[] (cap.map a.eval).toArray, by simp [execOp, ho, Instr.makeFunc], ?_⟩
  rw [Rel]
  exact ⟨_, rfl, by simp, rels_map fun x hx => hh x (by rw [ho]; simp [Op.operands, hx])⟩
end

end Go.Proofs.Ytkcicbigpbdjpaa.Ab
