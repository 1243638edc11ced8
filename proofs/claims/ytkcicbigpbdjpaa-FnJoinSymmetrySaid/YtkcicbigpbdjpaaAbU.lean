/-
  SEVERAL ROWS HANDED TO A CALLEE; THE NIL SLICE AS A ROW OF ONE's OWN.
-/
import Derived.Test.YtkcicbigpbdjpaaAbQ
namespace Go.Proofs.Ytkcicbigpbdjpaa.Ab
open Go.RowKit
set_option linter.unusedVariables false
set_option linter.unusedSimpArgs false

section
variable {C : Cx} {A A' : Nat → Prop} {φ φ' : List Hd} {H : List Reg} {w w' : World}

/-- The rows numbered hs: their places, what they held, what they hold behind the call. -/
structure Handed (φ : List Hd) (H : List Reg) (hs : List Nat) (hds : List Hd) (Rs Rs' : List Reg) : Prop where
  nd : hs.Nodup
  l1 : hds.length = hs.length
  l2 : Rs.length = hs.length
  l3 : Rs'.length = hs.length
  at_ : ∀ (i h : Nat), hs[i]? = some h → ∃ hd R R', hds[i]? = some hd ∧ φ[h]? = some hd ∧ Rs[i]? = some R ∧ H[h]? = some R ∧ R.mode = 0 ∧ Rs'[i]? = some R' ∧ R'.mode = 0 ∧ NoH R.cells ∧ NoH R'.cells

theorem InvA.joinMs (hA : InvA C A φ H w) {hs : List Nat} {hds : List Hd} {Rs Rs' : List Reg} {K H2 : List Reg} {ψ' : List Hd} (hh : Handed φ H hs hds Rs Rs') (hN : ∀ r ∈ K, NoH r.cells)
    (hset : ∀ (i h : Nat), hs[i]? = some h → H2[h]? = Rs'[i]?) (hkeep : ∀ x, x ∉ hs → H2[x]? = H[x]?) (hl2 : H2.length = H.length)
    (hK : HeapOk A' w' (hds ++ ψ') (Rs' ++ K)) (hA' : ∀ b, A' b → A b ∨ w.heap.size ≤ b) (hl : ∀ j b, LiveAt (hds ++ ψ') (Rs' ++ K) j b → w.heap.size ≤ b ∨ ∃ h ∈ hs, LiveAt φ H h b)
    (hoth : ∀ b, b < w.heap.size → (∀ h ∈ hs, ¬ LiveAt φ H h b) → w'.heap[b]? = w.heap[b]?) (hsz : w.heap.size ≤ w'.heap.size) (hos : w'.os = w.os) (htape : w'.tape = w.tape) (hout : w'.output = w.output) :
    InvA C (fun b => A b ∨ A' b) (φ ++ ψ') (H2 ++ K) w' := by
  have hlen := hA.ok.len
  have hφm : ∀ (i : Nat) (d : Hd), φ[i]? = some d → (φ ++ ψ')[i]? = some d := fun i d hh => app_left hh
  have hAm : ∀ b, A b → (A b ∨ A' b) ∧ w'.heap[b]? = w.heap[b]? := fun b hb => ⟨Or.inl hb, hoth b (hA.ok.low b hb) fun h _ hl => hA.ok.apart h b hl hb⟩
  have hψ : ψ'.length = K.length := by have := hK.len; rw [List.length_append, List.length_append, hh.l1, hh.l3] at this; omega
  -- a row of the new state
  have hsplit : ∀ (i : Nat) (d : Hd) (r : Reg), (φ ++ ψ')[i]? = some d → (H2 ++ K)[i]? = some r → (∃ x R, hs[x]? = some i ∧ hds[x]? = some d ∧ Rs'[x]? = some r ∧ φ[i]? = some d ∧ H[i]? = some R ∧ R.mode = 0 ∧ r.mode = 0 ∧ NoH r.cells) ∨ (i ∉ hs ∧ φ[i]? = some d ∧ H[i]? = some r) ∨ (∃ j, i = φ.length + j ∧ ψ'[j]? = some d ∧ K[j]? = some r) := fun i d r h1 h2 => by
    rcases Nat.lt_or_ge i φ.length with hlt | hge
    · rw [List.getElem?_append_left hlt] at h1
      rw [List.getElem?_append_left (by omega)] at h2
      by_cases hm : i ∈ hs
      · obtain ⟨x, hx⟩ := List.getElem?_of_mem hm
        obtain ⟨hd, R, R', q1, q2, q3, q4, q5, q6, q7, q8, q9⟩ := hh.at_ x i hx
        rw [hset x i hx, q6] at h2
        cases h2
        rw [q2] at h1
        cases h1
        exact Or.inl ⟨x, R, hx, q1, q6, q2, q4, q5, q7, q9⟩
      · rw [hkeep i hm] at h2
        exact Or.inr (Or.inl ⟨hm, h1, h2⟩)
    · rw [List.getElem?_append_right hge] at h1
      rw [List.getElem?_append_right (by omega), hl2, ← hlen] at h2
      exact Or.inr (Or.inr ⟨i - φ.length, by omega, h1, h2⟩)
  have hleft : ∀ {α : Type} (a b : List α) (j : Nat), (a ++ b)[a.length + j]? = b[j]? := fun a b j => by
    rw [List.getElem?_append_right (Nat.le_add_right _ _), Nat.add_sub_cancel_left]
  have hlive : ∀ i b, LiveAt (φ ++ ψ') (H2 ++ K) i b → (i ∈ hs ∧ LiveAt φ H i b) ∨ (i ∉ hs ∧ LiveAt φ H i b) ∨ (∃ j, i = φ.length + j ∧ LiveAt (hds ++ ψ') (Rs' ++ K) (hs.length + j) b) := by
    rintro i b ⟨d, r, h1, h2, h3, h4⟩
    rcases hsplit i d r h1 h2 with ⟨x, R, p1, p2, p3, p4, p5, p6, p7, p8⟩ | ⟨hne, p1, p2⟩ | ⟨j, p0, p1, p2⟩
    · exact Or.inl ⟨List.mem_of_getElem? p1, d, R, p4, p5, p6, h4⟩
    · exact Or.inr (Or.inl ⟨hne, d, r, p1, p2, h3, h4⟩)
    · exact Or.inr (Or.inr ⟨j, p0, d, r, by rw [← hh.l1, hleft]; exact p1, by rw [← hh.l3, hleft]; exact p2, h3, h4⟩)
  have hlow : ∀ i b, LiveAt φ H i b → b < w.heap.size := fun i b ⟨d, r, h1, h2, h3, h4⟩ => blk_of hA.ok h1 h2 (by omega) h4
  have hgive : ∀ h b, h ∈ hs → LiveAt φ H h b → ∃ x, x < hs.length ∧ LiveAt (hds ++ ψ') (Rs' ++ K) x b := fun h b hm ⟨d, r, h1, h2, h3, h4⟩ => by
    obtain ⟨x, hx⟩ := List.getElem?_of_mem hm
    obtain ⟨hd, R, R', q1, q2, q3, q4, q5, q6, q7, q8, q9⟩ := hh.at_ x h hx
    rw [q2] at h1
    cases h1
    exact ⟨x, (List.getElem?_eq_some_iff.1 hx).1, d, R', app_left q1, app_left q6, q7, h4⟩
  -- a new row holds a new block
  have hnew : ∀ j b, LiveAt (hds ++ ψ') (Rs' ++ K) (hs.length + j) b → w.heap.size ≤ b := fun j b hj => by
    rcases hl _ _ hj with h1 | ⟨h, hm, h1⟩
    · exact h1
    · obtain ⟨x, hx, h2⟩ := hgive h b hm h1
      have := hK.inj _ _ _ hj h2
      omega
  refine ⟨⟨by simp [hlen, hψ, hl2], fun i d r h1 h2 h3 => ?_, fun i i' b h1 h2 => ?_, fun i b h1 => ?_, fun i d r b h1 h2 h3 h4 => ?_, fun b hb => ?_⟩, fun b hb => ?_, fun i b h1 => ?_, ?_, fun i d hh => hφm i d (hA.pre i d hh)⟩
  · rcases hsplit i d r h1 h2 with ⟨x, R, p1, p2, p3, p4, p5, p6, p7, p8⟩ | ⟨hne, p1, p2⟩ | ⟨j, p0, p1, p2⟩
    · obtain ⟨e1, e2⟩ := hK.regs x d r (app_left p2) (app_left p3) h3
      refine ⟨e1, ?_⟩
      cases hk : d.blk with
      | none => rw [hk] at e2; exact e2
      | some b =>
        rw [hk] at e2
        obtain ⟨c, k1, k2, k3, k4⟩ := e2
        exact ⟨c, k1, k2, k3, Rels.mono (fun b hb => ⟨Or.inr hb, rfl⟩) (fun _ _ h => h) (rels_noH p8 k4)⟩
    · obtain ⟨e1, e2⟩ := hA.ok.regs i d r p1 p2 h3
      refine ⟨e1, ?_⟩
      cases hk : d.blk with
      | none => rw [hk] at e2; exact e2
      | some b =>
        rw [hk] at e2
        obtain ⟨c, k1, k2, k3, k4⟩ := e2
        have hnl : ∀ h ∈ hs, ¬ LiveAt φ H h b := fun h hm hl => by
          rcases Nat.lt_or_ge r.mode 1 with hm1 | hm1
          · have := hA.ok.inj _ _ _ ⟨d, r, p1, p2, by omega, hk⟩ hl
            exact hne (this ▸ hm)
          · exact hA.ok.apart h b hl (hA.ok.frz i d r b p1 p2 (by omega) hk)
        exact ⟨c, (hoth b (blk_of hA.ok p1 p2 h3 hk) hnl).trans k1, k2, k3, Rels.mono hAm hφm k4⟩
    · obtain ⟨e1, e2⟩ := hK.regs (hs.length + j) d r (by rw [← hh.l1, hleft]; exact p1) (by rw [← hh.l3, hleft]; exact p2) h3
      refine ⟨e1, ?_⟩
      cases hk : d.blk with
      | none => rw [hk] at e2; exact e2
      | some b =>
        rw [hk] at e2
        obtain ⟨c, k1, k2, k3, k4⟩ := e2
        exact ⟨c, k1, k2, k3, Rels.mono (fun b hb => ⟨Or.inr hb, rfl⟩) (fun _ _ h => h) (rels_noH (hN r (List.mem_of_getElem? p2)) k4)⟩
  · have old : ∀ i, (i ∈ hs ∧ LiveAt φ H i b) ∨ (i ∉ hs ∧ LiveAt φ H i b) → LiveAt φ H i b := fun i h => h.elim (·.2) (·.2)
    rcases hlive i b h1 with p | p | ⟨j, p1, q1⟩ <;> rcases hlive i' b h2 with p' | p' | ⟨j', p2, q2⟩
    · exact hA.ok.inj _ _ _ p.2 p'.2
    · exact hA.ok.inj _ _ _ p.2 p'.2
    · have := hlow _ _ p.2; have := hnew _ _ q2; omega
    · exact hA.ok.inj _ _ _ p.2 p'.2
    · exact hA.ok.inj _ _ _ p.2 p'.2
    · have := hlow _ _ p.2; have := hnew _ _ q2; omega
    · have := hlow _ _ p'.2; have := hnew _ _ q1; omega
    · have := hlow _ _ p'.2; have := hnew _ _ q1; omega
    · have := hK.inj _ _ _ q1 q2
      omega
  · have hA'no : ∀ b, b < w.heap.size → ¬ A b → ¬ A' b := fun b hb hn ha => by
      rcases hA' b ha with h | h
      · exact hn h
      · omega
    have hold : LiveAt φ H i b → ¬ (A b ∨ A' b) := fun q1 hb => by
      rcases hb with hb | hb
      · exact hA.ok.apart _ _ q1 hb
      · exact hA'no b (hlow _ _ q1) (hA.ok.apart _ _ q1) hb
    rcases hlive i b h1 with ⟨p1, q1⟩ | ⟨p1, q1⟩ | ⟨j, p1, q1⟩
    · exact hold q1
    · exact hold q1
    · rintro (hb | hb)
      · have := hA.ok.low b hb
        have := hnew _ _ q1
        omega
      · exact hK.apart _ _ q1 hb
  · rcases hsplit i d r h1 h2 with ⟨x, R, p1, p2, p3, p4, p5, p6, p7, p8⟩ | ⟨hne, p1, p2⟩ | ⟨j, p0, p1, p2⟩
    · omega
    · exact Or.inl (hA.ok.frz i d r b p1 p2 h3 h4)
    · exact Or.inr (hK.frz (hs.length + j) d r b (by rw [← hh.l1, hleft]; exact p1) (by rw [← hh.l3, hleft]; exact p2) h3 h4)
  · rcases hb with hb | hb
    · exact Nat.lt_of_lt_of_le (hA.ok.low b hb) hsz
    · exact hK.low b hb
  · rcases hb with hb | hb
    · exact hA.old b hb
    · rcases hA' b hb with hb | hb
      · exact hA.old b hb
      · exact Or.inr (Nat.le_trans hA.frame.size hb)
  · rcases hlive i b h1 with ⟨p1, q1⟩ | ⟨p1, q1⟩ | ⟨j, p1, q1⟩
    · exact hA.own _ _ q1
    · exact hA.own _ _ q1
    · exact Or.inl (Nat.le_trans hA.frame.size (hnew _ _ q1))
  · obtain ⟨f1, f2, f3, f4, f5⟩ := hA.frame
    refine ⟨hos.trans f1, htape.trans f2, hout.trans f3, Nat.le_trans f4 hsz, fun i hi hno => ?_⟩
    rw [← f5 i hi hno]
    refine hoth i (Nat.lt_of_lt_of_le hi f4) fun h hm hl => ?_
    rcases hA.own h i hl with h1 | ⟨h9, h1⟩
    · omega
    · exact hno h9 h1
end

section
variable {P : Program} {o : Oper} {ρ : Operand → V} {H : List Reg}

mutual
/-- How arguments are handed on: rows of the list hs as rows of the callee's own, by their place in the list. -/
inductive PasS (hs : List Nat) : V → V → Prop where
  | same {v : V} (h : noH v = true) : PasS hs v v
  | sl {i h off m : Nat} (h1 : hs[i]? = some h) : PasS hs (.sl h off m) (.sl i off m)
  | ptr {i h off : Nat} (h1 : hs[i]? = some h) : PasS hs (.ptr h off) (.ptr i off)
  | agg {cs ds : List V} (h : PassS hs cs ds) : PasS hs (.agg cs) (.agg ds)
inductive PassS (hs : List Nat) : List V → List V → Prop where
  | nil : PassS hs [] []
  | cons {c d : V} {cs ds : List V} (h : PasS hs c d) (ht : PassS hs cs ds) : PassS hs (c :: cs) (d :: ds)
end

theorem PassS.length {hs : List Nat} : ∀ {cs ds : List V}, PassS hs cs ds → cs.length = ds.length
  | [], _, h => by cases h; rfl
  | c :: cs, _, h => by cases h with | cons h ht => simp [PassS.length ht]

section
variable {A : Nat → Prop} {w : World} {φ hds : List Hd} {hs : List Nat}
mutual
theorem PasS.rel (hg : ∀ (i h : Nat), hs[i]? = some h → ∀ hd, φ[h]? = some hd → hds[i]? = some hd) : ∀ {v v' : V} {x : Value}, PasS hs v v' → Rel A w φ v x → Rel A w hds v' x
  | v, _, x, .same h, hr => rel_noH h hr
  | _, _, x, .sl h1, hr => by
    rw [Rel] at hr ⊢
    obtain ⟨hd, h2, h3⟩ := hr
    exact ⟨hd, hg _ _ h1 _ h2, h3⟩
  | _, _, x, .ptr h1, hr => by
    rw [Rel] at hr ⊢
    obtain ⟨hd, b, h2, h3⟩ := hr
    exact ⟨hd, b, hg _ _ h1 _ h2, h3⟩
  | .agg cs, .agg ds, x, .agg h, hr => by
    rw [Rel] at hr ⊢
    obtain ⟨xs, e1, e2, h2⟩ := hr
    exact ⟨xs, e1, e2.trans (PassS.length h), PassS.rels hg h h2⟩
theorem PassS.rels (hg : ∀ (i h : Nat), hs[i]? = some h → ∀ hd, φ[h]? = some hd → hds[i]? = some hd) : ∀ {cs ds : List V} {g : Nat → Option Value}, PassS hs cs ds → Rels A w φ cs g → Rels A w hds ds g
  | [], _, g, .nil, hr => by simp only [Rels]
  | c :: cs, _, g, .cons h ht, hr => by
    rw [Rels] at hr ⊢
    obtain ⟨⟨y, h1, h2⟩, h3⟩ := hr
    exact ⟨⟨y, h1, PasS.rel hg h h2⟩, PassS.rels hg ht h3⟩
end
end

/-- The rows hs, as they lie in H, and what they hold behind the call. -/
inductive Give (H : List Reg) : List Nat → List Reg → List Reg → Prop where
  | nil : Give H [] [] []
  | cons {h : Nat} {R R' : Reg} {hs : List Nat} {Rs Rs' : List Reg} (hH : H[h]? = some R) (hm : R.mode = 0) (hm' : R'.mode = 0) (hN : NoH R.cells) (hN' : NoH R'.cells) (ht : Give H hs Rs Rs') : Give H (h :: hs) (R :: Rs) (R' :: Rs')

theorem Give.spec : ∀ {hs : List Nat} {Rs Rs' : List Reg}, Give H hs Rs Rs' → Rs.length = hs.length ∧ Rs'.length = hs.length ∧ ∀ (i h : Nat), hs[i]? = some h → ∃ R R', Rs[i]? = some R ∧ H[h]? = some R ∧ R.mode = 0 ∧ Rs'[i]? = some R' ∧ R'.mode = 0 ∧ NoH R.cells ∧ NoH R'.cells
  | _, _, _, .nil => ⟨rfl, rfl, fun i h hi => by simp at hi⟩
  | _, _, _, .cons hH hm hm' hN hN' ht => by
    obtain ⟨e1, e2, e3⟩ := ht.spec
    refine ⟨by simp [e1], by simp [e2], fun i h hi => ?_⟩
    cases i with
    | zero =>
      simp at hi
      subst hi
      exact ⟨_, _, rfl, hH, hm, rfl, hm', hN, hN'⟩
    | succ i =>
      simp only [List.getElem?_cons_succ] at hi ⊢
      exact e3 i h hi

def setAll (H : List Reg) : List Nat → List Reg → List Reg
  | h :: hs, R :: Rs => (setAll H hs Rs).set h R
  | _, _ => H
theorem setAll_length (H : List Reg) : ∀ (hs : List Nat) (Rs : List Reg), (setAll H hs Rs).length = H.length
  | h :: hs, R :: Rs => by rw [setAll, List.length_set, setAll_length H hs Rs]
  | [], _ => by rw [setAll]; simp
  | _ :: _, [] => by rw [setAll]; simp
theorem setAll_keep (H : List Reg) : ∀ (hs : List Nat) (Rs : List Reg) (x : Nat), x ∉ hs → (setAll H hs Rs)[x]? = H[x]?
  | h :: hs, R :: Rs, x, hx => by
    rw [setAll, List.getElem?_set_ne (by rintro rfl; exact hx (List.mem_cons_self ..)), setAll_keep H hs Rs x fun hm => hx (List.mem_cons_of_mem _ hm)]
  | [], _, _, _ => by rw [setAll]; simp
  | _ :: _, [], _, _ => by rw [setAll]; simp
theorem setAll_at (H : List Reg) : ∀ (hs : List Nat) (Rs : List Reg), hs.Nodup → Rs.length = hs.length → (∀ h ∈ hs, h < H.length) → ∀ (i h : Nat), hs[i]? = some h → (setAll H hs Rs)[h]? = Rs[i]?
  | [], _, _, _, _, i, h, hi => by simp at hi
  | _ :: _, [], _, hl, _, i, h, hi => by simp at hl
  | g :: hs, R :: Rs, hn, hl, hlt, i, h, hi => by
    rw [setAll]
    cases i with
    | zero =>
      simp at hi
      subst hi
      rw [List.getElem?_set_self (by rw [setAll_length]; exact hlt g (List.mem_cons_self ..))]
      rfl
    | succ i =>
      simp only [List.getElem?_cons_succ] at hi ⊢
      have hne : g ≠ h := by
        rintro rfl
        exact (List.nodup_cons.1 hn).1 (List.mem_of_getElem? hi)
      rw [List.getElem?_set_ne hne]
      exact setAll_at H hs Rs (List.nodup_cons.1 hn).2 (by simpa using hl) (fun x hx => hlt x (List.mem_cons_of_mem _ hx)) i h hi

/-- A call that is handed the rows hs to write; what it hands back bears no memory of the walk's own. -/
theorem step_callMs {f : FuncId} {args : List Operand} {ats : Array TypeId} {cargs : List V} {r : V} {Rs Rs' : List Reg} {K : List Reg} (hs : List Nat) (hnd : hs.Nodup) [he : Ent P f] (ho : o.op = .call { callee := .value (.func f), args := args.toArray, argTypes := ats })
    (hm : Meets P f cargs Rs r (Rs' ++ K) true) (hg : Give H hs Rs Rs') (hargs : PassS hs (args.map ρ) cargs) (hN : ∀ r ∈ K, NoH r.cells) (hr : noH r = true) : Step P o ρ H r (setAll H hs Rs' ++ K) := by
  intro S hS hρ C φ a w hI next Q hn
  obtain ⟨hm2, ⟨A, hA, hrr⟩, hsz, hd0⟩ := hI
  subst hS
  obtain ⟨g1, g2, g3⟩ := hg.spec
  have hargr : Rels A w φ (args.map ρ) (fun i => (args.map a.eval).toArray[i]?) := rels_map fun x hx => by
    rw [← hρ x (by rw [ho]; simp only [Op.operands, Call.operands]; simp [hx])]
    exact ev_rel hrr x
  have hlt : ∀ (i h : Nat), hs[i]? = some h → h < S.H.length := fun i h hi => by
    obtain ⟨R, R', _, q, _⟩ := g3 i h hi
    exact (List.getElem?_eq_some_iff.1 q).1
  let hds : List Hd := hs.map fun h => φ.getD h ⟨none, 0, 0, 0⟩
  have hget : ∀ (i h : Nat), hs[i]? = some h → ∃ hd, φ[h]? = some hd ∧ hds[i]? = some hd := fun i h hi => by
    have h1 : h < φ.length := by rw [hA.ok.len]; exact hlt i h hi
    refine ⟨φ[h], List.getElem?_eq_getElem h1, ?_⟩
    simp only [hds, List.getElem?_map, hi, Option.map_some, List.getD, List.getElem?_eq_getElem h1, Option.getD_some]
  have hback : ∀ (i : Nat) (d : Hd), hds[i]? = some d → ∃ h, hs[i]? = some h ∧ φ[h]? = some d := fun i d hi => by
    cases hx : hs[i]? with
    | none =>
      have : hds[i]? = none := by simp [hds, hx]
      rw [this] at hi
      cases hi
    | some h =>
      obtain ⟨hd, q1, q2⟩ := hget i h hx
      rw [q2] at hi
      cases hi
      exact ⟨h, rfl, q1⟩
  have hH : Handed φ S.H hs hds Rs Rs' := ⟨hnd, by simp [hds], g1, g2, fun i h hi => by
    obtain ⟨R, R', q1, q2, q3, q4, q5, q6, q7⟩ := g3 i h hi
    obtain ⟨hd, p1, p2⟩ := hget i h hi
    exact ⟨hd, R, R', p2, p1, q1, q2, q3, q4, q5, q6, q7⟩⟩
  have hli : ∀ j b, LiveAt hds Rs j b → ∃ h, hs[j]? = some h ∧ LiveAt φ S.H h b := fun j b ⟨d, r', q1, q2, q3, q4⟩ => by
    obtain ⟨h, p1, p2⟩ := hback j d q1
    obtain ⟨R, R', e1, e2, _⟩ := g3 j h p1
    rw [e1] at q2
    cases q2
    exact ⟨h, p1, d, r', p2, e2, q3, q4⟩
  have hok1 : HeapOk A w hds Rs := by
    refine ⟨by simp [hds, g1], fun j d r' q1 q2 q3 => ?_, fun j j' b q1 q2 => ?_, fun j b q1 => ?_, fun j d r' b q1 q2 q3 q4 => ?_, hA.ok.low⟩
    · obtain ⟨h, p1, p2⟩ := hback j d q1
      obtain ⟨R, R', e1, e2, e3, e4, e5, e6, e7⟩ := g3 j h p1
      rw [e1] at q2
      cases q2
      obtain ⟨f1, f2⟩ := hA.ok.regs h d r' p2 e2 q3
      refine ⟨f1, ?_⟩
      cases hk : d.blk with
      | none => rw [hk] at f2; exact f2
      | some b =>
        rw [hk] at f2
        obtain ⟨c, k1, k2, k3, k4⟩ := f2
        exact ⟨c, k1, k2, k3, rels_noH e6 k4⟩
    · obtain ⟨h, p1, p2⟩ := hli j b q1
      obtain ⟨h', p1', p2'⟩ := hli j' b q2
      have := hA.ok.inj _ _ _ p2 p2'
      subst this
      exact (List.getElem?_inj (List.getElem?_eq_some_iff.1 p1).1 hnd).1 (p1.trans p1'.symm)
    · obtain ⟨h, p1, p2⟩ := hli j b q1
      exact hA.ok.apart _ _ p2
    · obtain ⟨h, p1, p2⟩ := hback j d q1
      obtain ⟨R, R', e1, e2, e3, _⟩ := g3 j h p1
      rw [e1] at q2
      cases q2
      omega
  have hcall := hm A hds w (args.map a.eval).toArray hok1 (PassS.rels (fun i h hi hd hhd => by
    obtain ⟨hd', p1, p2⟩ := hget i h hi
    rw [hhd] at p1
    cases p1
    exact p2) hargs hargr) (by simp [← PassS.length hargs])
  unfold Oper.wp
  rw [run_call ho, Oper.upon_enter]
  refine hcall.mono ?_
  rintro e w' ⟨x, φ', A', rfl, k1, k2, k3, k4, k5, k6⟩
  obtain ⟨ψ', rfl⟩ : ∃ ψ', φ' = hds ++ ψ' := by
    refine ⟨φ'.drop hds.length, ?_⟩
    refine List.ext_getElem? fun i => ?_
    rcases Nat.lt_or_ge i hds.length with hi | hi
    · rw [List.getElem?_append_left hi, k6 i _ (List.getElem?_eq_getElem hi), List.getElem?_eq_getElem hi]
    · rw [List.getElem?_append_right hi, List.getElem?_drop, Nat.add_sub_cancel' hi]
  have hno : ∀ b, (∀ h ∈ hs, ¬ LiveAt φ S.H h b) → ∀ j, ¬ LiveAt hds Rs j b := fun b hn j hl => by
    obtain ⟨h, p1, p2⟩ := hli j b hl
    exact hn h (List.mem_of_getElem? p1) p2
  have hJ := hA.joinMs (H2 := setAll S.H hs Rs') hH hN (fun i h hi => setAll_at S.H hs Rs' hnd g2 (fun x hx => by obtain ⟨i, hi⟩ := List.getElem?_of_mem hx; exact hlt i x hi) i h hi) (fun x hx => setAll_keep S.H hs Rs' x hx) (setAll_length S.H hs Rs')
    k1 (fun b hb => (k3 b hb).imp (fun h => h.2) id) (fun j b hl => (k4 j b hl).imp id fun ⟨j0, h⟩ => by obtain ⟨g, p1, p2⟩ := hli j0 b h; exact ⟨g, List.mem_of_getElem? p1, p2⟩) (fun b hb hn => k5.block b hb (hno b hn)) k5.size k5.os k5.tape k5.output
  have hr' : Rels (fun b => A b ∨ A' b) w' (φ ++ ψ') S.tmps (fun i => a.tmps[i]?) := Rels.mono (fun b hb => ⟨Or.inl hb, k5.block b (hA.ok.low b hb) (hno b fun h hm hl => hA.ok.apart h b hl hb)⟩) (fun h hd hh => app_left hh) hrr
  have hx : Rel (fun b => A b ∨ A' b) w' (φ ++ ψ') r x := rel_noH hr (Rel.mono (fun b hb => ⟨Or.inr hb, rfl⟩) (fun _ _ h => h) k2)
  obtain ⟨h7, h8⟩ := put_rel (H := setAll S.H hs Rs' ++ K) hsz hr' hx o.dst
  refine hn x w' (φ ++ ψ') ⟨by cases o.dst <;> exact hm2, ⟨_, ?_, h7⟩, h8, by cases o.dst <;> exact hd0⟩
  rw [put_H]
  exact hJ
end

section
variable {P : Program} {l : List V} {H : List Reg}

/-- What is handed back as rows of one's own is handed back as what is only read, too. -/
theorem Meets.frozen {f : FuncId} {cargs : List V} {r r' : V} {K : List Reg} {al : Bool} (h : Meets P f cargs [] r K al) (hp : Pur true K r r') : Meets P f cargs [] r' [] true := by
  intro A φ w xs hok hrel hsz
  refine (h A φ w xs hok hrel hsz).mono ?_
  rintro e w' ⟨x, φ', A', rfl, k1, k2, k3, k4, k5, k6⟩
  have hφ : φ = [] := List.length_eq_zero_iff.1 hok.len
  refine ⟨x, [], fun b => A' b ∨ ∃ h, LiveAt φ' K h b, rfl, ⟨rfl, fun h hd r h1 => by simp at h1, fun h h' b ⟨hd, r, h1, _⟩ => by simp at h1, fun h b ⟨hd, r, h1, _⟩ => by simp at h1, fun h hd r b h1 => by simp at h1, fun b hb => ?_⟩,
    Pur.rel k1 (fun b hb => Or.inl hb) (fun _ h b hb => Or.inr ⟨h, hb⟩) hp k2, fun b hb => ?_, fun h b ⟨hd, r, h1, _⟩ => by simp at h1, k5, fun h hd h1 => by rw [hφ] at h1; simp at h1⟩
  · rcases hb with hb | ⟨h, hd, r, q1, q2, q3, q4⟩
    · exact k1.low b hb
    · exact blk_of k1 q1 q2 (by omega) q4
  · rcases hb with hb | ⟨h, hb⟩
    · exact (k3 b hb).imp (fun h => ⟨rfl, h.2⟩) id
    · rcases k4 h b hb with h1 | ⟨h9, hd, r, p1, _⟩
      · exact Or.inr h1
      · rw [hφ] at p1
        simp at p1

/-- The nil slice, handed back as a row of one's own. -/
theorem finNil {t : Tmp} {e : TypeId} {n : Nat} {al : Bool} (hv : evO l (.tmp t) = some (.k (.slice none 0 0))) : (Exit.ret = .ret ∨ Exit.ret = .normal) ∧ Out al (.sl 0 0 0) [⟨e, n, [], 0⟩] (resV ⟨l, H, 0⟩ [t]) ⟨l, H, 0⟩ := by
  have : resV ⟨l, H, 0⟩ [t] = .k (.slice none 0 0) := ev_of (H := H) (m := 0) (x := .tmp t) hv
  rw [this]
  refine ⟨Or.inl rfl, fun C A φ w x hm hA hx => ?_⟩
  have h0 : C.φ0 = [] := List.length_eq_zero_iff.1 hm
  have hno : ∀ h b, ¬ LiveAt [⟨none, 0, n, e⟩] [⟨e, n, [], 0⟩] h b := fun h b ⟨hd, r, q1, q2, q3, q4⟩ => by
    cases h with
    | zero => simp at q1; subst q1; simp at q4
    | succ h => simp at q1
  refine ⟨[⟨none, 0, n, e⟩], fun _ => False, ⟨rfl, fun h hd r q1 q2 q3 => ?_, fun h h' b q1 => absurd q1 (hno h b), fun h b q1 => absurd q1 (hno h b), fun h hd r b q1 q2 q3 q4 => ?_, fun b hb => hb.elim⟩, ?_, fun b hb => hb.elim, fun h b q1 => absurd q1 (hno h b), fun h hd q1 => by rw [h0] at q1; simp at q1⟩
  · cases h with
    | zero =>
      simp at q1 q2
      subst q1
      subst q2
      exact ⟨⟨rfl, rfl, Nat.zero_le _⟩, rfl, rfl⟩
    | succ h => simp at q1
  · cases h with
    | zero => simp at q1; subst q1; simp at q4
    | succ h => simp at q1
  · simp only [Rel] at hx ⊢
    subst hx
    exact ⟨_, rfl, Or.inl ⟨rfl, Nat.le_refl _⟩⟩

/-- Handed back beside rows of one's own (k of them were handed over). -/
theorem finM {t : Tmp} {v r : V} {K : List Reg} (k : Nat) (ψ : List Nat) (hfix : ∀ i, i < k → ψ[i]? = some i) (hnd : ψ.Nodup) (hv : evO l (.tmp t) = some v) (hr : Le ψ r v) (hH : HLes ψ H ψ K) :
    (Exit.ret = .ret ∨ Exit.ret = .normal) ∧ Out true r K (resV ⟨l, H, k⟩ [t]) ⟨l, H, k⟩ := by
  have : resV ⟨l, H, k⟩ [t] = v := ev_of (H := H) (m := k) (x := .tmp t) hv
  rw [this]
  exact ⟨Or.inl rfl, out_of ψ hfix (hle_of hnd hH) hr (Or.inl rfl)⟩
theorem finMC {t : Tmp} {n : Nat} {v r : V} {K : List Reg} (ψ : List Nat) (hnd : ψ.Nodup) (hv : CellIs l H t n v) (hr : Le ψ r v) (hH : HLes ψ H ψ K) :
    (Exit.ret = .ret ∨ Exit.ret = .normal) ∧ ∃ v, CellIs l H t n v ∧ Out true r K v ⟨l, H, 0⟩ := ⟨Or.inl rfl, v, hv, out_of (S := ⟨l, H, 0⟩) ψ (fun i hi => absurd hi (Nat.not_lt_zero _)) (hle_of hnd hH) hr (Or.inl rfl)⟩

theorem fix1 {ψ : List Nat} : ∀ i, i < 1 → (0 :: ψ)[i]? = some i := fun i hi => by
  obtain rfl : i = 0 := by omega
  rfl
theorem fix2 {ψ : List Nat} : ∀ i, i < 2 → (0 :: 1 :: ψ)[i]? = some i := fun i hi => by
  match i with
  | 0 => rfl
  | 1 => rfl
theorem subm {T S : St} (k : Nat) (ψ : List Nat) (hm : T.m = k) (hm' : S.m = k) (hfix : ∀ i, i < k → ψ[i]? = some i) (hn : ψ.Nodup) (hH : HLes ψ S.H ψ T.H) (ht : Les ψ T.tmps S.tmps) : Sub T S := sub_of ψ (hm.trans hm'.symm) (fun i hi => hfix i (by omega)) (hle_of hn hH) ht

/-- A call that hands back rows. -/
theorem st_callK {o : Oper} {ρ : Operand → V} {K H' : List Reg} {f : FuncId} {args : List Operand} {ats : Array TypeId} {cargs : List V} {r r' : V} {al : Bool} [he : Ent P f] (ho : o.op = .call { callee := .value (.func f), args := args.toArray, argTypes := ats })
    (hm : Meets P f cargs [] r K al) (hargs : Purs (!al) H (args.map ρ) cargs) (hN : ∀ r ∈ K, NoH r.cells) (hr : shV H.length r = r') (hH : H ++ K = H') : Step P o ρ H r' H' := by
  subst hr hH
  exact step_call ho hm hargs hN

/-- An element of a list of the walk's own, one field of it set. -/
theorem set_f {α : Type} {o : Oper} {ρ : Operand → V} {K : List Reg} {T : Ty α} {t e h i off : Nat} {x y : Operand} {xs : List α} {z z' : α} {v : V} [ht : Sc P t] (ho : o.op = .store t x y) (hx : ρ x = .ptr h (i * T.n + off)) (hy : ρ y = v) (h1 : oneV v = true) (hoff : off < T.n) (hH : K[h]? = some (regOf T e xs)) (hz : xs[i]? = some z) (hz' : T.enc z' = (T.enc z).set off v) :
    Step P o ρ K (.k undef) (K.set h (regOf T e (xs.set i z'))) := by
  have hi : i < xs.length := (List.getElem?_eq_some_iff.1 hz).1
  have hl : i * T.n + T.n ≤ (T.flat xs).length := by rw [flat_length, ← Nat.succ_mul]; exact Nat.mul_le_mul_right _ hi
  have := step_store (P := P) (ρ := ρ) (H := K) ho hx hy h1 hH rfl (by show _ < (T.flat xs).length; omega)
  have e1 := flat_set T (x := z') hi
  show Step P o ρ K (.k undef) (K.set h ⟨e, T.n, T.flat (xs.set i z'), 0⟩)
  rw [← e1]
  have e2 : setCells (T.flat xs) (i * T.n) (T.enc z') = (T.flat xs).set (i * T.n + off) v := by
    rw [hz']
    have hd := flat_at T hz
    have hlz := T.len z
    refine List.ext_getElem? fun j => ?_
    unfold setCells
    simp only [List.length_set, hlz]
    have hw : ∀ q, q < T.n → (T.flat xs)[i * T.n + q]? = (T.enc z)[q]? := fun q hq => by
      rw [← List.getElem?_drop, hd, List.getElem?_append_left (by omega)]
    rcases Nat.lt_or_ge j (i * T.n) with hj | hj
    · rw [List.append_assoc, List.getElem?_append_left (by rw [List.length_take]; omega), List.getElem?_take_of_lt hj, List.getElem?_set_ne (by omega)]
    · rw [List.append_assoc, List.getElem?_append_right (by rw [List.length_take]; omega), List.length_take, Nat.min_eq_left (by omega)]
      rcases Nat.lt_or_ge (j - i * T.n) T.n with hj2 | hj2
      · rw [List.getElem?_append_left (by rw [List.length_set]; omega)]
        by_cases hq : off = j - i * T.n
        · subst hq
          rw [List.getElem?_set_self (by omega), show i * T.n + (j - i * T.n) = j by omega, List.getElem?_set_self (by omega)]
        · rw [List.getElem?_set_ne hq, List.getElem?_set_ne (by omega), ← hw _ hj2, show i * T.n + (j - i * T.n) = j by omega]
      · rw [List.getElem?_append_right (by rw [List.length_set]; omega), List.length_set, hlz, List.getElem?_drop, List.getElem?_set_ne (by omega), show i * T.n + T.n + (j - i * T.n - T.n) = j by omega]
  rw [e2]
  exact this
end
end Go.Proofs.Ytkcicbigpbdjpaa.Ab
