/-
  CALLS THAT ARE HANDED ROWS, IN GENERAL: the rows may bear one another, what is handed back may bear them.
-/
import Derived.Test.YtkcicbigpbdjpaaAb0
namespace Go.Proofs.Ytkcicbigpbdjpaa.Ab
open Go.RowKit
set_option linter.unusedVariables false
set_option linter.unusedSimpArgs false

/-- The caller's number of the callee's row i. -/
def bkI (hs : List Nat) (n i : Nat) : Nat := (hs[i]?).getD (n + (i - hs.length))

mutual
/-- What the callee says, in the caller's numbers. -/
inductive Bk (hs : List Nat) (n : Nat) : V → V → Prop where
  | same {v : V} (h : noH v = true) : Bk hs n v v
  | sl {i h off m : Nat} (h1 : bkI hs n i = h) : Bk hs n (.sl i off m) (.sl h off m)
  | ptr {i h off : Nat} (h1 : bkI hs n i = h) : Bk hs n (.ptr i off) (.ptr h off)
  | agg {cs ds : List V} (h : BkS hs n cs ds) : Bk hs n (.agg cs) (.agg ds)
  | tup {cs ds : List V} (h : BkS hs n cs ds) : Bk hs n (.tup cs) (.tup ds)
inductive BkS (hs : List Nat) (n : Nat) : List V → List V → Prop where
  | rest {cs : List V} (h : NoH cs) : BkS hs n cs cs
  | cons {c d : V} {cs ds : List V} (h : Bk hs n c d) (ht : BkS hs n cs ds) : BkS hs n (c :: cs) (d :: ds)
end
theorem BkS.nil {hs : List Nat} {n : Nat} : BkS hs n [] [] := .rest fun c hc => by cases hc
theorem BkS.length {hs : List Nat} {n : Nat} : ∀ {cs ds : List V}, BkS hs n cs ds → ds.length = cs.length
  | _, _, .rest _ => rfl
  | _, _, .cons h ht => by simp [BkS.length ht]
theorem BkS.map {α : Type} {hs : List Nat} {n : Nat} {f g : α → V} : ∀ (l : List α), (∀ x ∈ l, Bk hs n (f x) (g x)) → BkS hs n (l.map f) (l.map g)
  | [], _ => .nil
  | x :: l, h => .cons (h x (List.mem_cons_self ..)) (BkS.map l fun y hy => h y (List.mem_cons_of_mem _ hy))

section
variable {A : Nat → Prop} {w : World} {φ φ' : List Hd} {hs : List Nat} {n : Nat}
mutual
theorem Bk.rel (hg : ∀ (i : Nat) hd, φ'[i]? = some hd → φ[bkI hs n i]? = some hd) : ∀ {v v' : V} {x : Value}, Bk hs n v v' → Rel A w φ' v x → Rel A w φ v' x
  | v, _, x, .same h, hr => rel_noH h hr
  | _, _, x, .sl h1, hr => by
    rw [Rel] at hr ⊢
    obtain ⟨hd, h2, h3⟩ := hr
    exact ⟨hd, h1 ▸ hg _ _ h2, h3⟩
  | _, _, x, .ptr h1, hr => by
    rw [Rel] at hr ⊢
    obtain ⟨hd, b, h2, h3⟩ := hr
    exact ⟨hd, b, h1 ▸ hg _ _ h2, h3⟩
  | .agg cs, .agg ds, x, .agg h, hr => by
    rw [Rel] at hr ⊢
    obtain ⟨xs, e1, e2, h2⟩ := hr
    exact ⟨xs, e1, e2.trans (BkS.length h).symm, BkS.rels hg h h2⟩
  | .tup cs, .tup ds, x, .tup h, hr => by
    rw [Rel] at hr ⊢
    obtain ⟨xs, e1, e2, h2⟩ := hr
    exact ⟨xs, e1, e2.trans (BkS.length h).symm, BkS.rels hg h h2⟩
theorem BkS.rels (hg : ∀ (i : Nat) hd, φ'[i]? = some hd → φ[bkI hs n i]? = some hd) : ∀ {cs ds : List V} {g : Nat → Option Value}, BkS hs n cs ds → Rels A w φ' cs g → Rels A w φ ds g
  | _, _, g, .rest h, hr => rels_noH h hr
  | c :: cs, _, g, .cons h ht, hr => by
    rw [Rels] at hr ⊢
    obtain ⟨⟨y, h1, h2⟩, h3⟩ := hr
    exact ⟨⟨y, h1, Bk.rel hg h h2⟩, BkS.rels hg ht h3⟩
end
end

theorem passS_noH {hs : List Nat} : ∀ {cs : List V}, NoH cs → PassS hs cs cs
  | [], _ => .nil
  | c :: cs, h => .cons (.same (h c (List.mem_cons_self ..))) (passS_noH fun d hd => h d (List.mem_cons_of_mem _ hd))
theorem passS_map {α : Type} {hs : List Nat} {f g : α → V} : ∀ (l : List α), (∀ x ∈ l, PasS hs (f x) (g x)) → PassS hs (l.map f) (l.map g)
  | [], _ => .nil
  | x :: l, h => .cons (h x (List.mem_cons_self ..)) (passS_map l fun y hy => h y (List.mem_cons_of_mem _ hy))

/-- The rows of a list, in the caller's numbers. -/
inductive BkR (hs : List Nat) (n : Nat) : List Reg → List Reg → Prop where
  | nil : BkR hs n [] []
  | cons {R : Reg} {cs : List V} {K K2 : List Reg} (h : BkS hs n R.cells cs) (ht : BkR hs n K K2) : BkR hs n (R :: K) ({ R with cells := cs } :: K2)
theorem BkR.get {hs : List Nat} {n : Nat} : ∀ {K K2 : List Reg}, BkR hs n K K2 → K2.length = K.length ∧ ∀ (i : Nat) (r : Reg), K2[i]? = some r → ∃ R, K[i]? = some R ∧ r.mode = R.mode ∧ r.esz = R.esz ∧ r.e = R.e ∧ BkS hs n R.cells r.cells
  | _, _, .nil => ⟨rfl, fun i r h => by simp at h⟩
  | _, _, .cons h ht => by
    obtain ⟨e1, e2⟩ := ht.get
    refine ⟨by simp [e1], fun i r hi => ?_⟩
    cases i with
    | zero => simp at hi; subst hi; exact ⟨_, rfl, rfl, rfl, rfl, h⟩
    | succ i => simp only [List.getElem?_cons_succ] at hi ⊢; exact e2 i r hi
theorem BkR.ofN {hs : List Nat} {n : Nat} : ∀ {K : List Reg}, (∀ r ∈ K, NoH r.cells) → BkR hs n K K
  | [], _ => .nil
  | r :: K, h => .cons (cs := r.cells) (.rest (h r (List.mem_cons_self ..))) (BkR.ofN fun q hq => h q (List.mem_cons_of_mem _ hq))

/-- The rows hs as they lie in H; as the callee sees them; as it leaves them; as the caller finds them. -/
inductive GiveN (H : List Reg) (hs0 : List Nat) (n : Nat) : List Nat → List Reg → List Reg → List Reg → Prop where
  | nil : GiveN H hs0 n [] [] [] []
  | cons {h : Nat} {R0 R' : Reg} {cs cs2 : List V} {hs : List Nat} {Rs Rs' R2 : List Reg} (hH : H[h]? = some R0) (hm : R0.mode = 0) (hp : PassS hs0 R0.cells cs) (hm' : R'.mode ≠ 1) (hb : BkS hs0 n R'.cells cs2) (ht : GiveN H hs0 n hs Rs Rs' R2) :
      GiveN H hs0 n (h :: hs) ({ R0 with cells := cs } :: Rs) (R' :: Rs') ({ R' with cells := cs2 } :: R2)
theorem GiveN.spec {H : List Reg} {hs0 : List Nat} {n : Nat} : ∀ {hs : List Nat} {Rs Rs' R2 : List Reg}, GiveN H hs0 n hs Rs Rs' R2 → Rs.length = hs.length ∧ Rs'.length = hs.length ∧ R2.length = hs.length ∧ ∀ (i h : Nat), hs[i]? = some h →
    ∃ R0 R R' RR, H[h]? = some R0 ∧ R0.mode = 0 ∧ Rs[i]? = some R ∧ R.mode = 0 ∧ R.esz = R0.esz ∧ R.e = R0.e ∧ PassS hs0 R0.cells R.cells ∧ Rs'[i]? = some R' ∧ R'.mode ≠ 1 ∧ R2[i]? = some RR ∧ RR.mode = R'.mode ∧ RR.esz = R'.esz ∧ RR.e = R'.e ∧ BkS hs0 n R'.cells RR.cells
  | _, _, _, _, .nil => ⟨rfl, rfl, rfl, fun i h hi => by simp at hi⟩
  | _, _, _, _, .cons hH hm hp hm' hb ht => by
    obtain ⟨e1, e2, e3, e4⟩ := ht.spec
    refine ⟨by simp [e1], by simp [e2], by simp [e3], fun i h hi => ?_⟩
    cases i with
    | zero =>
      simp at hi
      subst hi
      exact ⟨_, _, _, _, hH, hm, rfl, hm, rfl, rfl, hp, rfl, hm', rfl, rfl, rfl, rfl, hb⟩
    | succ i =>
      simp only [List.getElem?_cons_succ] at hi ⊢
      exact e4 i h hi

section
variable {P : Program} {o : Oper} {ρ : Operand → V} {H : List Reg}

theorem step_callN {f : FuncId} {args : List Operand} {ats : Array TypeId} {cargs : List V} {r r2 : V} {Rs Rs' R2 K K2 : List Reg} {al : Bool} (hs : List Nat) (hnd : hs.Nodup) [he : Ent P f] (ho : o.op = .call { callee := .value (.func f), args := args.toArray, argTypes := ats })
    (hm : Meets P f cargs Rs r (Rs' ++ K) al) (hg : GiveN H hs H.length hs Rs Rs' R2) (hargs : PassS hs (args.map ρ) cargs) (hK : BkR hs H.length K K2) (hr : Bk hs H.length r r2) : Step P o ρ H r2 (setAll H hs R2 ++ K2) := by
  intro S hS hρ C φ a w hI next Q hn
  obtain ⟨hm2, ⟨A, hA, hrr⟩, hsz, hd0⟩ := hI
  subst hS
  obtain ⟨g1, g2, g2', g3⟩ := hg.spec
  obtain ⟨q1, q2⟩ := hK.get
  have hlen := hA.ok.len
  have hargr : Rels A w φ (args.map ρ) (fun i => (args.map a.eval).toArray[i]?) := rels_map fun x hx => by
    rw [← hρ x (by rw [ho]; simp only [Op.operands, Call.operands]; simp [hx])]
    exact ev_rel hrr x
  have hlt : ∀ (i h : Nat), hs[i]? = some h → h < S.H.length := fun i h hi => by
    obtain ⟨R0, _, _, _, q, _⟩ := g3 i h hi
    exact (List.getElem?_eq_some_iff.1 q).1
  let hds : List Hd := hs.map fun h => φ.getD h ⟨none, 0, 0, 0⟩
  have hl1 : hds.length = hs.length := by simp [hds]
  have hget : ∀ (i h : Nat), hs[i]? = some h → ∃ hd, φ[h]? = some hd ∧ hds[i]? = some hd := fun i h hi => by
    have h1 : h < φ.length := by rw [hA.ok.len]; exact hlt i h hi
    refine ⟨φ[h], List.getElem?_eq_getElem h1, ?_⟩
    simp only [hds, List.getElem?_map, hi, Option.map_some, List.getD, List.getElem?_eq_getElem h1, Option.getD_some]
  have hback : ∀ (i : Nat) (d : Hd), hds[i]? = some d → ∃ h, hs[i]? = some h ∧ φ[h]? = some d := fun i d hi => by
    cases hx : hs[i]? with
    | none =>
      have : hds[i]? = none := by simp [hds, hx]
      rw [this] at hi
      cases hi
    | some h =>
      obtain ⟨hd, q1, q2⟩ := hget i h hx
      rw [q2] at hi
      cases hi
      exact ⟨h, rfl, q1⟩
  have hpas : ∀ (i h : Nat), hs[i]? = some h → ∀ hd, φ[h]? = some hd → hds[i]? = some hd := fun i h hi hd hhd => by
    obtain ⟨hd', p1, p2⟩ := hget i h hi
    rw [hhd] at p1
    cases p1
    exact p2
  have hli : ∀ j b, LiveAt hds Rs j b → ∃ h, hs[j]? = some h ∧ LiveAt φ S.H h b := fun j b ⟨d, r', q1, q2, q3, q4⟩ => by
    obtain ⟨h, p1, p2⟩ := hback j d q1
    obtain ⟨R0, R, R', RR, e1, e2, e3, _⟩ := g3 j h p1
    exact ⟨h, p1, d, R0, p2, e1, e2, q4⟩
  have hok1 : HeapOk A w hds Rs := by
    refine ⟨by rw [hl1, g1], fun j d r' q1 q2 q3 => ?_, fun j j' b q1 q2 => ?_, fun j b q1 => ?_, fun j d r' b q1 q2 q3 q4 => ?_, hA.ok.low⟩
    · obtain ⟨h, p1, p2⟩ := hback j d q1
      obtain ⟨R0, R, R', RR, e1, e2, e3, e4, e5, e6, e7, _⟩ := g3 j h p1
      rw [e3] at q2
      cases q2
      obtain ⟨f1, f2⟩ := hA.ok.regs h d R0 p2 e1 (by omega)
      refine ⟨⟨f1.1.trans e5.symm, f1.2.1.trans e6.symm, f1.2.2⟩, ?_⟩
      cases hk : d.blk with
      | none =>
        rw [hk] at f2
        have := PassS.length e7
        rw [f2.1] at this
        exact ⟨List.length_eq_zero_iff.1 this.symm, f2.2⟩
      | some b =>
        rw [hk] at f2
        obtain ⟨c, k1, k2, k3, k4⟩ := f2
        exact ⟨c, k1, k2, by rw [← PassS.length e7]; exact k3, PassS.rels hpas e7 k4⟩
    · obtain ⟨h, p1, p2⟩ := hli j b q1
      obtain ⟨h', p1', p2'⟩ := hli j' b q2
      have := hA.ok.inj _ _ _ p2 p2'
      subst this
      exact (List.getElem?_inj (List.getElem?_eq_some_iff.1 p1).1 hnd).1 (p1.trans p1'.symm)
    · obtain ⟨h, p1, p2⟩ := hli j b q1
      exact hA.ok.apart _ _ p2
    · obtain ⟨h, p1, p2⟩ := hback j d q1
      obtain ⟨R0, R, R', RR, e1, e2, e3, e4, _⟩ := g3 j h p1
      rw [e3] at q2
      cases q2
      omega
  have hcall := hm A hds w (args.map a.eval).toArray hok1 (PassS.rels hpas hargs hargr) (by simp [← PassS.length hargs])
  unfold Oper.wp
  rw [run_call ho, Oper.upon_enter]
  refine hcall.mono ?_
  rintro e w' ⟨x, φ', A', rfl, k1, k2, k3, k4, k5, k6⟩
  obtain ⟨ψ', rfl⟩ : ∃ ψ', φ' = hds ++ ψ' := by
    refine ⟨φ'.drop hds.length, ?_⟩
    refine List.ext_getElem? fun i => ?_
    rcases Nat.lt_or_ge i hds.length with hi | hi
    · rw [List.getElem?_append_left hi, k6 i _ (List.getElem?_eq_getElem hi), List.getElem?_eq_getElem hi]
    · rw [List.getElem?_append_right hi, List.getElem?_drop, Nat.add_sub_cancel' hi]
  have hno : ∀ b, (∀ h ∈ hs, ¬ LiveAt φ S.H h b) → ∀ j, ¬ LiveAt hds Rs j b := fun b hn j hl => by
    obtain ⟨h, p1, p2⟩ := hli j b hl
    exact hn h (List.mem_of_getElem? p1) p2
  have hA' : ∀ b, A' b → A b ∨ w.heap.size ≤ b := fun b hb => (k3 b hb).imp (fun h => h.2) id
  have hl : ∀ j b, LiveAt (hds ++ ψ') (Rs' ++ K) j b → w.heap.size ≤ b ∨ ∃ h ∈ hs, LiveAt φ S.H h b := fun j b hl => (k4 j b hl).imp id fun ⟨j0, h⟩ => by obtain ⟨g, p1, p2⟩ := hli j0 b h; exact ⟨g, List.mem_of_getElem? p1, p2⟩
  have hoth : ∀ b, b < w.heap.size → (∀ h ∈ hs, ¬ LiveAt φ S.H h b) → w'.heap[b]? = w.heap[b]? := fun b hb hn => k5.block b hb (hno b hn)
  have hset : ∀ (i h : Nat), hs[i]? = some h → (setAll S.H hs R2)[h]? = R2[i]? := setAll_at S.H hs R2 hnd g2' (fun x hx => by obtain ⟨i, hi⟩ := List.getElem?_of_mem hx; exact hlt i x hi)
  have hkeep : ∀ x, x ∉ hs → (setAll S.H hs R2)[x]? = S.H[x]? := fun x hx => setAll_keep S.H hs R2 x hx
  have hl2 : (setAll S.H hs R2).length = S.H.length := setAll_length S.H hs R2
  generalize setAll S.H hs R2 = H2 at hset hkeep hl2 hn
  have hφm : ∀ (i : Nat) (d : Hd), φ[i]? = some d → (φ ++ ψ')[i]? = some d := fun i d hh => app_left hh
  have hAm : ∀ b, A b → (A b ∨ A' b) ∧ w'.heap[b]? = w.heap[b]? := fun b hb => ⟨Or.inl hb, hoth b (hA.ok.low b hb) fun h _ hl => hA.ok.apart h b hl hb⟩
  have hψ : ψ'.length = K.length := by have := k1.len; rw [List.length_append, List.length_append, hl1, g2] at this; omega
  have hbk : ∀ (i : Nat) hd, (hds ++ ψ')[i]? = some hd → (φ ++ ψ')[bkI hs S.H.length i]? = some hd := fun i hd hi => by
    rcases Nat.lt_or_ge i hds.length with h1 | h1
    · rw [List.getElem?_append_left h1] at hi
      obtain ⟨h, p1, p2⟩ := hback i hd hi
      unfold bkI
      rw [p1]
      exact hφm _ _ p2
    · rw [List.getElem?_append_right h1] at hi
      unfold bkI
      rw [show hs[i]? = none from List.getElem?_eq_none (by omega), Option.getD_none, ← hlen, List.getElem?_append_right (by omega)]
      rw [← hi]
      congr 1
      omega
  have hleft : ∀ {α : Type} (a b : List α) (j : Nat), (a ++ b)[a.length + j]? = b[j]? := fun a b j => by
    rw [List.getElem?_append_right (Nat.le_add_right _ _), Nat.add_sub_cancel_left]
  -- a row of the new state
  have hsplit : ∀ (i : Nat) (d : Hd) (r : Reg), (φ ++ ψ')[i]? = some d → (H2 ++ K2)[i]? = some r → (∃ y R', i ∈ hs ∧ y < hs.length ∧ (hds ++ ψ')[y]? = some d ∧ (Rs' ++ K)[y]? = some R' ∧ (∃ R0, φ[i]? = some d ∧ S.H[i]? = some R0 ∧ R0.mode = 0) ∧ r.mode = R'.mode ∧ r.esz = R'.esz ∧ r.e = R'.e ∧ BkS hs S.H.length R'.cells r.cells ∧ R'.mode ≠ 1) ∨ (i ∉ hs ∧ φ[i]? = some d ∧ S.H[i]? = some r) ∨
      (∃ j R', i = φ.length + j ∧ (hds ++ ψ')[hs.length + j]? = some d ∧ (Rs' ++ K)[hs.length + j]? = some R' ∧ r.mode = R'.mode ∧ r.esz = R'.esz ∧ r.e = R'.e ∧ BkS hs S.H.length R'.cells r.cells) := fun i d r h1 h2 => by
    rcases Nat.lt_or_ge i φ.length with hlt | hge
    · rw [List.getElem?_append_left hlt] at h1
      rw [List.getElem?_append_left (by omega)] at h2
      by_cases hmm : i ∈ hs
      · obtain ⟨y, hy⟩ := List.getElem?_of_mem hmm
        obtain ⟨R0, R, R', RR, e1, e2, e3, e4, e5, e6, e7, e8, e9, e10, e11, e12, e13, e14⟩ := g3 y i hy
        rw [hset y i hy, e10] at h2
        cases h2
        exact Or.inl ⟨y, R', hmm, (List.getElem?_eq_some_iff.1 hy).1, app_left (hpas y i hy d h1), app_left e8, ⟨R0, h1, e1, e2⟩, e11, e12, e13, e14, e9⟩
      · rw [hkeep i hmm] at h2
        exact Or.inr (Or.inl ⟨hmm, h1, h2⟩)
    · rw [List.getElem?_append_right hge] at h1
      rw [List.getElem?_append_right (by omega), hl2, ← hlen] at h2
      obtain ⟨R', p1, p2, p3, p4, p5⟩ := q2 _ _ h2
      exact Or.inr (Or.inr ⟨i - φ.length, R', by omega, by rw [← hl1, hleft]; exact h1, by rw [← g2, hleft]; exact p1, p2, p3, p4, p5⟩)
  have hlive : ∀ i b, LiveAt (φ ++ ψ') (H2 ++ K2) i b → (i ∈ hs ∧ LiveAt φ S.H i b ∧ ∃ y, y < hs.length ∧ LiveAt (hds ++ ψ') (Rs' ++ K) y b) ∨ (i ∉ hs ∧ LiveAt φ S.H i b) ∨ (∃ j, i = φ.length + j ∧ LiveAt (hds ++ ψ') (Rs' ++ K) (hs.length + j) b) := by
    rintro i b ⟨d, r, h1, h2, h3, h4⟩
    rcases hsplit i d r h1 h2 with ⟨y, R', p1, p2, p3, p4, ⟨R0, p5, p6, p7⟩, p8, _⟩ | ⟨hne, p1, p2⟩ | ⟨j, R', p0, p1, p2, p3, _⟩
    · exact Or.inl ⟨p1, ⟨d, R0, p5, p6, p7, h4⟩, y, p2, d, R', p3, p4, by omega, h4⟩
    · exact Or.inr (Or.inl ⟨hne, d, r, p1, p2, h3, h4⟩)
    · exact Or.inr (Or.inr ⟨j, p0, d, R', p1, p2, by omega, h4⟩)
  have hlow : ∀ i b, LiveAt φ S.H i b → b < w.heap.size := fun i b ⟨d, r, h1, h2, h3, h4⟩ => blk_of hA.ok h1 h2 (by omega) h4
  have hcells : ∀ (d : Hd) (R' r : Reg) (y : Nat), (hds ++ ψ')[y]? = some d → (Rs' ++ K)[y]? = some R' → r.mode ≤ 1 → r.mode = R'.mode → r.esz = R'.esz → r.e = R'.e → BkS hs S.H.length R'.cells r.cells → RegOk (fun b => A b ∨ A' b) w' (φ ++ ψ') d r := fun d R' r y p1 p2 p3 p4 p5 p6 p7 => by
    obtain ⟨e1, e2⟩ := k1.regs y d R' p1 p2 (by omega)
    refine ⟨⟨e1.1.trans p5.symm, e1.2.1.trans p6.symm, e1.2.2⟩, ?_⟩
    cases hk : d.blk with
    | none =>
      rw [hk] at e2
      have := BkS.length p7
      rw [e2.1] at this
      exact ⟨List.length_eq_zero_iff.1 this, e2.2⟩
    | some b =>
      rw [hk] at e2
      obtain ⟨c, c1, c2, c3, c4⟩ := e2
      exact ⟨c, c1, c2, by rw [BkS.length p7]; exact c3, Rels.mono (fun b hb => ⟨Or.inr hb, rfl⟩) (fun _ _ h => h) (BkS.rels hbk p7 c4)⟩
  have hJ : InvA C (fun b => A b ∨ A' b) (φ ++ ψ') (H2 ++ K2) w' := by
    refine ⟨⟨by simp [hlen, hψ, hl2, q1], fun i d r h1 h2 h3 => ?_, fun i i' b h1 h2 => ?_, fun i b h1 => ?_, fun i d r b h1 h2 h3 h4 => ?_, fun b hb => ?_⟩, fun b hb => ?_, fun i b h1 => ?_, ?_, fun i d hh => hφm i d (hA.pre i d hh)⟩
    · rcases hsplit i d r h1 h2 with ⟨y, R', p1, p2, p3, p4, _, p8, p9, p10, p11, p12⟩ | ⟨hne, p1, p2⟩ | ⟨j, R', p0, p1, p2, p3, p4, p5, p6⟩
      · exact hcells d R' r y p3 p4 h3 p8 p9 p10 p11
      · obtain ⟨e1, e2⟩ := hA.ok.regs i d r p1 p2 h3
        refine ⟨e1, ?_⟩
        cases hk : d.blk with
        | none => rw [hk] at e2; exact e2
        | some b =>
          rw [hk] at e2
          obtain ⟨c, c1, c2, c3, c4⟩ := e2
          have hnl : ∀ h ∈ hs, ¬ LiveAt φ S.H h b := fun h hmm hl => by
            rcases Nat.lt_or_ge r.mode 1 with hm1 | hm1
            · have := hA.ok.inj _ _ _ ⟨d, r, p1, p2, by omega, hk⟩ hl
              exact hne (this ▸ hmm)
            · exact hA.ok.apart h b hl (hA.ok.frz i d r b p1 p2 (by omega) hk)
          exact ⟨c, (hoth b (blk_of hA.ok p1 p2 h3 hk) hnl).trans c1, c2, c3, Rels.mono hAm hφm c4⟩
      · exact hcells d R' r _ p1 p2 h3 p3 p4 p5 p6
    · have hnew : ∀ j i, i ∉ hs → LiveAt φ S.H i b → LiveAt (hds ++ ψ') (Rs' ++ K) (hs.length + j) b → False := fun j i hi h1 h2 => by
        rcases hl _ _ h2 with h3 | ⟨h, hmm, h3⟩
        · have := hlow _ _ h1; omega
        · have := hA.ok.inj _ _ _ h1 h3
          exact hi (this ▸ hmm)
      rcases hlive i b h1 with ⟨p1, p2, y, p3, p4⟩ | ⟨p1, p2⟩ | ⟨j, p1, p2⟩ <;> rcases hlive i' b h2 with ⟨r1, r2', y', r3, r4⟩ | ⟨r1, r2'⟩ | ⟨j', r1, r2'⟩
      · exact hA.ok.inj _ _ _ p2 r2'
      · exact hA.ok.inj _ _ _ p2 r2'
      · have := k1.inj _ _ _ p4 r2'; omega
      · exact hA.ok.inj _ _ _ p2 r2'
      · exact hA.ok.inj _ _ _ p2 r2'
      · exact (hnew j' i p1 p2 r2').elim
      · have := k1.inj _ _ _ r4 p2; omega
      · exact (hnew j i' r1 r2' p2).elim
      · have := k1.inj _ _ _ p2 r2'; omega
    · have hold : LiveAt φ S.H i b → ¬ (A b ∨ A' b) := fun h1 hb => by
        rcases hb with hb | hb
        · exact hA.ok.apart _ _ h1 hb
        · rcases hA' b hb with hb | hb
          · exact hA.ok.apart _ _ h1 hb
          · have := hlow _ _ h1; omega
      rcases hlive i b h1 with ⟨p1, p2, _⟩ | ⟨p1, p2⟩ | ⟨j, p1, p2⟩
      · exact hold p2
      · exact hold p2
      · rintro (hb | hb)
        · rcases hl _ _ p2 with h3 | ⟨h, hmm, h3⟩
          · have := hA.ok.low b hb; omega
          · exact hA.ok.apart _ _ h3 hb
        · exact k1.apart _ _ p2 hb
    · rcases hsplit i d r h1 h2 with ⟨y, R', p1, p2, p3, p4, _, p8, p9, p10, p11, p12⟩ | ⟨hne, p1, p2⟩ | ⟨j, R', p0, p1, p2, p3, p4, p5, p6⟩
      · omega
      · exact Or.inl (hA.ok.frz i d r b p1 p2 h3 h4)
      · exact Or.inr (k1.frz (hs.length + j) d R' b p1 p2 (by omega) h4)
    · rcases hb with hb | hb
      · exact Nat.lt_of_lt_of_le (hA.ok.low b hb) k5.size
      · exact k1.low b hb
    · rcases hb with hb | hb
      · exact hA.old b hb
      · rcases hA' b hb with hb | hb
        · exact hA.old b hb
        · exact Or.inr (Nat.le_trans hA.frame.size hb)
    · rcases hlive i b h1 with ⟨p1, p2, _⟩ | ⟨p1, p2⟩ | ⟨j, p1, p2⟩
      · exact hA.own _ _ p2
      · exact hA.own _ _ p2
      · rcases hl _ _ p2 with h3 | ⟨h, hmm, h3⟩
        · exact Or.inl (Nat.le_trans hA.frame.size h3)
        · exact hA.own _ _ h3
    · obtain ⟨f1, f2, f3, f4, f5⟩ := hA.frame
      refine ⟨k5.os.trans f1, k5.tape.trans f2, k5.output.trans f3, Nat.le_trans f4 k5.size, fun i hi hnn => ?_⟩
      rw [← f5 i hi hnn]
      refine hoth i (Nat.lt_of_lt_of_le hi f4) fun h hmm hl => ?_
      rcases hA.own h i hl with h1 | ⟨h9, h1⟩
      · omega
      · exact hnn h9 h1
  have hr' : Rels (fun b => A b ∨ A' b) w' (φ ++ ψ') S.tmps (fun i => a.tmps[i]?) := Rels.mono (fun b hb => ⟨Or.inl hb, k5.block b (hA.ok.low b hb) (hno b fun h hm hl => hA.ok.apart h b hl hb)⟩) (fun h hd hh => app_left hh) hrr
  have hx : Rel (fun b => A b ∨ A' b) w' (φ ++ ψ') r2 x := Bk.rel hbk hr (Rel.mono (fun b hb => ⟨Or.inr hb, rfl⟩) (fun _ _ h => h) k2)
  obtain ⟨h7, h8⟩ := put_rel (H := H2 ++ K2) hsz hr' hx o.dst
  refine hn x w' (φ ++ ψ') ⟨by cases o.dst <;> exact hm2, ⟨_, ?_, h7⟩, h8, by cases o.dst <;> exact hd0⟩
  rw [put_H]
  exact hJ

/-- The same, the end's rows named. -/
theorem st_callN {f : FuncId} {args : List Operand} {ats : Array TypeId} {cargs : List V} {r r2 : V} {Rs Rs' R2 K K2 H' : List Reg} {al : Bool} (hs : List Nat) (hnd : hs.Nodup) [he : Ent P f] (ho : o.op = .call { callee := .value (.func f), args := args.toArray, argTypes := ats })
    (hm : Meets P f cargs Rs r (Rs' ++ K) al) (hg : GiveN H hs H.length hs Rs Rs' R2) (hargs : PassS hs (args.map ρ) cargs) (hK : BkR hs H.length K K2) (hr : Bk hs H.length r r2) (hH : setAll H hs R2 ++ K2 = H') : Step P o ρ H r2 H' := by
  subst hH
  exact step_callN hs hnd ho hm hg hargs hK hr
end
end Go.Proofs.Ytkcicbigpbdjpaa.Ab
