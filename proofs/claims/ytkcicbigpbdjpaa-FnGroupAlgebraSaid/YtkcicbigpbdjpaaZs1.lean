/- What the row FnGroupAlgebra leans on, part 2: a walk over abstract values, and contracts proved with it. -/
import Derived.WalkKit
import Derived.Laws.Rows
import Derived.RowKit
import Derived.OrdersHeld
import Derived.Deep.RegionHeld3
import Derived.Deep.Draws
import Derived.BigCall
import Derived.KernelRfl
import Derived.Deep.Slices
import Derived.ChangeArms
import Derived.ChangeShapes
import Derived.WideShapes
import Derived.Laws.StructEq
import Derived.Lib.Overlaps
import Derived.Test.YtkcicbigpbdjpaaProg
import Derived.MapKept
import Derived.Carry
import Derived.Shelf.SlSortCmp.WholeK
import Derived.Laws.BytesString
import Derived.Test.YtkcicbigpbdjpaaZs0
set_option linter.unusedVariables false
set_option linter.unusedSimpArgs false
set_option maxRecDepth 20000
set_option maxHeartbeats 8000000
namespace Go.Proofs.Ytkcicbigpbdjpaa.Ab
open Go.RowKit
section
variable {C : Cx} {A A' : Nat → Prop} {φ φ' : List Hd} {H : List Reg} {w w' : World} {P : Program} {o : Oper} {ρ : Operand → V} {ops : Array Oper} {rest : List Oper} {Q : Exit → St → Prop} {S T : St}
mutual
inductive Nz (k : Nat) : V → V → Prop where
  | same (v : V) : Nz k v v
  | nil : Nz k (.k (.slice none 0 0)) (.sl k 0 0)
  | agg {cs ds : List V} (h : NzS k cs ds) : Nz k (.agg cs) (.agg ds)
  | tup {cs ds : List V} (h : NzS k cs ds) : Nz k (.tup cs) (.tup ds)
inductive NzS (k : Nat) : List V → List V → Prop where
  | rest (cs : List V) : NzS k cs cs
  | cons {c d : V} {cs ds : List V} (h : Nz k c d) (hs : NzS k cs ds) : NzS k (c :: cs) (d :: ds)
end
theorem NzS.length {k : Nat} : ∀ {cs ds : List V}, NzS k cs ds → ds.length = cs.length
  | _, _, .rest _ => rfl
  | _, _, .cons h hs => by simp [NzS.length hs]
inductive NzR (k : Nat) : List Reg → List Reg → Prop where
  | rest (H : List Reg) : NzR k H H
  | cons {r : Reg} {cs : List V} {H K : List Reg} (h : NzS k r.cells cs) (hs : NzR k H K) : NzR k (r :: H) ({ r with cells := cs } :: K)
theorem NzR.get {k : Nat} : ∀ {H K : List Reg}, NzR k H K → K.length = H.length ∧ ∀ (i : Nat) (r' : Reg), K[i]? = some r' → ∃ r, H[i]? = some r ∧ r'.mode = r.mode ∧ r'.esz = r.esz ∧ r'.e = r.e ∧ NzS k r.cells r'.cells
  | _, _, .rest H => ⟨rfl, fun i r h => ⟨r, h, rfl, rfl, rfl, .rest _⟩⟩
  | _, _, .cons h hs => by
    obtain ⟨e1, e2⟩ := hs.get
    refine ⟨by simp [e1], fun i r' hi => ?_⟩
    cases i with
    | zero => simp at hi; subst hi; exact ⟨_, rfl, rfl, rfl, rfl, h⟩
    | succ i => simp only [List.getElem?_cons_succ] at hi ⊢; exact e2 i r' hi
mutual
theorem Nz.rel {k : Nat} {hd : Hd} (hφ : φ[k]? = some hd) (hb : hd.blk = none) (hc : hd.cap = 0) : ∀ {v v' : V} {x : Value}, Nz k v v' → Rel A w φ v x → Rel A w φ v' x
  | _, _, x, .same v, h => h
  | _, _, x, .nil, h => by
    rw [Rel] at h
    rw [Rel]
    exact ⟨hd, hφ, Or.inl ⟨by rw [h, hb, hc]; rfl, by omega⟩⟩
  | _, _, x, .agg hs, h => by
    rw [Rel] at h ⊢
    obtain ⟨xs, e1, e2, h1⟩ := h
    exact ⟨xs, e1, e2.trans (NzS.length hs).symm, NzS.rels hφ hb hc hs h1⟩
  | _, _, x, .tup hs, h => by
    rw [Rel] at h ⊢
    obtain ⟨xs, e1, e2, h1⟩ := h
    exact ⟨xs, e1, e2.trans (NzS.length hs).symm, NzS.rels hφ hb hc hs h1⟩
theorem NzS.rels {k : Nat} {hd : Hd} (hφ : φ[k]? = some hd) (hb : hd.blk = none) (hc : hd.cap = 0) : ∀ {cs ds : List V} {g : Nat → Option Value}, NzS k cs ds → zZ A w φ cs g → zZ A w φ ds g
  | _, _, g, .rest _, h => h
  | _, _, g, .cons h hs, hr => by
    rw [zZ] at hr ⊢
    obtain ⟨⟨y, h1, h2⟩, h3⟩ := hr
    exact ⟨⟨y, h1, Nz.rel hφ hb hc h h2⟩, NzS.rels hφ hb hc hs h3⟩
end
mutual
inductive Vw (H : List Reg) : V → V → Prop where
  | same (v : V) : Vw H v v
  | pur {v v' : V} (h : Pur false H v v') : Vw H v v'
  | agg {cs ds : List V} (h : VwS H cs ds) : Vw H (.agg cs) (.agg ds)
  | tup {cs ds : List V} (h : VwS H cs ds) : Vw H (.tup cs) (.tup ds)
inductive VwS (H : List Reg) : List V → List V → Prop where
  | rest (cs : List V) : VwS H cs cs
  | cons {c d : V} {cs ds : List V} (h : Vw H c d) (hs : VwS H cs ds) : VwS H (c :: cs) (d :: ds)
end
theorem VwS.length : ∀ {cs ds : List V}, VwS H cs ds → ds.length = cs.length
  | _, _, .rest _ => rfl
  | _, _, .cons h hs => by simp [VwS.length hs]
theorem VwS.all {f : V → V} (hf : ∀ c, Vw H c (f c)) : ∀ cs : List V, VwS H cs (cs.map f)
  | [] => .rest _
  | c :: cs => .cons (hf c) (VwS.all hf cs)
mutual
theorem Vw.rel (hok : HeapOk A w φ H) : ∀ {v v' : V} {x : Value}, Vw H v v' → Rel A w φ v x → Rel A w φ v' x
  | _, _, x, .same _, h => h
  | _, _, x, .pur hp, h => xj (Pur.noH hp) (Pur.rel hok (fun b hb => hb) (fun h => by cases h) hp h)
  | _, _, x, .agg hs, h => by
    rw [Rel] at h ⊢
    obtain ⟨xs, e1, e2, h1⟩ := h
    exact ⟨xs, e1, e2.trans (VwS.length hs).symm, VwS.rels hok hs h1⟩
  | _, _, x, .tup hs, h => by
    rw [Rel] at h ⊢
    obtain ⟨xs, e1, e2, h1⟩ := h
    exact ⟨xs, e1, e2.trans (VwS.length hs).symm, VwS.rels hok hs h1⟩
theorem VwS.rels (hok : HeapOk A w φ H) : ∀ {cs ds : List V} {g : Nat → Option Value}, VwS H cs ds → zZ A w φ cs g → zZ A w φ ds g
  | _, _, g, .rest _, h => h
  | _, _, g, .cons h hs, hr => by
    rw [zZ] at hr ⊢
    obtain ⟨⟨y, h1, h2⟩, h3⟩ := hr
    exact ⟨⟨y, h1, Vw.rel hok h h2⟩, VwS.rels hok hs h3⟩
end
inductive VwR (H : List Reg) : List Reg → List Reg → Prop where
  | rest (L : List Reg) : VwR H L L
  | cons {r : Reg} {cs : List V} {L K : List Reg} (h : VwS H r.cells cs) (hs : VwR H L K) : VwR H (r :: L) ({ r with cells := cs } :: K)
theorem VwR.get {G : List Reg} : ∀ {H K : List Reg}, VwR G H K → K.length = H.length ∧ ∀ (i : Nat) (r' : Reg), K[i]? = some r' → ∃ r, H[i]? = some r ∧ r'.mode = r.mode ∧ r'.esz = r.esz ∧ r'.e = r.e ∧ VwS G r.cells r'.cells
  | _, _, .rest H => ⟨rfl, fun i r h => ⟨r, h, rfl, rfl, rfl, .rest _⟩⟩
  | _, _, .cons h hs => by
    obtain ⟨e1, e2⟩ := hs.get
    refine ⟨by simp [e1], fun i r' hi => ?_⟩
    cases i with
    | zero => simp at hi; subst hi; exact ⟨_, rfl, rfl, rfl, rfl, h⟩
    | succ i => simp only [List.getElem?_cons_succ] at hi ⊢; exact e2 i r' hi
end
end Go.Proofs.Ytkcicbigpbdjpaa.Ab
namespace Go.Proofs.Ytkcicbigpbdjpaa.Ab
open Go.RowKit
def bkI (hs : List Nat) (n i : Nat) : Nat := (hs[i]?).getD (n + (i - hs.length))
mutual
inductive Bk (hs : List Nat) (n : Nat) : V → V → Prop where
  | same {v : V} (h : noH v = true) : Bk hs n v v
  | sl {i h off m : Nat} (h1 : bkI hs n i = h) : Bk hs n (.sl i off m) (.sl h off m)
  | ptr {i h off : Nat} (h1 : bkI hs n i = h) : Bk hs n (.ptr i off) (.ptr h off)
  | agg {cs ds : List V} (h : BkS hs n cs ds) : Bk hs n (.agg cs) (.agg ds)
  | tup {cs ds : List V} (h : BkS hs n cs ds) : Bk hs n (.tup cs) (.tup ds)
inductive BkS (hs : List Nat) (n : Nat) : List V → List V → Prop where
  | rest {cs : List V} (h : NoH cs) : BkS hs n cs cs
  | cons {c d : V} {cs ds : List V} (h : Bk hs n c d) (ht : BkS hs n cs ds) : BkS hs n (c :: cs) (d :: ds)
end
theorem BkS.nil {hs : List Nat} {n : Nat} : BkS hs n [] [] := .rest fun c hc => by cases hc
theorem BkS.length {hs : List Nat} {n : Nat} : ∀ {cs ds : List V}, BkS hs n cs ds → ds.length = cs.length
  | _, _, .rest _ => rfl
  | _, _, .cons h ht => by simp [BkS.length ht]
theorem BkS.map {α : Type} {hs : List Nat} {n : Nat} {f g : α → V} : ∀ (l : List α), (∀ x ∈ l, Bk hs n (f x) (g x)) → BkS hs n (l.map f) (l.map g)
  | [], _ => .nil
  | x :: l, h => .cons (h x (List.mem_cons_self ..)) (BkS.map l fun y hy => h y (List.mem_cons_of_mem _ hy))
section
variable {A : Nat → Prop} {w : World} {φ φ' : List Hd} {hs : List Nat} {n : Nat}
mutual
theorem Bk.rel (hg : ∀ (i : Nat) hd, φ'[i]? = some hd → φ[bkI hs n i]? = some hd) : ∀ {v v' : V} {x : Value}, Bk hs n v v' → Rel A w φ' v x → Rel A w φ v' x
  | v, _, x, .same h, hr => xj h hr
  | _, _, x, .sl h1, hr => by
    rw [Rel] at hr ⊢
    obtain ⟨hd, h2, h3⟩ := hr
    exact ⟨hd, h1 ▸ hg _ _ h2, h3⟩
  | _, _, x, .ptr h1, hr => by
    rw [Rel] at hr ⊢
    obtain ⟨hd, b, h2, h3⟩ := hr
    exact ⟨hd, b, h1 ▸ hg _ _ h2, h3⟩
  | .agg cs, .agg ds, x, .agg h, hr => by
    rw [Rel] at hr ⊢
    obtain ⟨xs, e1, e2, h2⟩ := hr
    exact ⟨xs, e1, e2.trans (BkS.length h).symm, BkS.rels hg h h2⟩
  | .tup cs, .tup ds, x, .tup h, hr => by
    rw [Rel] at hr ⊢
    obtain ⟨xs, e1, e2, h2⟩ := hr
    exact ⟨xs, e1, e2.trans (BkS.length h).symm, BkS.rels hg h h2⟩
theorem BkS.rels (hg : ∀ (i : Nat) hd, φ'[i]? = some hd → φ[bkI hs n i]? = some hd) : ∀ {cs ds : List V} {g : Nat → Option Value}, BkS hs n cs ds → zZ A w φ' cs g → zZ A w φ ds g
  | _, _, g, .rest h, hr => yy h hr
  | c :: cs, _, g, .cons h ht, hr => by
    rw [zZ] at hr ⊢
    obtain ⟨⟨y, h1, h2⟩, h3⟩ := hr
    exact ⟨⟨y, h1, Bk.rel hg h h2⟩, BkS.rels hg ht h3⟩
end
end
theorem wX {hs : List Nat} : ∀ {cs : List V}, NoH cs → PassS hs cs cs
  | [], _ => .nil
  | c :: cs, h => .cons (.same (h c (List.mem_cons_self ..))) (wX fun d hd => h d (List.mem_cons_of_mem _ hd))
inductive BkR (hs : List Nat) (n : Nat) : List Reg → List Reg → Prop where
  | nil : BkR hs n [] []
  | cons {R : Reg} {cs : List V} {K K2 : List Reg} (h : BkS hs n R.cells cs) (ht : BkR hs n K K2) : BkR hs n (R :: K) ({ R with cells := cs } :: K2)
theorem BkR.get {hs : List Nat} {n : Nat} : ∀ {K K2 : List Reg}, BkR hs n K K2 → K2.length = K.length ∧ ∀ (i : Nat) (r : Reg), K2[i]? = some r → ∃ R, K[i]? = some R ∧ r.mode = R.mode ∧ r.esz = R.esz ∧ r.e = R.e ∧ BkS hs n R.cells r.cells
  | _, _, .nil => ⟨rfl, fun i r h => by simp at h⟩
  | _, _, .cons h ht => by
    obtain ⟨e1, e2⟩ := ht.get
    refine ⟨by simp [e1], fun i r hi => ?_⟩
    cases i with
    | zero => simp at hi; subst hi; exact ⟨_, rfl, rfl, rfl, rfl, h⟩
    | succ i => simp only [List.getElem?_cons_succ] at hi ⊢; exact e2 i r hi
theorem BkR.ofN {hs : List Nat} {n : Nat} : ∀ {K : List Reg}, (∀ r ∈ K, NoH r.cells) → BkR hs n K K
  | [], _ => .nil
  | r :: K, h => .cons (cs := r.cells) (.rest (h r (List.mem_cons_self ..))) (BkR.ofN fun q hq => h q (List.mem_cons_of_mem _ hq))
inductive GiveN (H : List Reg) (hs0 : List Nat) (n : Nat) : List Nat → List Reg → List Reg → List Reg → Prop where
  | nil : GiveN H hs0 n [] [] [] []
  | cons {h : Nat} {R0 R' : Reg} {cs cs2 : List V} {hs : List Nat} {Rs Rs' R2 : List Reg} (hH : H[h]? = some R0) (hm : R0.mode = 0) (hp : PassS hs0 R0.cells cs) (hm' : R'.mode ≠ 1) (hb : BkS hs0 n R'.cells cs2) (ht : GiveN H hs0 n hs Rs Rs' R2) :
      GiveN H hs0 n (h :: hs) ({ R0 with cells := cs } :: Rs) (R' :: Rs') ({ R' with cells := cs2 } :: R2)
theorem GiveN.spec {H : List Reg} {hs0 : List Nat} {n : Nat} : ∀ {hs : List Nat} {Rs Rs' R2 : List Reg}, GiveN H hs0 n hs Rs Rs' R2 → Rs.length = hs.length ∧ Rs'.length = hs.length ∧ R2.length = hs.length ∧ ∀ (i h : Nat), hs[i]? = some h →
    ∃ R0 R R' RR, H[h]? = some R0 ∧ R0.mode = 0 ∧ Rs[i]? = some R ∧ R.mode = 0 ∧ R.esz = R0.esz ∧ R.e = R0.e ∧ PassS hs0 R0.cells R.cells ∧ Rs'[i]? = some R' ∧ R'.mode ≠ 1 ∧ R2[i]? = some RR ∧ RR.mode = R'.mode ∧ RR.esz = R'.esz ∧ RR.e = R'.e ∧ BkS hs0 n R'.cells RR.cells
  | _, _, _, _, .nil => ⟨rfl, rfl, rfl, fun i h hi => by simp at hi⟩
  | _, _, _, _, .cons hH hm hp hm' hb ht => by
    obtain ⟨e1, e2, e3, e4⟩ := ht.spec
    refine ⟨by simp [e1], by simp [e2], by simp [e3], fun i h hi => ?_⟩
    cases i with
    | zero =>
      simp at hi
      subst hi
      exact ⟨_, _, _, _, hH, hm, rfl, hm, rfl, rfl, hp, rfl, hm', rfl, rfl, rfl, rfl, hb⟩
    | succ i =>
      simp only [List.getElem?_cons_succ] at hi ⊢
      exact e4 i h hi
section
variable {P : Program} {o : Oper} {ρ : Operand → V} {H : List Reg}
theorem sI {f : FuncId} {args : List Operand} {ats : Array TypeId} {cargs : List V} {r r2 : V} {Rs Rs' R2 K K2 : List Reg} {al : Bool} (hs : List Nat) (hnd : hs.Nodup) [he : Ent P f] (ho : o.op = .call { callee := .value (.func f), args := args.toArray, argTypes := ats })
    (hm : zi P f cargs Rs r (Rs' ++ K) al) (hg : GiveN H hs H.length hs Rs Rs' R2) (hargs : PassS hs (args.map ρ) cargs) (hK : BkR hs H.length K K2) (hr : Bk hs H.length r r2) : zh P o ρ H r2 (yY H hs R2 ++ K2) := by
  intro S hS hρ C φ a w hI next Q hn
  obtain ⟨hm2, ⟨A, hA, hrr⟩, hsz, hd0⟩ := hI
  subst hS
  obtain ⟨g1, g2, g2', g3⟩ := hg.spec
  obtain ⟨q1, q2⟩ := hK.get
  have hlen := hA.ok.len
  have hargr : zZ A w φ (args.map ρ) (fun i => (args.map a.eval).toArray[i]?) := vr fun x hx => by
    rw [← hρ x (by rw [ho]; simp only [Op.operands, Call.operands]; simp [hx])]
    exact y9 hrr x
  have hlt : ∀ (i h : Nat), hs[i]? = some h → h < S.H.length := fun i h hi => by
    obtain ⟨R0, _, _, _, q, _⟩ := g3 i h hi
    exact (List.getElem?_eq_some_iff.1 q).1
  let hds : List Hd := hs.map fun h => φ.getD h ⟨none, 0, 0, 0⟩
  have hl1 : hds.length = hs.length := by simp [hds]
  have hget : ∀ (i h : Nat), hs[i]? = some h → ∃ hd, φ[h]? = some hd ∧ hds[i]? = some hd := fun i h hi => by
    have h1 : h < φ.length := by rw [hA.ok.len]; exact hlt i h hi
    refine ⟨φ[h], List.getElem?_eq_getElem h1, ?_⟩
    simp only [hds, List.getElem?_map, hi, Option.map_some, List.getD, List.getElem?_eq_getElem h1, Option.getD_some]
  have hback : ∀ (i : Nat) (d : Hd), hds[i]? = some d → ∃ h, hs[i]? = some h ∧ φ[h]? = some d := fun i d hi => by
    cases hx : hs[i]? with
    | none =>
      have : hds[i]? = none := by simp [hds, hx]
      rw [this] at hi
      cases hi
    | some h =>
      obtain ⟨hd, q1, q2⟩ := hget i h hx
      rw [q2] at hi
      cases hi
      exact ⟨h, rfl, q1⟩
  have hpas : ∀ (i h : Nat), hs[i]? = some h → ∀ hd, φ[h]? = some hd → hds[i]? = some hd := fun i h hi hd hhd => by
    obtain ⟨hd', p1, p2⟩ := hget i h hi
    rw [hhd] at p1
    cases p1
    exact p2
  have hli : ∀ j b, za hds Rs j b → ∃ h, hs[j]? = some h ∧ za φ S.H h b := fun j b ⟨d, r', q1, q2, q3, q4⟩ => by
    obtain ⟨h, p1, p2⟩ := hback j d q1
    obtain ⟨R0, R, R', RR, e1, e2, e3, _⟩ := g3 j h p1
    exact ⟨h, p1, d, R0, p2, e1, e2, q4⟩
  have hok1 : HeapOk A w hds Rs := by
    refine ⟨by rw [hl1, g1], fun j d r' q1 q2 q3 => ?_, fun j j' b q1 q2 => ?_, fun j b q1 => ?_, fun j d r' b q1 q2 q3 q4 => ?_, hA.ok.low⟩
    · obtain ⟨h, p1, p2⟩ := hback j d q1
      obtain ⟨R0, R, R', RR, e1, e2, e3, e4, e5, e6, e7, _⟩ := g3 j h p1
      rw [e3] at q2
      cases q2
      obtain ⟨f1, f2⟩ := hA.ok.regs h d R0 p2 e1 (by omega)
      refine ⟨⟨f1.1.trans e5.symm, f1.2.1.trans e6.symm, f1.2.2⟩, ?_⟩
      cases hk : d.blk with
      | none =>
        rw [hk] at f2
        have := PassS.length e7
        rw [f2.1] at this
        exact ⟨List.length_eq_zero_iff.1 this.symm, f2.2⟩
      | some b =>
        rw [hk] at f2
        obtain ⟨c, k1, k2, k3, k4⟩ := f2
        exact ⟨c, k1, k2, by rw [← PassS.length e7]; exact k3, PassS.rels hpas e7 k4⟩
    · obtain ⟨h, p1, p2⟩ := hli j b q1
      obtain ⟨h', p1', p2'⟩ := hli j' b q2
      have := hA.ok.inj _ _ _ p2 p2'
      subst this
      exact (List.getElem?_inj (List.getElem?_eq_some_iff.1 p1).1 hnd).1 (p1.trans p1'.symm)
    · obtain ⟨h, p1, p2⟩ := hli j b q1
      exact hA.ok.apart _ _ p2
    · obtain ⟨h, p1, p2⟩ := hback j d q1
      obtain ⟨R0, R, R', RR, e1, e2, e3, e4, _⟩ := g3 j h p1
      rw [e3] at q2
      cases q2
      omega
  have hcall := hm A hds w (args.map a.eval).toArray hok1 (PassS.rels hpas hargs hargr) (by simp [← PassS.length hargs])
  unfold Oper.wp
  rw [vp ho, Oper.upon_enter]
  refine hcall.mono ?_
  rintro e w' ⟨x, φ', A', rfl, k1, k2, k3, k4, k5, k6⟩
  obtain ⟨ψ', rfl⟩ : ∃ ψ', φ' = hds ++ ψ' := by
    refine ⟨φ'.drop hds.length, ?_⟩
    refine List.ext_getElem? fun i => ?_
    rcases Nat.lt_or_ge i hds.length with hi | hi
    · rw [List.getElem?_append_left hi, k6 i _ (List.getElem?_eq_getElem hi), List.getElem?_eq_getElem hi]
    · rw [List.getElem?_append_right hi, List.getElem?_drop, Nat.add_sub_cancel' hi]
  have hno : ∀ b, (∀ h ∈ hs, ¬ za φ S.H h b) → ∀ j, ¬ za hds Rs j b := fun b hn j hl => by
    obtain ⟨h, p1, p2⟩ := hli j b hl
    exact hn h (List.mem_of_getElem? p1) p2
  have hA' : ∀ b, A' b → A b ∨ w.heap.size ≤ b := fun b hb => (k3 b hb).imp (fun h => h.2) id
  have hl : ∀ j b, za (hds ++ ψ') (Rs' ++ K) j b → w.heap.size ≤ b ∨ ∃ h ∈ hs, za φ S.H h b := fun j b hl => (k4 j b hl).imp id fun ⟨j0, h⟩ => by obtain ⟨g, p1, p2⟩ := hli j0 b h; exact ⟨g, List.mem_of_getElem? p1, p2⟩
  have hoth : ∀ b, b < w.heap.size → (∀ h ∈ hs, ¬ za φ S.H h b) → w'.heap[b]? = w.heap[b]? := fun b hb hn => k5.block b hb (hno b hn)
  have hset : ∀ (i h : Nat), hs[i]? = some h → (yY S.H hs R2)[h]? = R2[i]? := w9 S.H hs R2 hnd g2' (fun x hx => by obtain ⟨i, hi⟩ := List.getElem?_of_mem hx; exact hlt i x hi)
  have hkeep : ∀ x, x ∉ hs → (yY S.H hs R2)[x]? = S.H[x]? := fun x hx => wH S.H hs R2 x hx
  have hl2 : (yY S.H hs R2).length = S.H.length := xB S.H hs R2
  generalize yY S.H hs R2 = H2 at hset hkeep hl2 hn
  have hφm : ∀ (i : Nat) (d : Hd), φ[i]? = some d → (φ ++ ψ')[i]? = some d := fun i d hh => z1 hh
  have hAm : ∀ b, A b → (A b ∨ A' b) ∧ w'.heap[b]? = w.heap[b]? := fun b hb => ⟨Or.inl hb, hoth b (hA.ok.low b hb) fun h _ hl => hA.ok.apart h b hl hb⟩
  have hψ : ψ'.length = K.length := by have := k1.len; rw [List.length_append, List.length_append, hl1, g2] at this; omega
  have hbk : ∀ (i : Nat) hd, (hds ++ ψ')[i]? = some hd → (φ ++ ψ')[bkI hs S.H.length i]? = some hd := fun i hd hi => by
    rcases Nat.lt_or_ge i hds.length with h1 | h1
    · rw [List.getElem?_append_left h1] at hi
      obtain ⟨h, p1, p2⟩ := hback i hd hi
      unfold bkI
      rw [p1]
      exact hφm _ _ p2
    · rw [List.getElem?_append_right h1] at hi
      unfold bkI
      rw [show hs[i]? = none from List.getElem?_eq_none (by omega), Option.getD_none, ← hlen, List.getElem?_append_right (by omega)]
      rw [← hi]
      congr 1
      omega
  have hleft : ∀ {α : Type} (a b : List α) (j : Nat), (a ++ b)[a.length + j]? = b[j]? := fun a b j => by
    rw [List.getElem?_append_right (Nat.le_add_right _ _), Nat.add_sub_cancel_left]
  have hsplit : ∀ (i : Nat) (d : Hd) (r : Reg), (φ ++ ψ')[i]? = some d → (H2 ++ K2)[i]? = some r → (∃ y R', i ∈ hs ∧ y < hs.length ∧ (hds ++ ψ')[y]? = some d ∧ (Rs' ++ K)[y]? = some R' ∧ (∃ R0, φ[i]? = some d ∧ S.H[i]? = some R0 ∧ R0.mode = 0) ∧ r.mode = R'.mode ∧ r.esz = R'.esz ∧ r.e = R'.e ∧ BkS hs S.H.length R'.cells r.cells ∧ R'.mode ≠ 1) ∨ (i ∉ hs ∧ φ[i]? = some d ∧ S.H[i]? = some r) ∨
      (∃ j R', i = φ.length + j ∧ (hds ++ ψ')[hs.length + j]? = some d ∧ (Rs' ++ K)[hs.length + j]? = some R' ∧ r.mode = R'.mode ∧ r.esz = R'.esz ∧ r.e = R'.e ∧ BkS hs S.H.length R'.cells r.cells) := fun i d r h1 h2 => by
    rcases Nat.lt_or_ge i φ.length with hlt | hge
    · rw [List.getElem?_append_left hlt] at h1
      rw [List.getElem?_append_left (by omega)] at h2
      by_cases hmm : i ∈ hs
      · obtain ⟨y, hy⟩ := List.getElem?_of_mem hmm
        obtain ⟨R0, R, R', RR, e1, e2, e3, e4, e5, e6, e7, e8, e9, e10, e11, e12, e13, e14⟩ := g3 y i hy
        rw [hset y i hy, e10] at h2
        cases h2
        exact Or.inl ⟨y, R', hmm, (List.getElem?_eq_some_iff.1 hy).1, z1 (hpas y i hy d h1), z1 e8, ⟨R0, h1, e1, e2⟩, e11, e12, e13, e14, e9⟩
      · rw [hkeep i hmm] at h2
        exact Or.inr (Or.inl ⟨hmm, h1, h2⟩)
    · rw [List.getElem?_append_right hge] at h1
      rw [List.getElem?_append_right (by omega), hl2, ← hlen] at h2
      obtain ⟨R', p1, p2, p3, p4, p5⟩ := q2 _ _ h2
      exact Or.inr (Or.inr ⟨i - φ.length, R', by omega, by rw [← hl1, hleft]; exact h1, by rw [← g2, hleft]; exact p1, p2, p3, p4, p5⟩)
  have hlive : ∀ i b, za (φ ++ ψ') (H2 ++ K2) i b → (i ∈ hs ∧ za φ S.H i b ∧ ∃ y, y < hs.length ∧ za (hds ++ ψ') (Rs' ++ K) y b) ∨ (i ∉ hs ∧ za φ S.H i b) ∨ (∃ j, i = φ.length + j ∧ za (hds ++ ψ') (Rs' ++ K) (hs.length + j) b) := by
    rintro i b ⟨d, r, h1, h2, h3, h4⟩
    rcases hsplit i d r h1 h2 with ⟨y, R', p1, p2, p3, p4, ⟨R0, p5, p6, p7⟩, p8, _⟩ | ⟨hne, p1, p2⟩ | ⟨j, R', p0, p1, p2, p3, _⟩
    · exact Or.inl ⟨p1, ⟨d, R0, p5, p6, p7, h4⟩, y, p2, d, R', p3, p4, by omega, h4⟩
    · exact Or.inr (Or.inl ⟨hne, d, r, p1, p2, h3, h4⟩)
    · exact Or.inr (Or.inr ⟨j, p0, d, R', p1, p2, by omega, h4⟩)
  have hlow : ∀ i b, za φ S.H i b → b < w.heap.size := fun i b ⟨d, r, h1, h2, h3, h4⟩ => xd hA.ok h1 h2 (by omega) h4
  have hcells : ∀ (d : Hd) (R' r : Reg) (y : Nat), (hds ++ ψ')[y]? = some d → (Rs' ++ K)[y]? = some R' → r.mode ≤ 1 → r.mode = R'.mode → r.esz = R'.esz → r.e = R'.e → BkS hs S.H.length R'.cells r.cells → kZ (fun b => A b ∨ A' b) w' (φ ++ ψ') d r := fun d R' r y p1 p2 p3 p4 p5 p6 p7 => by
    obtain ⟨e1, e2⟩ := k1.regs y d R' p1 p2 (by omega)
    refine ⟨⟨e1.1.trans p5.symm, e1.2.1.trans p6.symm, e1.2.2⟩, ?_⟩
    cases hk : d.blk with
    | none =>
      rw [hk] at e2
      have := BkS.length p7
      rw [e2.1] at this
      exact ⟨List.length_eq_zero_iff.1 this, e2.2⟩
    | some b =>
      rw [hk] at e2
      obtain ⟨c, c1, c2, c3, c4⟩ := e2
      exact ⟨c, c1, c2, by rw [BkS.length p7]; exact c3, zZ.mono (fun b hb => ⟨Or.inr hb, rfl⟩) (fun _ _ h => h) (BkS.rels hbk p7 c4)⟩
  have hJ : InvA C (fun b => A b ∨ A' b) (φ ++ ψ') (H2 ++ K2) w' := by
    refine ⟨⟨by simp [hlen, hψ, hl2, q1], fun i d r h1 h2 h3 => ?_, fun i i' b h1 h2 => ?_, fun i b h1 => ?_, fun i d r b h1 h2 h3 h4 => ?_, fun b hb => ?_⟩, fun b hb => ?_, fun i b h1 => ?_, ?_, fun i d hh => hφm i d (hA.pre i d hh)⟩
    · rcases hsplit i d r h1 h2 with ⟨y, R', p1, p2, p3, p4, _, p8, p9, p10, p11, p12⟩ | ⟨hne, p1, p2⟩ | ⟨j, R', p0, p1, p2, p3, p4, p5, p6⟩
      · exact hcells d R' r y p3 p4 h3 p8 p9 p10 p11
      · obtain ⟨e1, e2⟩ := hA.ok.regs i d r p1 p2 h3
        refine ⟨e1, ?_⟩
        cases hk : d.blk with
        | none => rw [hk] at e2; exact e2
        | some b =>
          rw [hk] at e2
          obtain ⟨c, c1, c2, c3, c4⟩ := e2
          have hnl : ∀ h ∈ hs, ¬ za φ S.H h b := fun h hmm hl => by
            rcases Nat.lt_or_ge r.mode 1 with hm1 | hm1
            · have := hA.ok.inj _ _ _ ⟨d, r, p1, p2, by omega, hk⟩ hl
              exact hne (this ▸ hmm)
            · exact hA.ok.apart h b hl (hA.ok.frz i d r b p1 p2 (by omega) hk)
          exact ⟨c, (hoth b (xd hA.ok p1 p2 h3 hk) hnl).trans c1, c2, c3, zZ.mono hAm hφm c4⟩
      · exact hcells d R' r _ p1 p2 h3 p3 p4 p5 p6
    · have hnew : ∀ j i, i ∉ hs → za φ S.H i b → za (hds ++ ψ') (Rs' ++ K) (hs.length + j) b → False := fun j i hi h1 h2 => by
        rcases hl _ _ h2 with h3 | ⟨h, hmm, h3⟩
        · have := hlow _ _ h1; omega
        · have := hA.ok.inj _ _ _ h1 h3
          exact hi (this ▸ hmm)
      rcases hlive i b h1 with ⟨p1, p2, y, p3, p4⟩ | ⟨p1, p2⟩ | ⟨j, p1, p2⟩ <;> rcases hlive i' b h2 with ⟨r1, r2', y', r3, r4⟩ | ⟨r1, r2'⟩ | ⟨j', r1, r2'⟩
      · exact hA.ok.inj _ _ _ p2 r2'
      · exact hA.ok.inj _ _ _ p2 r2'
      · have := k1.inj _ _ _ p4 r2'; omega
      · exact hA.ok.inj _ _ _ p2 r2'
      · exact hA.ok.inj _ _ _ p2 r2'
      · exact (hnew j' i p1 p2 r2').elim
      · have := k1.inj _ _ _ r4 p2; omega
      · exact (hnew j i' r1 r2' p2).elim
      · have := k1.inj _ _ _ p2 r2'; omega
    · have pB : za φ S.H i b → ¬ (A b ∨ A' b) := fun h1 hb => by
        rcases hb with hb | hb
        · exact hA.ok.apart _ _ h1 hb
        · rcases hA' b hb with hb | hb
          · exact hA.ok.apart _ _ h1 hb
          · have := hlow _ _ h1; omega
      rcases hlive i b h1 with ⟨p1, p2, _⟩ | ⟨p1, p2⟩ | ⟨j, p1, p2⟩
      · exact pB p2
      · exact pB p2
      · rintro (hb | hb)
        · rcases hl _ _ p2 with h3 | ⟨h, hmm, h3⟩
          · have := hA.ok.low b hb; omega
          · exact hA.ok.apart _ _ h3 hb
        · exact k1.apart _ _ p2 hb
    · rcases hsplit i d r h1 h2 with ⟨y, R', p1, p2, p3, p4, _, p8, p9, p10, p11, p12⟩ | ⟨hne, p1, p2⟩ | ⟨j, R', p0, p1, p2, p3, p4, p5, p6⟩
      · omega
      · exact Or.inl (hA.ok.frz i d r b p1 p2 h3 h4)
      · exact Or.inr (k1.frz (hs.length + j) d R' b p1 p2 (by omega) h4)
    · rcases hb with hb | hb
      · exact Nat.lt_of_lt_of_le (hA.ok.low b hb) k5.size
      · exact k1.low b hb
    · rcases hb with hb | hb
      · exact hA.old b hb
      · rcases hA' b hb with hb | hb
        · exact hA.old b hb
        · exact Or.inr (Nat.le_trans hA.frame.size hb)
    · rcases hlive i b h1 with ⟨p1, p2, _⟩ | ⟨p1, p2⟩ | ⟨j, p1, p2⟩
      · exact hA.own _ _ p2
      · exact hA.own _ _ p2
      · rcases hl _ _ p2 with h3 | ⟨h, hmm, h3⟩
        · exact Or.inl (Nat.le_trans hA.frame.size h3)
        · exact hA.own _ _ h3
    · obtain ⟨f1, f2, f3, f4, f5⟩ := hA.frame
      refine ⟨k5.os.trans f1, k5.tape.trans f2, k5.output.trans f3, Nat.le_trans f4 k5.size, fun i hi hnn => ?_⟩
      rw [← f5 i hi hnn]
      refine hoth i (Nat.lt_of_lt_of_le hi f4) fun h hmm hl => ?_
      rcases hA.own h i hl with h1 | ⟨h9, h1⟩
      · omega
      · exact hnn h9 h1
  have hr' : zZ (fun b => A b ∨ A' b) w' (φ ++ ψ') S.tmps (fun i => a.tmps[i]?) := zZ.mono (fun b hb => ⟨Or.inl hb, k5.block b (hA.ok.low b hb) (hno b fun h hm hl => hA.ok.apart h b hl hb)⟩) (fun h hd hh => z1 hh) hrr
  have hx : Rel (fun b => A b ∨ A' b) w' (φ ++ ψ') r2 x := Bk.rel hbk hr (Rel.mono (fun b hb => ⟨Or.inr hb, rfl⟩) (fun _ _ h => h) k2)
  obtain ⟨h7, h8⟩ := xk (H := H2 ++ K2) hsz hr' hx o.dst
  refine hn x w' (φ ++ ψ') ⟨by cases o.dst <;> exact hm2, ⟨_, ?_, h7⟩, h8, by cases o.dst <;> exact hd0⟩
  rw [y4]
  exact hJ
theorem pq {f : FuncId} {args : List Operand} {ats : Array TypeId} {cargs : List V} {r r2 : V} {Rs Rs' R2 K K2 H' : List Reg} {al : Bool} (hs : List Nat) (hnd : hs.Nodup) [he : Ent P f] (ho : o.op = .call { callee := .value (.func f), args := args.toArray, argTypes := ats })
    (hm : zi P f cargs Rs r (Rs' ++ K) al) (hg : GiveN H hs H.length hs Rs Rs' R2) (hargs : PassS hs (args.map ρ) cargs) (hK : BkR hs H.length K K2) (hr : Bk hs H.length r r2) (hH : yY H hs R2 ++ K2 = H') : zh P o ρ H r2 H' := by
  subst hH
  exact sI hs hnd ho hm hg hargs hK hr
end
end Go.Proofs.Ytkcicbigpbdjpaa.Ab
namespace Go.Proofs.Ytkcicbigpbdjpaa.Ab
open Go.RowKit
section
variable {P : Program} {o : Oper} {ρ : Operand → V} {H : List Reg} {l : List V}
theorem th {t : TypeId} {fs : Array Field} (hu : P.underlying t = some (.struct fs)) (hh : P.stoodInHeld t = false) (hg : P.eqGuardType P.depth t = false)
    (h : fs.toList.zipIdx.all (fun p => !(p.1.name == "_") && Nat.beq p.1.offset p.2 && (match P.underlying p.1.type with | some (.int .i64) => true | _ => false)) = true) : IntFs P t fs := ⟨hu, hh, hg, fun i f hf => by
  rw [List.all_eq_true] at h
  have := h (f, i) (List.mem_of_getElem? (i := i) (by rw [List.getElem?_zipIdx, hf]; simp))
  simp only [Bool.and_eq_true, Bool.not_eq_true', Nat.beq_eq] at this
  refine ⟨this.1.1, this.1.2, ?_⟩
  have h2 := this.2
  split at h2
  · assumption
  · cases h2⟩
theorem qy {t t' : TypeId} {x y : Operand} (zs : List Int) (fs : Array Field) (hf : IntFs P t fs) (hl : zs.length = fs.size) (ho : o.op = .binOp .neq t x y t') (hx : ρ x = .agg (zs.map I)) (hy : ρ y = .agg (zs.map I)) : zh P o ρ H (B false) H := by
  have := qj (P := P) (H := H) fs hf ho hx hy hl hl
  simpa using this
theorem pE {t t' : TypeId} {x y : Operand} (zs : List Int) (fs : Array Field) (hf : IntFs P t fs) (hl : zs.length = fs.size) (ho : o.op = .binOp .eql t x y t') (hx : ρ x = .agg (zs.map I)) (hy : ρ y = .agg (zs.map I)) : zh P o ρ H (B true) H := by
  have := qm (P := P) (H := H) fs hf ho hx hy hl hl
  simpa using this
end
section
variable {P : Program} {T : Tab} {ops : Array Oper} {ds d : List Nat} {n : Nat} {Q : Exit → St → Prop} {o : Oper} {l l' : List V} {H K : List Reg} {m : Nat}
end
section
variable {P : Program} {o : Oper} {ρ : Operand → V} {K : List Reg}
theorem to {α : Type} (T : Ty α) {xs : List α} {i off : Nat} {z : α} {v : V} (hz : xs[i]? = some z) (hv : (T.enc z)[off]? = some v) : (T.flat xs)[i * T.n + off]? = some v := by
  rw [← List.getElem?_drop, tA T hz]
  exact z1 hv
theorem mt {α : Type} {T : Ty α} {t e h i off : Nat} {x : Operand} {xs : List α} {z : α} {v : V} [ht : Sc P t] (ho : o.op = .load t x) (hx : ρ x = .ptr h (i * T.n + off)) (hH : K[h]? = some (xD T e xs)) (hz : xs[i]? = some z) (hv : (T.enc z)[off]? = some v) : zh P o ρ K v K :=
  xl ho hx hH (Nat.zero_le _) (to T hz hv)
theorem mu {α : Type} {T : Ty α} {t e h i : Nat} {x : Operand} {xs : List α} {z : α} [ht : Ag P t T.n] (ho : o.op = .load t x) (hx : ρ x = .ptr h (i * T.n)) (hH : K[h]? = some (xD T e xs)) (hz : xs[i]? = some z) : zh P o ρ K (.agg (T.enc z)) K := by
  have hlt := (List.getElem?_eq_some_iff.1 hz).1
  have := xZ (P := P) (o := o) (ρ := ρ) (H := K) (n := T.n) ho hx hH (Nat.zero_le _) (by
    show i * T.n + T.n ≤ (T.flat xs).length
    rw [zr, ← Nat.succ_mul]
    exact Nat.mul_le_mul_right _ hlt)
  have e : ((xD T e xs).cells.drop (i * T.n)).take T.n = T.enc z := by
    show ((T.flat xs).drop (i * T.n)).take T.n = _
    rw [tA T hz, ← T.len z, List.take_left']
    rfl
  rw [e] at this
  exact this
end
theorem GiveN.flat {H : List Reg} {hs0 : List Nat} {n h : Nat} {R R' : Reg} {hs : List Nat} {Rs Rs' R2 : List Reg} (hH : H[h]? = some R) (hm : R.mode = 0) (hm' : R'.mode = 0) (hN : NoH R.cells) (hN' : NoH R'.cells) (ht : GiveN H hs0 n hs Rs Rs' R2) : GiveN H hs0 n (h :: hs) (R :: Rs) (R' :: Rs') (R' :: R2) :=
  .cons (R0 := R) (R' := R') (cs := R.cells) (cs2 := R'.cells) hH hm (wX hN) (by omega) (.rest hN') ht
end Go.Proofs.Ytkcicbigpbdjpaa.Ab
namespace Go.Proofs.Ytkcicbigpbdjpaa.Ab
open Go.RowKit
def shR (k : Nat) (r : Reg) : Reg := { r with cells := va k r.cells }
section
variable {A A' : Nat → Prop} {w w' : World} {φ φ' : List Hd} {H : List Reg}
end
section
variable {P : Program} {o : Oper} {ρ : Operand → V} {H : List Reg}
end
section
variable {α : Type} {T : Ty α} {e : TypeId}
def nC (b : Nat) : List (List α) → List V
  | [] => []
  | x :: xs => .sl b 0 x.length :: nC (b + 1) xs
def nR (T : Ty α) (e : TypeId) (rs : List (List α)) : List Reg := rs.map (xD T e)
def lsT (T : Ty α) : Ty (List α) := ⟨1, fun xs => [yW T xs], fun _ => rfl, by decide, fun r c hc => by
  simp only [List.mem_cons, List.not_mem_nil, or_false] at hc
  subst hc
  exact ⟨rfl, rfl⟩⟩
theorem sj {H : List Reg} {h : Nat} {x : List α} (hH : H[h]? = some (xD T e x)) : Pur true H (.sl h 0 x.length) (yW T x) := sk hH rfl rfl rfl
end
def FlatS (cs : List V) : Prop := ∀ c ∈ cs, (match c with | .k _ | .sl _ _ _ | .ptr _ _ | .any => true | _ => false) = true
section
variable {l : List V} {H : List Reg}
inductive EqS : List V → List V → Prop where
  | nil : EqS [] []
  | any {d : V} {cs ds : List V} (h : EqS cs ds) : EqS (.any :: cs) (d :: ds)
  | same {c d : V} {cs ds : List V} (hc : d = c) (h : EqS cs ds) : EqS (c :: cs) (d :: ds)
theorem EqS.length : ∀ {cs ds : List V}, EqS cs ds → ds.length = cs.length
  | _, _, .nil => rfl
  | _, _, .any h => by simp [EqS.length h]
  | _, _, .same _ h => by simp [EqS.length h]
theorem EqS.rels {A : Nat → Prop} {w : World} {φ : List Hd} : ∀ {cs ds : List V} {g : Nat → Option Value}, EqS cs ds → zZ A w φ ds g → zZ A w φ cs g
  | _, _, g, .nil, h => h
  | _, _, g, .any hs, h => by
    rw [zZ] at h ⊢
    obtain ⟨⟨y, h1, h2⟩, h3⟩ := h
    exact ⟨⟨y, h1, by simp [Rel]⟩, EqS.rels hs h3⟩
  | _, _, g, .same hc hs, h => by
    subst hc
    rw [zZ] at h ⊢
    obtain ⟨h1, h3⟩ := h
    exact ⟨h1, EqS.rels hs h3⟩
theorem xW {l' : List V} {H H' : List Reg} {m : Nat} (hH : H' = H) (ht : EqS l' l) : Sub ⟨l', H', m⟩ ⟨l, H, m⟩ := fun C φ a w hI => by
  subst hH
  obtain ⟨hm0, ⟨A, hA, hr⟩, hs, hd⟩ := hI
  exact ⟨φ, hm0, ⟨A, hA, EqS.rels ht hr⟩, hs.trans (EqS.length ht), hd⟩
end
theorem u6 {i n : Nat} (h : i < n) (hn : n ≤ 1000000000000) : I (IntKind.i64.wrap ((i : Int) + 1)) = I ((i + 1 : Nat) : Int) := congrArg I (uW h hn)
section
variable {P : Program} {o : Oper} {ρ : Operand → V} {H : List Reg}
end
end Go.Proofs.Ytkcicbigpbdjpaa.Ab
namespace Go.Proofs.Ytkcicbigpbdjpaa.Ab
open Go.RowKit
section
variable {α : Type} {T : Ty α} {e : TypeId}
end
section
variable {P : Program} {o : Oper} {ρ : Operand → V} {H : List Reg}
end
end Go.Proofs.Ytkcicbigpbdjpaa.Ab
namespace Go.Proofs.Ytkcicbigpbdjpaa.Ab
theorem sc2 : Sc Go.Proofs.Try.prog 2 := yZ Go.Proofs.Try.underlying2 rfl (by kernel_rfl)
instance : Sc Go.Proofs.Try.prog 2 := sc2
theorem ze2 : Ze Go.Proofs.Try.prog 2 [.int .i64 (0)] := z2 (z := .int .i64 (0)) (by kernel_rfl) rfl
instance : Ze Go.Proofs.Try.prog 2 [.int .i64 (0)] := ze2
theorem ik2 : Ik Go.Proofs.Try.prog 2 .i64 := ⟨Go.Proofs.Try.underlying2⟩
instance : Ik Go.Proofs.Try.prog 2 .i64 := ik2
theorem sc3 : Sc Go.Proofs.Try.prog 3 := yZ Go.Proofs.Try.underlying3 rfl (by kernel_rfl)
instance : Sc Go.Proofs.Try.prog 3 := sc3
theorem ze3 : Ze Go.Proofs.Try.prog 3 [.int .i64 (0)] := z2 (z := .int .i64 (0)) (by kernel_rfl) rfl
instance : Ze Go.Proofs.Try.prog 3 [.int .i64 (0)] := ze3
theorem ik3 : Ik Go.Proofs.Try.prog 3 .i64 := ⟨Go.Proofs.Try.underlying3⟩
instance : Ik Go.Proofs.Try.prog 3 .i64 := ik3
theorem sc4 : Sc Go.Proofs.Try.prog 4 := yZ Go.Proofs.Try.underlying4 rfl (by kernel_rfl)
instance : Sc Go.Proofs.Try.prog 4 := sc4
theorem ze4 : Ze Go.Proofs.Try.prog 4 [.bool false] := z2 (z := .bool false) (by kernel_rfl) rfl
instance : Ze Go.Proofs.Try.prog 4 [.bool false] := ze4
theorem bl4 : Go.Proofs.Try.prog.underlying 4 = some .bool := Go.Proofs.Try.underlying4
theorem sc5 : Sc Go.Proofs.Try.prog 5 := yZ Go.Proofs.Try.underlying5 rfl (by kernel_rfl)
instance : Sc Go.Proofs.Try.prog 5 := sc5
theorem ze5 : Ze Go.Proofs.Try.prog 5 [.int .u8 (0)] := z2 (z := .int .u8 (0)) (by kernel_rfl) rfl
instance : Ze Go.Proofs.Try.prog 5 [.int .u8 (0)] := ze5
theorem ik5 : Ik Go.Proofs.Try.prog 5 .u8 := ⟨Go.Proofs.Try.underlying5⟩
instance : Ik Go.Proofs.Try.prog 5 .u8 := ik5
theorem sc9 : Sc Go.Proofs.Try.prog 9 := yZ Go.Proofs.Try.underlying9 rfl (by kernel_rfl)
instance : Sc Go.Proofs.Try.prog 9 := sc9
theorem ze9 : Ze Go.Proofs.Try.prog 9 [.string .empty] := z2 (z := .string .empty) (by kernel_rfl) rfl
instance : Ze Go.Proofs.Try.prog 9 [.string .empty] := ze9
theorem str9 : Str Go.Proofs.Try.prog 9 := ⟨Go.Proofs.Try.underlying9⟩
instance : Str Go.Proofs.Try.prog 9 := str9
theorem sc12 : Sc Go.Proofs.Try.prog 12 := yZ Go.Proofs.Try.underlying12 rfl (by kernel_rfl)
instance : Sc Go.Proofs.Try.prog 12 := sc12
theorem ze12 : Ze Go.Proofs.Try.prog 12 [.int .u64 (0)] := z2 (z := .int .u64 (0)) (by kernel_rfl) rfl
instance : Ze Go.Proofs.Try.prog 12 [.int .u64 (0)] := ze12
theorem ik12 : Ik Go.Proofs.Try.prog 12 .u64 := ⟨Go.Proofs.Try.underlying12⟩
instance : Ik Go.Proofs.Try.prog 12 .u64 := ik12
theorem ag13 : Ag Go.Proofs.Try.prog 13 2 := xK Go.Proofs.Try.underlying13 (by kernel_rfl)
instance : Ag Go.Proofs.Try.prog 13 2 := ag13
theorem nx : Fd Go.Proofs.Try.prog 13 0 0 1 false := zx Go.Proofs.Try.underlying13 (off := 0) (ft := 9) rfl Go.Proofs.Try.underlying9 (n := 1) (by kernel_rfl) rfl (by decide)
instance : Fd Go.Proofs.Try.prog 13 0 0 1 false := nx
theorem nw : Fd Go.Proofs.Try.prog 13 1 1 1 false := zx Go.Proofs.Try.underlying13 (off := 1) (ft := 12) rfl Go.Proofs.Try.underlying12 (n := 1) (by kernel_rfl) rfl (by decide)
instance : Fd Go.Proofs.Try.prog 13 1 1 1 false := nw
theorem pl13 : Pl Go.Proofs.Try.prog 13 [(0, 1), (1, 1)] := xF Go.Proofs.Try.underlying13 (by kernel_rfl)
instance : Pl Go.Proofs.Try.prog 13 [(0, 1), (1, 1)] := pl13
theorem ze13 : Ze Go.Proofs.Try.prog 13 [.string .empty, .int .u64 (0)] := z2 (z := .agg #[.string .empty, .int .u64 (0)]) (by kernel_rfl) rfl
instance : Ze Go.Proofs.Try.prog 13 [.string .empty, .int .u64 (0)] := ze13
theorem sc21 : Sc Go.Proofs.Try.prog 21 := yZ Go.Proofs.Try.underlying21 rfl (by kernel_rfl)
instance : Sc Go.Proofs.Try.prog 21 := sc21
theorem ze21 : Ze Go.Proofs.Try.prog 21 [.int .i32 (0)] := z2 (z := .int .i32 (0)) (by kernel_rfl) rfl
instance : Ze Go.Proofs.Try.prog 21 [.int .i32 (0)] := ze21
theorem ik21 : Ik Go.Proofs.Try.prog 21 .i32 := ⟨Go.Proofs.Try.underlying21⟩
instance : Ik Go.Proofs.Try.prog 21 .i32 := ik21
theorem sc22 : Sc Go.Proofs.Try.prog 22 := yZ Go.Proofs.Try.underlying22 rfl (by kernel_rfl)
instance : Sc Go.Proofs.Try.prog 22 := sc22
theorem ze22 : Ze Go.Proofs.Try.prog 22 [.slice none 0 0] := z2 (z := .slice none 0 0) (by kernel_rfl) rfl
instance : Ze Go.Proofs.Try.prog 22 [.slice none 0 0] := ze22
theorem sl22 : Sl Go.Proofs.Try.prog 22 5 1 1 := wG (z := .int .u8 (0)) Go.Proofs.Try.underlying22 (by kernel_rfl) rfl (by decide)
instance : Sl Go.Proofs.Try.prog 22 5 1 1 := sl22
theorem sc24 : Sc Go.Proofs.Try.prog 24 := yZ Go.Proofs.Try.underlying24 rfl (by kernel_rfl)
instance : Sc Go.Proofs.Try.prog 24 := sc24
theorem ze24 : Ze Go.Proofs.Try.prog 24 [.slice none 0 0] := z2 (z := .slice none 0 0) (by kernel_rfl) rfl
instance : Ze Go.Proofs.Try.prog 24 [.slice none 0 0] := ze24
theorem sl24 : Sl Go.Proofs.Try.prog 24 71 3 24 := wG (z := .agg #[.int .i64 (0), .int .i64 (0), .int .i64 (0)]) Go.Proofs.Try.underlying24 (by kernel_rfl) rfl (by decide)
instance : Sl Go.Proofs.Try.prog 24 71 3 24 := sl24
theorem sc27 : Sc Go.Proofs.Try.prog 27 := yZ Go.Proofs.Try.underlying27 rfl (by kernel_rfl)
instance : Sc Go.Proofs.Try.prog 27 := sc27
theorem ze27 : Ze Go.Proofs.Try.prog 27 [.slice none 0 0] := z2 (z := .slice none 0 0) (by kernel_rfl) rfl
instance : Ze Go.Proofs.Try.prog 27 [.slice none 0 0] := ze27
theorem sl27 : Sl Go.Proofs.Try.prog 27 39 1 24 := wG (z := .agg #[.slice none 0 0]) Go.Proofs.Try.underlying27 (by kernel_rfl) rfl (by decide)
instance : Sl Go.Proofs.Try.prog 27 39 1 24 := sl27
theorem ag38 : Ag Go.Proofs.Try.prog 38 1 := xK Go.Proofs.Try.underlying38 (by kernel_rfl)
instance : Ag Go.Proofs.Try.prog 38 1 := ag38
theorem nv : Fd Go.Proofs.Try.prog 38 0 0 1 false := zx Go.Proofs.Try.underlying38 (off := 0) (ft := 24) rfl Go.Proofs.Try.underlying24 (n := 1) (by kernel_rfl) rfl (by decide)
instance : Fd Go.Proofs.Try.prog 38 0 0 1 false := nv
theorem pl38 : Pl Go.Proofs.Try.prog 38 [(0, 1)] := xF Go.Proofs.Try.underlying38 (by kernel_rfl)
instance : Pl Go.Proofs.Try.prog 38 [(0, 1)] := pl38
theorem ze38 : Ze Go.Proofs.Try.prog 38 [.slice none 0 0] := z2 (z := .agg #[.slice none 0 0]) (by kernel_rfl) rfl
instance : Ze Go.Proofs.Try.prog 38 [.slice none 0 0] := ze38
theorem ag39 : Ag Go.Proofs.Try.prog 39 1 := xK Go.Proofs.Try.underlying39 (by kernel_rfl)
instance : Ag Go.Proofs.Try.prog 39 1 := ag39
theorem nu : Fd Go.Proofs.Try.prog 39 0 0 1 false := zx Go.Proofs.Try.underlying39 (off := 0) (ft := 24) rfl Go.Proofs.Try.underlying24 (n := 1) (by kernel_rfl) rfl (by decide)
instance : Fd Go.Proofs.Try.prog 39 0 0 1 false := nu
theorem pl39 : Pl Go.Proofs.Try.prog 39 [(0, 1)] := xF Go.Proofs.Try.underlying39 (by kernel_rfl)
instance : Pl Go.Proofs.Try.prog 39 [(0, 1)] := pl39
theorem ze39 : Ze Go.Proofs.Try.prog 39 [.slice none 0 0] := z2 (z := .agg #[.slice none 0 0]) (by kernel_rfl) rfl
instance : Ze Go.Proofs.Try.prog 39 [.slice none 0 0] := ze39
theorem sc40 : Sc Go.Proofs.Try.prog 40 := yZ Go.Proofs.Try.underlying40 rfl (by kernel_rfl)
instance : Sc Go.Proofs.Try.prog 40 := sc40
theorem ze40 : Ze Go.Proofs.Try.prog 40 [.slice none 0 0] := z2 (z := .slice none 0 0) (by kernel_rfl) rfl
instance : Ze Go.Proofs.Try.prog 40 [.slice none 0 0] := ze40
theorem sl40 : Sl Go.Proofs.Try.prog 40 118 3 24 := wG (z := .agg #[.int .i64 (0), .int .i64 (0), .int .i64 (0)]) Go.Proofs.Try.underlying40 (by kernel_rfl) rfl (by decide)
instance : Sl Go.Proofs.Try.prog 40 118 3 24 := sl40
theorem sc46 : Sc Go.Proofs.Try.prog 46 := yZ Go.Proofs.Try.underlying46 rfl (by kernel_rfl)
instance : Sc Go.Proofs.Try.prog 46 := sc46
theorem ze46 : Ze Go.Proofs.Try.prog 46 [.slice none 0 0] := z2 (z := .slice none 0 0) (by kernel_rfl) rfl
instance : Ze Go.Proofs.Try.prog 46 [.slice none 0 0] := ze46
theorem sl46 : Sl Go.Proofs.Try.prog 46 123 1 24 := wG (z := .agg #[.slice none 0 0]) Go.Proofs.Try.underlying46 (by kernel_rfl) rfl (by decide)
instance : Sl Go.Proofs.Try.prog 46 123 1 24 := sl46
theorem sc61 : Sc Go.Proofs.Try.prog 61 := yZ Go.Proofs.Try.underlying61 rfl (by kernel_rfl)
instance : Sc Go.Proofs.Try.prog 61 := sc61
theorem ze61 : Ze Go.Proofs.Try.prog 61 [.slice none 0 0] := z2 (z := .slice none 0 0) (by kernel_rfl) rfl
instance : Ze Go.Proofs.Try.prog 61 [.slice none 0 0] := ze61
theorem sl61 : Sl Go.Proofs.Try.prog 61 131 7 56 := wG (z := .agg #[.int .i64 (0), .int .i64 (0), .int .i64 (0), .int .i64 (0), .int .i64 (0), .int .i64 (0), .bool false]) Go.Proofs.Try.underlying61 (by kernel_rfl) rfl (by decide)
instance : Sl Go.Proofs.Try.prog 61 131 7 56 := sl61
theorem sc64 : Sc Go.Proofs.Try.prog 64 := yZ Go.Proofs.Try.underlying64 rfl (by kernel_rfl)
instance : Sc Go.Proofs.Try.prog 64 := sc64
theorem ze64 : Ze Go.Proofs.Try.prog 64 [.slice none 0 0] := z2 (z := .slice none 0 0) (by kernel_rfl) rfl
instance : Ze Go.Proofs.Try.prog 64 [.slice none 0 0] := ze64
theorem sl64 : Sl Go.Proofs.Try.prog 64 73 7 56 := wG (z := .agg #[.int .i64 (0), .int .i64 (0), .int .i64 (0), .int .i64 (0), .int .i64 (0), .int .i64 (0), .bool false]) Go.Proofs.Try.underlying64 (by kernel_rfl) rfl (by decide)
instance : Sl Go.Proofs.Try.prog 64 73 7 56 := sl64
theorem ag70 : Ag Go.Proofs.Try.prog 70 3 := xK Go.Proofs.Try.underlying70 (by kernel_rfl)
instance : Ag Go.Proofs.Try.prog 70 3 := ag70
theorem nt : Fd Go.Proofs.Try.prog 70 0 0 1 false := zx Go.Proofs.Try.underlying70 (off := 0) (ft := 3) rfl Go.Proofs.Try.underlying3 (n := 1) (by kernel_rfl) rfl (by decide)
instance : Fd Go.Proofs.Try.prog 70 0 0 1 false := nt
theorem ns : Fd Go.Proofs.Try.prog 70 1 1 1 false := zx Go.Proofs.Try.underlying70 (off := 1) (ft := 3) rfl Go.Proofs.Try.underlying3 (n := 1) (by kernel_rfl) rfl (by decide)
instance : Fd Go.Proofs.Try.prog 70 1 1 1 false := ns
theorem nr : Fd Go.Proofs.Try.prog 70 2 2 1 false := zx Go.Proofs.Try.underlying70 (off := 2) (ft := 3) rfl Go.Proofs.Try.underlying3 (n := 1) (by kernel_rfl) rfl (by decide)
instance : Fd Go.Proofs.Try.prog 70 2 2 1 false := nr
theorem pl70 : Pl Go.Proofs.Try.prog 70 [(0, 1), (1, 1), (2, 1)] := xF Go.Proofs.Try.underlying70 (by kernel_rfl)
instance : Pl Go.Proofs.Try.prog 70 [(0, 1), (1, 1), (2, 1)] := pl70
theorem ze70 : Ze Go.Proofs.Try.prog 70 [.int .i64 (0), .int .i64 (0), .int .i64 (0)] := z2 (z := .agg #[.int .i64 (0), .int .i64 (0), .int .i64 (0)]) (by kernel_rfl) rfl
instance : Ze Go.Proofs.Try.prog 70 [.int .i64 (0), .int .i64 (0), .int .i64 (0)] := ze70
theorem ag71 : Ag Go.Proofs.Try.prog 71 3 := xK Go.Proofs.Try.underlying71 (by kernel_rfl)
instance : Ag Go.Proofs.Try.prog 71 3 := ag71
theorem nq : Fd Go.Proofs.Try.prog 71 0 0 1 false := zx Go.Proofs.Try.underlying71 (off := 0) (ft := 3) rfl Go.Proofs.Try.underlying3 (n := 1) (by kernel_rfl) rfl (by decide)
instance : Fd Go.Proofs.Try.prog 71 0 0 1 false := nq
theorem np : Fd Go.Proofs.Try.prog 71 1 1 1 false := zx Go.Proofs.Try.underlying71 (off := 1) (ft := 3) rfl Go.Proofs.Try.underlying3 (n := 1) (by kernel_rfl) rfl (by decide)
instance : Fd Go.Proofs.Try.prog 71 1 1 1 false := np
theorem nn : Fd Go.Proofs.Try.prog 71 2 2 1 false := zx Go.Proofs.Try.underlying71 (off := 2) (ft := 3) rfl Go.Proofs.Try.underlying3 (n := 1) (by kernel_rfl) rfl (by decide)
instance : Fd Go.Proofs.Try.prog 71 2 2 1 false := nn
theorem pl71 : Pl Go.Proofs.Try.prog 71 [(0, 1), (1, 1), (2, 1)] := xF Go.Proofs.Try.underlying71 (by kernel_rfl)
instance : Pl Go.Proofs.Try.prog 71 [(0, 1), (1, 1), (2, 1)] := pl71
theorem ze71 : Ze Go.Proofs.Try.prog 71 [.int .i64 (0), .int .i64 (0), .int .i64 (0)] := z2 (z := .agg #[.int .i64 (0), .int .i64 (0), .int .i64 (0)]) (by kernel_rfl) rfl
instance : Ze Go.Proofs.Try.prog 71 [.int .i64 (0), .int .i64 (0), .int .i64 (0)] := ze71
theorem ag72 : Ag Go.Proofs.Try.prog 72 7 := xK Go.Proofs.Try.underlying72 (by kernel_rfl)
instance : Ag Go.Proofs.Try.prog 72 7 := ag72
theorem nm : Fd Go.Proofs.Try.prog 72 0 0 3 true := zx Go.Proofs.Try.underlying72 (off := 0) (ft := 71) rfl Go.Proofs.Try.underlying71 (n := 3) (by kernel_rfl) rfl (by decide)
instance : Fd Go.Proofs.Try.prog 72 0 0 3 true := nm
theorem nl : Fd Go.Proofs.Try.prog 72 1 3 3 true := zx Go.Proofs.Try.underlying72 (off := 3) (ft := 71) rfl Go.Proofs.Try.underlying71 (n := 3) (by kernel_rfl) rfl (by decide)
instance : Fd Go.Proofs.Try.prog 72 1 3 3 true := nl
theorem nk : Fd Go.Proofs.Try.prog 72 2 6 1 false := zx Go.Proofs.Try.underlying72 (off := 6) (ft := 4) rfl Go.Proofs.Try.underlying4 (n := 1) (by kernel_rfl) rfl (by decide)
instance : Fd Go.Proofs.Try.prog 72 2 6 1 false := nk
theorem pl72 : Pl Go.Proofs.Try.prog 72 [(0, 3), (3, 3), (6, 1)] := xF Go.Proofs.Try.underlying72 (by kernel_rfl)
instance : Pl Go.Proofs.Try.prog 72 [(0, 3), (3, 3), (6, 1)] := pl72
theorem ze72 : Ze Go.Proofs.Try.prog 72 [.int .i64 (0), .int .i64 (0), .int .i64 (0), .int .i64 (0), .int .i64 (0), .int .i64 (0), .bool false] := z2 (z := .agg #[.int .i64 (0), .int .i64 (0), .int .i64 (0), .int .i64 (0), .int .i64 (0), .int .i64 (0), .bool false]) (by kernel_rfl) rfl
instance : Ze Go.Proofs.Try.prog 72 [.int .i64 (0), .int .i64 (0), .int .i64 (0), .int .i64 (0), .int .i64 (0), .int .i64 (0), .bool false] := ze72
theorem ag73 : Ag Go.Proofs.Try.prog 73 7 := xK Go.Proofs.Try.underlying73 (by kernel_rfl)
instance : Ag Go.Proofs.Try.prog 73 7 := ag73
theorem nj : Fd Go.Proofs.Try.prog 73 0 0 3 true := zx Go.Proofs.Try.underlying73 (off := 0) (ft := 71) rfl Go.Proofs.Try.underlying71 (n := 3) (by kernel_rfl) rfl (by decide)
instance : Fd Go.Proofs.Try.prog 73 0 0 3 true := nj
theorem ni : Fd Go.Proofs.Try.prog 73 1 3 3 true := zx Go.Proofs.Try.underlying73 (off := 3) (ft := 71) rfl Go.Proofs.Try.underlying71 (n := 3) (by kernel_rfl) rfl (by decide)
instance : Fd Go.Proofs.Try.prog 73 1 3 3 true := ni
theorem nh : Fd Go.Proofs.Try.prog 73 2 6 1 false := zx Go.Proofs.Try.underlying73 (off := 6) (ft := 4) rfl Go.Proofs.Try.underlying4 (n := 1) (by kernel_rfl) rfl (by decide)
instance : Fd Go.Proofs.Try.prog 73 2 6 1 false := nh
theorem pl73 : Pl Go.Proofs.Try.prog 73 [(0, 3), (3, 3), (6, 1)] := xF Go.Proofs.Try.underlying73 (by kernel_rfl)
instance : Pl Go.Proofs.Try.prog 73 [(0, 3), (3, 3), (6, 1)] := pl73
theorem ze73 : Ze Go.Proofs.Try.prog 73 [.int .i64 (0), .int .i64 (0), .int .i64 (0), .int .i64 (0), .int .i64 (0), .int .i64 (0), .bool false] := z2 (z := .agg #[.int .i64 (0), .int .i64 (0), .int .i64 (0), .int .i64 (0), .int .i64 (0), .int .i64 (0), .bool false]) (by kernel_rfl) rfl
instance : Ze Go.Proofs.Try.prog 73 [.int .i64 (0), .int .i64 (0), .int .i64 (0), .int .i64 (0), .int .i64 (0), .int .i64 (0), .bool false] := ze73
theorem sc82 : Sc Go.Proofs.Try.prog 82 := yZ Go.Proofs.Try.underlying82 rfl (by kernel_rfl)
instance : Sc Go.Proofs.Try.prog 82 := sc82
theorem ze82 : Ze Go.Proofs.Try.prog 82 [.slice none 0 0] := z2 (z := .slice none 0 0) (by kernel_rfl) rfl
instance : Ze Go.Proofs.Try.prog 82 [.slice none 0 0] := ze82
theorem sl82 : Sl Go.Proofs.Try.prog 82 139 5 40 := wG (z := .agg #[.int .i64 (0), .int .i64 (0), .int .i64 (0), .int .i64 (0), .int .i64 (0)]) Go.Proofs.Try.underlying82 (by kernel_rfl) rfl (by decide)
instance : Sl Go.Proofs.Try.prog 82 139 5 40 := sl82
theorem sc84 : Sc Go.Proofs.Try.prog 84 := yZ Go.Proofs.Try.underlying84 rfl (by kernel_rfl)
instance : Sc Go.Proofs.Try.prog 84 := sc84
theorem ze84 : Ze Go.Proofs.Try.prog 84 [.slice none 0 0] := z2 (z := .slice none 0 0) (by kernel_rfl) rfl
instance : Ze Go.Proofs.Try.prog 84 [.slice none 0 0] := ze84
theorem sl84 : Sl Go.Proofs.Try.prog 84 95 5 40 := wG (z := .agg #[.int .i64 (0), .int .i64 (0), .int .i64 (0), .int .i64 (0), .int .i64 (0)]) Go.Proofs.Try.underlying84 (by kernel_rfl) rfl (by decide)
instance : Sl Go.Proofs.Try.prog 84 95 5 40 := sl84
theorem ag94 : Ag Go.Proofs.Try.prog 94 5 := xK Go.Proofs.Try.underlying94 (by kernel_rfl)
instance : Ag Go.Proofs.Try.prog 94 5 := ag94
theorem ng : Fd Go.Proofs.Try.prog 94 0 0 1 false := zx Go.Proofs.Try.underlying94 (off := 0) (ft := 3) rfl Go.Proofs.Try.underlying3 (n := 1) (by kernel_rfl) rfl (by decide)
instance : Fd Go.Proofs.Try.prog 94 0 0 1 false := ng
theorem nf : Fd Go.Proofs.Try.prog 94 1 1 1 false := zx Go.Proofs.Try.underlying94 (off := 1) (ft := 3) rfl Go.Proofs.Try.underlying3 (n := 1) (by kernel_rfl) rfl (by decide)
instance : Fd Go.Proofs.Try.prog 94 1 1 1 false := nf
theorem ne : Fd Go.Proofs.Try.prog 94 2 2 1 false := zx Go.Proofs.Try.underlying94 (off := 2) (ft := 3) rfl Go.Proofs.Try.underlying3 (n := 1) (by kernel_rfl) rfl (by decide)
instance : Fd Go.Proofs.Try.prog 94 2 2 1 false := ne
theorem nc : Fd Go.Proofs.Try.prog 94 3 3 1 false := zx Go.Proofs.Try.underlying94 (off := 3) (ft := 3) rfl Go.Proofs.Try.underlying3 (n := 1) (by kernel_rfl) rfl (by decide)
instance : Fd Go.Proofs.Try.prog 94 3 3 1 false := nc
theorem nb : Fd Go.Proofs.Try.prog 94 4 4 1 false := zx Go.Proofs.Try.underlying94 (off := 4) (ft := 3) rfl Go.Proofs.Try.underlying3 (n := 1) (by kernel_rfl) rfl (by decide)
instance : Fd Go.Proofs.Try.prog 94 4 4 1 false := nb
theorem pl94 : Pl Go.Proofs.Try.prog 94 [(0, 1), (1, 1), (2, 1), (3, 1), (4, 1)] := xF Go.Proofs.Try.underlying94 (by kernel_rfl)
instance : Pl Go.Proofs.Try.prog 94 [(0, 1), (1, 1), (2, 1), (3, 1), (4, 1)] := pl94
theorem ze94 : Ze Go.Proofs.Try.prog 94 [.int .i64 (0), .int .i64 (0), .int .i64 (0), .int .i64 (0), .int .i64 (0)] := z2 (z := .agg #[.int .i64 (0), .int .i64 (0), .int .i64 (0), .int .i64 (0), .int .i64 (0)]) (by kernel_rfl) rfl
instance : Ze Go.Proofs.Try.prog 94 [.int .i64 (0), .int .i64 (0), .int .i64 (0), .int .i64 (0), .int .i64 (0)] := ze94
theorem ag95 : Ag Go.Proofs.Try.prog 95 5 := xK Go.Proofs.Try.underlying95 (by kernel_rfl)
instance : Ag Go.Proofs.Try.prog 95 5 := ag95
theorem na : Fd Go.Proofs.Try.prog 95 0 0 1 false := zx Go.Proofs.Try.underlying95 (off := 0) (ft := 3) rfl Go.Proofs.Try.underlying3 (n := 1) (by kernel_rfl) rfl (by decide)
instance : Fd Go.Proofs.Try.prog 95 0 0 1 false := na
theorem nZ : Fd Go.Proofs.Try.prog 95 1 1 1 false := zx Go.Proofs.Try.underlying95 (off := 1) (ft := 3) rfl Go.Proofs.Try.underlying3 (n := 1) (by kernel_rfl) rfl (by decide)
instance : Fd Go.Proofs.Try.prog 95 1 1 1 false := nZ
theorem nY : Fd Go.Proofs.Try.prog 95 2 2 1 false := zx Go.Proofs.Try.underlying95 (off := 2) (ft := 3) rfl Go.Proofs.Try.underlying3 (n := 1) (by kernel_rfl) rfl (by decide)
instance : Fd Go.Proofs.Try.prog 95 2 2 1 false := nY
theorem nX : Fd Go.Proofs.Try.prog 95 3 3 1 false := zx Go.Proofs.Try.underlying95 (off := 3) (ft := 3) rfl Go.Proofs.Try.underlying3 (n := 1) (by kernel_rfl) rfl (by decide)
instance : Fd Go.Proofs.Try.prog 95 3 3 1 false := nX
theorem nW : Fd Go.Proofs.Try.prog 95 4 4 1 false := zx Go.Proofs.Try.underlying95 (off := 4) (ft := 3) rfl Go.Proofs.Try.underlying3 (n := 1) (by kernel_rfl) rfl (by decide)
instance : Fd Go.Proofs.Try.prog 95 4 4 1 false := nW
theorem pl95 : Pl Go.Proofs.Try.prog 95 [(0, 1), (1, 1), (2, 1), (3, 1), (4, 1)] := xF Go.Proofs.Try.underlying95 (by kernel_rfl)
instance : Pl Go.Proofs.Try.prog 95 [(0, 1), (1, 1), (2, 1), (3, 1), (4, 1)] := pl95
theorem ze95 : Ze Go.Proofs.Try.prog 95 [.int .i64 (0), .int .i64 (0), .int .i64 (0), .int .i64 (0), .int .i64 (0)] := z2 (z := .agg #[.int .i64 (0), .int .i64 (0), .int .i64 (0), .int .i64 (0), .int .i64 (0)]) (by kernel_rfl) rfl
instance : Ze Go.Proofs.Try.prog 95 [.int .i64 (0), .int .i64 (0), .int .i64 (0), .int .i64 (0), .int .i64 (0)] := ze95
theorem l6 : Sc Go.Proofs.Try.prog 104 := yZ Go.Proofs.Try.underlying104 rfl (by kernel_rfl)
instance : Sc Go.Proofs.Try.prog 104 := l6
theorem lh : Ze Go.Proofs.Try.prog 104 [.pointer none] := z2 (z := .pointer none) (by kernel_rfl) rfl
instance : Ze Go.Proofs.Try.prog 104 [.pointer none] := lh
theorem l5 : Sc Go.Proofs.Try.prog 114 := yZ Go.Proofs.Try.underlying114 rfl (by kernel_rfl)
instance : Sc Go.Proofs.Try.prog 114 := l5
theorem lg : Ze Go.Proofs.Try.prog 114 [.slice none 0 0] := z2 (z := .slice none 0 0) (by kernel_rfl) rfl
instance : Ze Go.Proofs.Try.prog 114 [.slice none 0 0] := lg
theorem lm : Sl Go.Proofs.Try.prog 114 9 1 16 := wG (z := .string .empty) Go.Proofs.Try.underlying114 (by kernel_rfl) rfl (by decide)
instance : Sl Go.Proofs.Try.prog 114 9 1 16 := lm
theorem kY : Ag Go.Proofs.Try.prog 118 3 := xK Go.Proofs.Try.underlying118 (by kernel_rfl)
instance : Ag Go.Proofs.Try.prog 118 3 := kY
theorem qU : Fd Go.Proofs.Try.prog 118 0 0 1 false := zx Go.Proofs.Try.underlying118 (off := 0) (ft := 3) rfl Go.Proofs.Try.underlying3 (n := 1) (by kernel_rfl) rfl (by decide)
instance : Fd Go.Proofs.Try.prog 118 0 0 1 false := qU
theorem qT : Fd Go.Proofs.Try.prog 118 1 1 1 false := zx Go.Proofs.Try.underlying118 (off := 1) (ft := 3) rfl Go.Proofs.Try.underlying3 (n := 1) (by kernel_rfl) rfl (by decide)
instance : Fd Go.Proofs.Try.prog 118 1 1 1 false := qT
theorem qS : Fd Go.Proofs.Try.prog 118 2 2 1 false := zx Go.Proofs.Try.underlying118 (off := 2) (ft := 3) rfl Go.Proofs.Try.underlying3 (n := 1) (by kernel_rfl) rfl (by decide)
instance : Fd Go.Proofs.Try.prog 118 2 2 1 false := qS
theorem kF : Pl Go.Proofs.Try.prog 118 [(0, 1), (1, 1), (2, 1)] := xF Go.Proofs.Try.underlying118 (by kernel_rfl)
instance : Pl Go.Proofs.Try.prog 118 [(0, 1), (1, 1), (2, 1)] := kF
theorem lf : Ze Go.Proofs.Try.prog 118 [.int .i64 (0), .int .i64 (0), .int .i64 (0)] := z2 (z := .agg #[.int .i64 (0), .int .i64 (0), .int .i64 (0)]) (by kernel_rfl) rfl
instance : Ze Go.Proofs.Try.prog 118 [.int .i64 (0), .int .i64 (0), .int .i64 (0)] := lf
theorem kX : Ag Go.Proofs.Try.prog 122 1 := xK Go.Proofs.Try.underlying122 (by kernel_rfl)
instance : Ag Go.Proofs.Try.prog 122 1 := kX
theorem qR : Fd Go.Proofs.Try.prog 122 0 0 1 false := zx Go.Proofs.Try.underlying122 (off := 0) (ft := 40) rfl Go.Proofs.Try.underlying40 (n := 1) (by kernel_rfl) rfl (by decide)
instance : Fd Go.Proofs.Try.prog 122 0 0 1 false := qR
theorem kE : Pl Go.Proofs.Try.prog 122 [(0, 1)] := xF Go.Proofs.Try.underlying122 (by kernel_rfl)
instance : Pl Go.Proofs.Try.prog 122 [(0, 1)] := kE
theorem le : Ze Go.Proofs.Try.prog 122 [.slice none 0 0] := z2 (z := .agg #[.slice none 0 0]) (by kernel_rfl) rfl
instance : Ze Go.Proofs.Try.prog 122 [.slice none 0 0] := le
theorem kW : Ag Go.Proofs.Try.prog 123 1 := xK Go.Proofs.Try.underlying123 (by kernel_rfl)
instance : Ag Go.Proofs.Try.prog 123 1 := kW
theorem qQ : Fd Go.Proofs.Try.prog 123 0 0 1 false := zx Go.Proofs.Try.underlying123 (off := 0) (ft := 40) rfl Go.Proofs.Try.underlying40 (n := 1) (by kernel_rfl) rfl (by decide)
instance : Fd Go.Proofs.Try.prog 123 0 0 1 false := qQ
theorem kD : Pl Go.Proofs.Try.prog 123 [(0, 1)] := xF Go.Proofs.Try.underlying123 (by kernel_rfl)
instance : Pl Go.Proofs.Try.prog 123 [(0, 1)] := kD
theorem ld : Ze Go.Proofs.Try.prog 123 [.slice none 0 0] := z2 (z := .agg #[.slice none 0 0]) (by kernel_rfl) rfl
instance : Ze Go.Proofs.Try.prog 123 [.slice none 0 0] := ld
theorem lz : Sc Go.Proofs.Try.prog 127 := yZ Go.Proofs.Try.underlying127 rfl (by kernel_rfl)
instance : Sc Go.Proofs.Try.prog 127 := lz
theorem lc : Ze Go.Proofs.Try.prog 127 [.slice none 0 0] := z2 (z := .slice none 0 0) (by kernel_rfl) rfl
instance : Ze Go.Proofs.Try.prog 127 [.slice none 0 0] := lc
theorem ll : Sl Go.Proofs.Try.prog 127 3 1 8 := wG (z := .int .i64 (0)) Go.Proofs.Try.underlying127 (by kernel_rfl) rfl (by decide)
instance : Sl Go.Proofs.Try.prog 127 3 1 8 := ll
theorem kV : Ag Go.Proofs.Try.prog 130 7 := xK Go.Proofs.Try.underlying130 (by kernel_rfl)
instance : Ag Go.Proofs.Try.prog 130 7 := kV
theorem qP : Fd Go.Proofs.Try.prog 130 0 0 3 true := zx Go.Proofs.Try.underlying130 (off := 0) (ft := 118) rfl Go.Proofs.Try.underlying118 (n := 3) (by kernel_rfl) rfl (by decide)
instance : Fd Go.Proofs.Try.prog 130 0 0 3 true := qP
theorem qO : Fd Go.Proofs.Try.prog 130 1 3 3 true := zx Go.Proofs.Try.underlying130 (off := 3) (ft := 118) rfl Go.Proofs.Try.underlying118 (n := 3) (by kernel_rfl) rfl (by decide)
instance : Fd Go.Proofs.Try.prog 130 1 3 3 true := qO
theorem qN : Fd Go.Proofs.Try.prog 130 2 6 1 false := zx Go.Proofs.Try.underlying130 (off := 6) (ft := 4) rfl Go.Proofs.Try.underlying4 (n := 1) (by kernel_rfl) rfl (by decide)
instance : Fd Go.Proofs.Try.prog 130 2 6 1 false := qN
theorem kC : Pl Go.Proofs.Try.prog 130 [(0, 3), (3, 3), (6, 1)] := xF Go.Proofs.Try.underlying130 (by kernel_rfl)
instance : Pl Go.Proofs.Try.prog 130 [(0, 3), (3, 3), (6, 1)] := kC
theorem lZ : Ze Go.Proofs.Try.prog 130 [.int .i64 (0), .int .i64 (0), .int .i64 (0), .int .i64 (0), .int .i64 (0), .int .i64 (0), .bool false] := z2 (z := .agg #[.int .i64 (0), .int .i64 (0), .int .i64 (0), .int .i64 (0), .int .i64 (0), .int .i64 (0), .bool false]) (by kernel_rfl) rfl
instance : Ze Go.Proofs.Try.prog 130 [.int .i64 (0), .int .i64 (0), .int .i64 (0), .int .i64 (0), .int .i64 (0), .int .i64 (0), .bool false] := lZ
theorem kU : Ag Go.Proofs.Try.prog 131 7 := xK Go.Proofs.Try.underlying131 (by kernel_rfl)
instance : Ag Go.Proofs.Try.prog 131 7 := kU
theorem qM : Fd Go.Proofs.Try.prog 131 0 0 3 true := zx Go.Proofs.Try.underlying131 (off := 0) (ft := 118) rfl Go.Proofs.Try.underlying118 (n := 3) (by kernel_rfl) rfl (by decide)
instance : Fd Go.Proofs.Try.prog 131 0 0 3 true := qM
theorem qL : Fd Go.Proofs.Try.prog 131 1 3 3 true := zx Go.Proofs.Try.underlying131 (off := 3) (ft := 118) rfl Go.Proofs.Try.underlying118 (n := 3) (by kernel_rfl) rfl (by decide)
instance : Fd Go.Proofs.Try.prog 131 1 3 3 true := qL
theorem qK : Fd Go.Proofs.Try.prog 131 2 6 1 false := zx Go.Proofs.Try.underlying131 (off := 6) (ft := 4) rfl Go.Proofs.Try.underlying4 (n := 1) (by kernel_rfl) rfl (by decide)
instance : Fd Go.Proofs.Try.prog 131 2 6 1 false := qK
theorem kB : Pl Go.Proofs.Try.prog 131 [(0, 3), (3, 3), (6, 1)] := xF Go.Proofs.Try.underlying131 (by kernel_rfl)
instance : Pl Go.Proofs.Try.prog 131 [(0, 3), (3, 3), (6, 1)] := kB
theorem lY : Ze Go.Proofs.Try.prog 131 [.int .i64 (0), .int .i64 (0), .int .i64 (0), .int .i64 (0), .int .i64 (0), .int .i64 (0), .bool false] := z2 (z := .agg #[.int .i64 (0), .int .i64 (0), .int .i64 (0), .int .i64 (0), .int .i64 (0), .int .i64 (0), .bool false]) (by kernel_rfl) rfl
instance : Ze Go.Proofs.Try.prog 131 [.int .i64 (0), .int .i64 (0), .int .i64 (0), .int .i64 (0), .int .i64 (0), .int .i64 (0), .bool false] := lY
theorem kT : Ag Go.Proofs.Try.prog 139 5 := xK Go.Proofs.Try.underlying139 (by kernel_rfl)
instance : Ag Go.Proofs.Try.prog 139 5 := kT
theorem qJ : Fd Go.Proofs.Try.prog 139 0 0 1 false := zx Go.Proofs.Try.underlying139 (off := 0) (ft := 3) rfl Go.Proofs.Try.underlying3 (n := 1) (by kernel_rfl) rfl (by decide)
instance : Fd Go.Proofs.Try.prog 139 0 0 1 false := qJ
theorem qI : Fd Go.Proofs.Try.prog 139 1 1 1 false := zx Go.Proofs.Try.underlying139 (off := 1) (ft := 3) rfl Go.Proofs.Try.underlying3 (n := 1) (by kernel_rfl) rfl (by decide)
instance : Fd Go.Proofs.Try.prog 139 1 1 1 false := qI
theorem qH : Fd Go.Proofs.Try.prog 139 2 2 1 false := zx Go.Proofs.Try.underlying139 (off := 2) (ft := 3) rfl Go.Proofs.Try.underlying3 (n := 1) (by kernel_rfl) rfl (by decide)
instance : Fd Go.Proofs.Try.prog 139 2 2 1 false := qH
theorem qG : Fd Go.Proofs.Try.prog 139 3 3 1 false := zx Go.Proofs.Try.underlying139 (off := 3) (ft := 3) rfl Go.Proofs.Try.underlying3 (n := 1) (by kernel_rfl) rfl (by decide)
instance : Fd Go.Proofs.Try.prog 139 3 3 1 false := qG
theorem qF : Fd Go.Proofs.Try.prog 139 4 4 1 false := zx Go.Proofs.Try.underlying139 (off := 4) (ft := 3) rfl Go.Proofs.Try.underlying3 (n := 1) (by kernel_rfl) rfl (by decide)
instance : Fd Go.Proofs.Try.prog 139 4 4 1 false := qF
theorem kA : Pl Go.Proofs.Try.prog 139 [(0, 1), (1, 1), (2, 1), (3, 1), (4, 1)] := xF Go.Proofs.Try.underlying139 (by kernel_rfl)
instance : Pl Go.Proofs.Try.prog 139 [(0, 1), (1, 1), (2, 1), (3, 1), (4, 1)] := kA
theorem lX : Ze Go.Proofs.Try.prog 139 [.int .i64 (0), .int .i64 (0), .int .i64 (0), .int .i64 (0), .int .i64 (0)] := z2 (z := .agg #[.int .i64 (0), .int .i64 (0), .int .i64 (0), .int .i64 (0), .int .i64 (0)]) (by kernel_rfl) rfl
instance : Ze Go.Proofs.Try.prog 139 [.int .i64 (0), .int .i64 (0), .int .i64 (0), .int .i64 (0), .int .i64 (0)] := lX
theorem kS : Ag Go.Proofs.Try.prog 153 3 := xK Go.Proofs.Try.underlying153 (by kernel_rfl)
instance : Ag Go.Proofs.Try.prog 153 3 := kS
theorem qE : Fd Go.Proofs.Try.prog 153 0 0 1 false := zx Go.Proofs.Try.underlying153 (off := 0) (ft := 22) rfl Go.Proofs.Try.underlying22 (n := 1) (by kernel_rfl) rfl (by decide)
instance : Fd Go.Proofs.Try.prog 153 0 0 1 false := qE
theorem qD : Fd Go.Proofs.Try.prog 153 1 1 1 false := zx Go.Proofs.Try.underlying153 (off := 1) (ft := 3) rfl Go.Proofs.Try.underlying3 (n := 1) (by kernel_rfl) rfl (by decide)
instance : Fd Go.Proofs.Try.prog 153 1 1 1 false := qD
theorem qC : Fd Go.Proofs.Try.prog 153 2 2 1 false := zx Go.Proofs.Try.underlying153 (off := 2) (ft := 3) rfl Go.Proofs.Try.underlying3 (n := 1) (by kernel_rfl) rfl (by decide)
instance : Fd Go.Proofs.Try.prog 153 2 2 1 false := qC
theorem l9 : Pl Go.Proofs.Try.prog 153 [(0, 1), (1, 1), (2, 1)] := xF Go.Proofs.Try.underlying153 (by kernel_rfl)
instance : Pl Go.Proofs.Try.prog 153 [(0, 1), (1, 1), (2, 1)] := l9
theorem lW : Ze Go.Proofs.Try.prog 153 [.slice none 0 0, .int .i64 (0), .int .i64 (0)] := z2 (z := .agg #[.slice none 0 0, .int .i64 (0), .int .i64 (0)]) (by kernel_rfl) rfl
instance : Ze Go.Proofs.Try.prog 153 [.slice none 0 0, .int .i64 (0), .int .i64 (0)] := lW
theorem kR : Ag Go.Proofs.Try.prog 154 3 := xK Go.Proofs.Try.underlying154 (by kernel_rfl)
instance : Ag Go.Proofs.Try.prog 154 3 := kR
theorem qB : Fd Go.Proofs.Try.prog 154 0 0 1 false := zx Go.Proofs.Try.underlying154 (off := 0) (ft := 22) rfl Go.Proofs.Try.underlying22 (n := 1) (by kernel_rfl) rfl (by decide)
instance : Fd Go.Proofs.Try.prog 154 0 0 1 false := qB
theorem qA : Fd Go.Proofs.Try.prog 154 1 1 1 false := zx Go.Proofs.Try.underlying154 (off := 1) (ft := 3) rfl Go.Proofs.Try.underlying3 (n := 1) (by kernel_rfl) rfl (by decide)
instance : Fd Go.Proofs.Try.prog 154 1 1 1 false := qA
theorem s9 : Fd Go.Proofs.Try.prog 154 2 2 1 false := zx Go.Proofs.Try.underlying154 (off := 2) (ft := 3) rfl Go.Proofs.Try.underlying3 (n := 1) (by kernel_rfl) rfl (by decide)
instance : Fd Go.Proofs.Try.prog 154 2 2 1 false := s9
theorem l8 : Pl Go.Proofs.Try.prog 154 [(0, 1), (1, 1), (2, 1)] := xF Go.Proofs.Try.underlying154 (by kernel_rfl)
instance : Pl Go.Proofs.Try.prog 154 [(0, 1), (1, 1), (2, 1)] := l8
theorem lV : Ze Go.Proofs.Try.prog 154 [.slice none 0 0, .int .i64 (0), .int .i64 (0)] := z2 (z := .agg #[.slice none 0 0, .int .i64 (0), .int .i64 (0)]) (by kernel_rfl) rfl
instance : Ze Go.Proofs.Try.prog 154 [.slice none 0 0, .int .i64 (0), .int .i64 (0)] := lV
theorem ly : Sc Go.Proofs.Try.prog 159 := yZ Go.Proofs.Try.underlying159 rfl (by kernel_rfl)
instance : Sc Go.Proofs.Try.prog 159 := ly
theorem lU : Ze Go.Proofs.Try.prog 159 [.int .u64 (0)] := z2 (z := .int .u64 (0)) (by kernel_rfl) rfl
instance : Ze Go.Proofs.Try.prog 159 [.int .u64 (0)] := lU
theorem kN : Ik Go.Proofs.Try.prog 159 .u64 := ⟨Go.Proofs.Try.underlying159⟩
instance : Ik Go.Proofs.Try.prog 159 .u64 := kN
theorem lx : Sc Go.Proofs.Try.prog 164 := yZ Go.Proofs.Try.underlying164 rfl (by kernel_rfl)
instance : Sc Go.Proofs.Try.prog 164 := lx
theorem lT : Ze Go.Proofs.Try.prog 164 [.int .i64 (0)] := z2 (z := .int .i64 (0)) (by kernel_rfl) rfl
instance : Ze Go.Proofs.Try.prog 164 [.int .i64 (0)] := lT
theorem kM : Ik Go.Proofs.Try.prog 164 .i64 := ⟨Go.Proofs.Try.underlying164⟩
instance : Ik Go.Proofs.Try.prog 164 .i64 := kM
theorem lw : Sc Go.Proofs.Try.prog 171 := yZ Go.Proofs.Try.underlying171 rfl (by kernel_rfl)
instance : Sc Go.Proofs.Try.prog 171 := lw
theorem lS : Ze Go.Proofs.Try.prog 171 [.int .u32 (0)] := z2 (z := .int .u32 (0)) (by kernel_rfl) rfl
instance : Ze Go.Proofs.Try.prog 171 [.int .u32 (0)] := lS
theorem kL : Ik Go.Proofs.Try.prog 171 .u32 := ⟨Go.Proofs.Try.underlying171⟩
instance : Ik Go.Proofs.Try.prog 171 .u32 := kL
theorem lv : Sc Go.Proofs.Try.prog 173 := yZ Go.Proofs.Try.underlying173 rfl (by kernel_rfl)
instance : Sc Go.Proofs.Try.prog 173 := lv
theorem lR : Ze Go.Proofs.Try.prog 173 [.int .u64 (0)] := z2 (z := .int .u64 (0)) (by kernel_rfl) rfl
instance : Ze Go.Proofs.Try.prog 173 [.int .u64 (0)] := lR
theorem kK : Ik Go.Proofs.Try.prog 173 .u64 := ⟨Go.Proofs.Try.underlying173⟩
instance : Ik Go.Proofs.Try.prog 173 .u64 := kK
theorem lu : Sc Go.Proofs.Try.prog 174 := yZ Go.Proofs.Try.underlying174 rfl (by kernel_rfl)
instance : Sc Go.Proofs.Try.prog 174 := lu
theorem lQ : Ze Go.Proofs.Try.prog 174 [.int .u64 (0)] := z2 (z := .int .u64 (0)) (by kernel_rfl) rfl
instance : Ze Go.Proofs.Try.prog 174 [.int .u64 (0)] := lQ
theorem kJ : Ik Go.Proofs.Try.prog 174 .u64 := ⟨Go.Proofs.Try.underlying174⟩
instance : Ik Go.Proofs.Try.prog 174 .u64 := kJ
theorem lr : Sc Go.Proofs.Try.prog 178 := yZ Go.Proofs.Try.underlying178 rfl (by kernel_rfl)
instance : Sc Go.Proofs.Try.prog 178 := lr
theorem lP : Ze Go.Proofs.Try.prog 178 [.pointer none] := z2 (z := .pointer none) (by kernel_rfl) rfl
instance : Ze Go.Proofs.Try.prog 178 [.pointer none] := lP
theorem lq : Sc Go.Proofs.Try.prog 180 := yZ Go.Proofs.Try.underlying180 rfl (by kernel_rfl)
instance : Sc Go.Proofs.Try.prog 180 := lq
theorem lO : Ze Go.Proofs.Try.prog 180 [.pointer none] := z2 (z := .pointer none) (by kernel_rfl) rfl
instance : Ze Go.Proofs.Try.prog 180 [.pointer none] := lO
theorem lp : Sc Go.Proofs.Try.prog 193 := yZ Go.Proofs.Try.underlying193 rfl (by kernel_rfl)
instance : Sc Go.Proofs.Try.prog 193 := lp
theorem lN : Ze Go.Proofs.Try.prog 193 [.pointer none] := z2 (z := .pointer none) (by kernel_rfl) rfl
instance : Ze Go.Proofs.Try.prog 193 [.pointer none] := lN
def tab : Tab where
  ag := [(13, 2), (38, 1), (39, 1), (70, 3), (71, 3), (72, 7), (73, 7), (94, 5), (95, 5), (118, 3), (122, 1), (123, 1), (130, 7), (131, 7), (139, 5), (153, 3), (154, 3)]
  sc := [2, 3, 4, 5, 9, 12, 21, 22, 24, 27, 40, 46, 61, 64, 82, 84, 104, 114, 127, 159, 164, 171, 173, 174, 178, 180, 193]
  fd := [((13, 0), (0, 1, false)), ((13, 1), (1, 1, false)), ((38, 0), (0, 1, false)), ((39, 0), (0, 1, false)), ((70, 0), (0, 1, false)), ((70, 1), (1, 1, false)), ((70, 2), (2, 1, false)), ((71, 0), (0, 1, false)), ((71, 1), (1, 1, false)), ((71, 2), (2, 1, false)), ((72, 0), (0, 3, true)), ((72, 1), (3, 3, true)), ((72, 2), (6, 1, false)), ((73, 0), (0, 3, true)), ((73, 1), (3, 3, true)), ((73, 2), (6, 1, false)), ((94, 0), (0, 1, false)), ((94, 1), (1, 1, false)), ((94, 2), (2, 1, false)), ((94, 3), (3, 1, false)), ((94, 4), (4, 1, false)), ((95, 0), (0, 1, false)), ((95, 1), (1, 1, false)), ((95, 2), (2, 1, false)), ((95, 3), (3, 1, false)), ((95, 4), (4, 1, false)), ((118, 0), (0, 1, false)), ((118, 1), (1, 1, false)), ((118, 2), (2, 1, false)), ((122, 0), (0, 1, false)), ((123, 0), (0, 1, false)), ((130, 0), (0, 3, true)), ((130, 1), (3, 3, true)), ((130, 2), (6, 1, false)), ((131, 0), (0, 3, true)), ((131, 1), (3, 3, true)), ((131, 2), (6, 1, false)), ((139, 0), (0, 1, false)), ((139, 1), (1, 1, false)), ((139, 2), (2, 1, false)), ((139, 3), (3, 1, false)), ((139, 4), (4, 1, false)), ((153, 0), (0, 1, false)), ((153, 1), (1, 1, false)), ((153, 2), (2, 1, false)), ((154, 0), (0, 1, false)), ((154, 1), (1, 1, false)), ((154, 2), (2, 1, false))]
  ze := [(2, [.int .i64 (0)]), (3, [.int .i64 (0)]), (4, [.bool false]), (5, [.int .u8 (0)]), (9, [.string .empty]), (12, [.int .u64 (0)]), (13, [.string .empty, .int .u64 (0)]), (21, [.int .i32 (0)]), (22, [.slice none 0 0]), (24, [.slice none 0 0]), (27, [.slice none 0 0]), (38, [.slice none 0 0]), (39, [.slice none 0 0]), (40, [.slice none 0 0]), (46, [.slice none 0 0]), (61, [.slice none 0 0]), (64, [.slice none 0 0]), (70, [.int .i64 (0), .int .i64 (0), .int .i64 (0)]), (71, [.int .i64 (0), .int .i64 (0), .int .i64 (0)]), (72, [.int .i64 (0), .int .i64 (0), .int .i64 (0), .int .i64 (0), .int .i64 (0), .int .i64 (0), .bool false]), (73, [.int .i64 (0), .int .i64 (0), .int .i64 (0), .int .i64 (0), .int .i64 (0), .int .i64 (0), .bool false]), (82, [.slice none 0 0]), (84, [.slice none 0 0]), (94, [.int .i64 (0), .int .i64 (0), .int .i64 (0), .int .i64 (0), .int .i64 (0)]), (95, [.int .i64 (0), .int .i64 (0), .int .i64 (0), .int .i64 (0), .int .i64 (0)]), (104, [.pointer none]), (114, [.slice none 0 0]), (118, [.int .i64 (0), .int .i64 (0), .int .i64 (0)]), (122, [.slice none 0 0]), (123, [.slice none 0 0]), (127, [.slice none 0 0]), (130, [.int .i64 (0), .int .i64 (0), .int .i64 (0), .int .i64 (0), .int .i64 (0), .int .i64 (0), .bool false]), (131, [.int .i64 (0), .int .i64 (0), .int .i64 (0), .int .i64 (0), .int .i64 (0), .int .i64 (0), .bool false]), (139, [.int .i64 (0), .int .i64 (0), .int .i64 (0), .int .i64 (0), .int .i64 (0)]), (153, [.slice none 0 0, .int .i64 (0), .int .i64 (0)]), (154, [.slice none 0 0, .int .i64 (0), .int .i64 (0)]), (159, [.int .u64 (0)]), (164, [.int .i64 (0)]), (171, [.int .u32 (0)]), (173, [.int .u64 (0)]), (174, [.int .u64 (0)]), (178, [.pointer none]), (180, [.pointer none]), (193, [.pointer none])]
  pl := [(13, [(0, 1), (1, 1)]), (38, [(0, 1)]), (39, [(0, 1)]), (70, [(0, 1), (1, 1), (2, 1)]), (71, [(0, 1), (1, 1), (2, 1)]), (72, [(0, 3), (3, 3), (6, 1)]), (73, [(0, 3), (3, 3), (6, 1)]), (94, [(0, 1), (1, 1), (2, 1), (3, 1), (4, 1)]), (95, [(0, 1), (1, 1), (2, 1), (3, 1), (4, 1)]), (118, [(0, 1), (1, 1), (2, 1)]), (122, [(0, 1)]), (123, [(0, 1)]), (130, [(0, 3), (3, 3), (6, 1)]), (131, [(0, 3), (3, 3), (6, 1)]), (139, [(0, 1), (1, 1), (2, 1), (3, 1), (4, 1)]), (153, [(0, 1), (1, 1), (2, 1)]), (154, [(0, 1), (1, 1), (2, 1)])]
  sl := [(22, (5, 1, 1)), (24, (71, 3, 24)), (27, (39, 1, 24)), (40, (118, 3, 24)), (46, (123, 1, 24)), (61, (131, 7, 56)), (64, (73, 7, 56)), (82, (139, 5, 40)), (84, (95, 5, 40)), (114, (9, 1, 16)), (127, (3, 1, 8))]
  ik := [(2, .i64), (3, .i64), (5, .u8), (12, .u64), (21, .i32), (159, .u64), (164, .i64), (171, .u32), (173, .u64), (174, .u64)]
  str := [9]
  bl := [4]
instance : TabC Go.Proofs.Try.prog tab := ⟨{ ag := zB ag13 (zB ag38 (zB ag39 (zB ag70 (zB ag71 (zB ag72 (zB ag73 (zB ag94 (zB ag95 (zB kY (zB kX (zB kW (zB kV (zB kU (zB kT (zB kS (zB kR (xS))))))))))))))))), sc := zB sc2 (zB sc3 (zB sc4 (zB sc5 (zB sc9 (zB sc12 (zB sc21 (zB sc22 (zB sc24 (zB sc27 (zB sc40 (zB sc46 (zB sc61 (zB sc64 (zB sc82 (zB sc84 (zB l6 (zB l5 (zB lz (zB ly (zB lx (zB lw (zB lv (zB lu (zB lr (zB lq (zB lp (xS))))))))))))))))))))))))))), fd := zB nx (zB nw (zB nv (zB nu (zB nt (zB ns (zB nr (zB nq (zB np (zB nn (zB nm (zB nl (zB nk (zB nj (zB ni (zB nh (zB ng (zB nf (zB ne (zB nc (zB nb (zB na (zB nZ (zB nY (zB nX (zB nW (zB qU (zB qT (zB qS (zB qR (zB qQ (zB qP (zB qO (zB qN (zB qM (zB qL (zB qK (zB qJ (zB qI (zB qH (zB qG (zB qF (zB qE (zB qD (zB qC (zB qB (zB qA (zB s9 (xS)))))))))))))))))))))))))))))))))))))))))))))))), ze := zB ze2 (zB ze3 (zB ze4 (zB ze5 (zB ze9 (zB ze12 (zB ze13 (zB ze21 (zB ze22 (zB ze24 (zB ze27 (zB ze38 (zB ze39 (zB ze40 (zB ze46 (zB ze61 (zB ze64 (zB ze70 (zB ze71 (zB ze72 (zB ze73 (zB ze82 (zB ze84 (zB ze94 (zB ze95 (zB lh (zB lg (zB lf (zB le (zB ld (zB lc (zB lZ (zB lY (zB lX (zB lW (zB lV (zB lU (zB lT (zB lS (zB lR (zB lQ (zB lP (zB lO (zB lN (xS)))))))))))))))))))))))))))))))))))))))))))), pl := zB pl13 (zB pl38 (zB pl39 (zB pl70 (zB pl71 (zB pl72 (zB pl73 (zB pl94 (zB pl95 (zB kF (zB kE (zB kD (zB kC (zB kB (zB kA (zB l9 (zB l8 (xS))))))))))))))))), sl := zB sl22 (zB sl24 (zB sl27 (zB sl40 (zB sl46 (zB sl61 (zB sl64 (zB sl82 (zB sl84 (zB lm (zB ll (xS))))))))))), ik := zB ik2 (zB ik3 (zB ik5 (zB ik12 (zB ik21 (zB kN (zB kM (zB kL (zB kK (zB kJ (xS)))))))))), str := zB str9 (xS), bl := zB bl4 (xS) }, by kernel_rfl⟩
instance : Ent Go.Proofs.Try.prog 3 := zL Go.Proofs.Try.func3 rfl (by decide)
instance : Ent Go.Proofs.Try.prog 4 := zL Go.Proofs.Try.func4 rfl (by decide)
instance : Ent Go.Proofs.Try.prog 5 := zL Go.Proofs.Try.func5 rfl (by decide)
instance : Ent Go.Proofs.Try.prog 6 := zL Go.Proofs.Try.func6 rfl (by decide)
instance : Ent Go.Proofs.Try.prog 7 := zL Go.Proofs.Try.func7 rfl (by decide)
instance : Ent Go.Proofs.Try.prog 8 := zL Go.Proofs.Try.func8 rfl (by decide)
instance : Ent Go.Proofs.Try.prog 9 := zL Go.Proofs.Try.func9 rfl (by decide)
instance : Ent Go.Proofs.Try.prog 10 := zL Go.Proofs.Try.func10 rfl (by decide)
instance : Ent Go.Proofs.Try.prog 11 := zL Go.Proofs.Try.func11 rfl (by decide)
instance : Ent Go.Proofs.Try.prog 12 := zL Go.Proofs.Try.func12 rfl (by decide)
instance : Ent Go.Proofs.Try.prog 13 := zL Go.Proofs.Try.func13 rfl (by decide)
instance : Ent Go.Proofs.Try.prog 14 := zL Go.Proofs.Try.func14 rfl (by decide)
instance : Ent Go.Proofs.Try.prog 15 := zL Go.Proofs.Try.func15 rfl (by decide)
instance : Ent Go.Proofs.Try.prog 16 := zL Go.Proofs.Try.func16 rfl (by decide)
instance : Ent Go.Proofs.Try.prog 17 := zL Go.Proofs.Try.func17 rfl (by decide)
instance : Ent Go.Proofs.Try.prog 18 := zL Go.Proofs.Try.func18 rfl (by decide)
instance : Ent Go.Proofs.Try.prog 19 := zL Go.Proofs.Try.func19 rfl (by decide)
instance : Ent Go.Proofs.Try.prog 20 := zL Go.Proofs.Try.func20 rfl (by decide)
instance : Ent Go.Proofs.Try.prog 21 := zL Go.Proofs.Try.func21 rfl (by decide)
instance : Ent Go.Proofs.Try.prog 22 := zL Go.Proofs.Try.func22 rfl (by decide)
instance : Ent Go.Proofs.Try.prog 23 := zL Go.Proofs.Try.func23 rfl (by decide)
instance : Ent Go.Proofs.Try.prog 24 := zL Go.Proofs.Try.func24 rfl (by decide)
instance : Ent Go.Proofs.Try.prog 25 := zL Go.Proofs.Try.func25 rfl (by decide)
instance : Ent Go.Proofs.Try.prog 26 := zL Go.Proofs.Try.func26 rfl (by decide)
instance : Ent Go.Proofs.Try.prog 27 := zL Go.Proofs.Try.func27 rfl (by decide)
instance : Ent Go.Proofs.Try.prog 28 := zL Go.Proofs.Try.func28 rfl (by decide)
instance : Ent Go.Proofs.Try.prog 29 := zL Go.Proofs.Try.func29 rfl (by decide)
instance : Ent Go.Proofs.Try.prog 30 := zL Go.Proofs.Try.func30 rfl (by decide)
instance : Ent Go.Proofs.Try.prog 31 := zL Go.Proofs.Try.func31 rfl (by decide)
instance : Ent Go.Proofs.Try.prog 32 := zL Go.Proofs.Try.func32 rfl (by decide)
instance : Ent Go.Proofs.Try.prog 33 := zL Go.Proofs.Try.func33 rfl (by decide)
instance : Ent Go.Proofs.Try.prog 34 := zL Go.Proofs.Try.func34 rfl (by decide)
instance : Ent Go.Proofs.Try.prog 35 := zL Go.Proofs.Try.func35 rfl (by decide)
instance : Ent Go.Proofs.Try.prog 36 := zL Go.Proofs.Try.func36 rfl (by decide)
instance : Ent Go.Proofs.Try.prog 37 := zL Go.Proofs.Try.func37 rfl (by decide)
instance : Ent Go.Proofs.Try.prog 38 := zL Go.Proofs.Try.func38 rfl (by decide)
instance : Ent Go.Proofs.Try.prog 39 := zL Go.Proofs.Try.func39 rfl (by decide)
instance : Ent Go.Proofs.Try.prog 40 := zL Go.Proofs.Try.func40 rfl (by decide)
instance : Ent Go.Proofs.Try.prog 41 := zL Go.Proofs.Try.func41 rfl (by decide)
instance : Ent Go.Proofs.Try.prog 42 := zL Go.Proofs.Try.func42 rfl (by decide)
instance : Ent Go.Proofs.Try.prog 43 := zL Go.Proofs.Try.func43 rfl (by decide)
instance : Ent Go.Proofs.Try.prog 44 := zL Go.Proofs.Try.func44 rfl (by decide)
instance : Ent Go.Proofs.Try.prog 45 := zL Go.Proofs.Try.func45 rfl (by decide)
instance : Ent Go.Proofs.Try.prog 46 := zL Go.Proofs.Try.func46 rfl (by decide)
instance : Ent Go.Proofs.Try.prog 47 := zL Go.Proofs.Try.func47 rfl (by decide)
instance : Ent Go.Proofs.Try.prog 48 := zL Go.Proofs.Try.func48 rfl (by decide)
instance : Ent Go.Proofs.Try.prog 49 := zL Go.Proofs.Try.func49 rfl (by decide)
instance : Ent Go.Proofs.Try.prog 50 := zL Go.Proofs.Try.func50 rfl (by decide)
instance : Ent Go.Proofs.Try.prog 51 := zL Go.Proofs.Try.func51 rfl (by decide)
instance : Ent Go.Proofs.Try.prog 52 := zL Go.Proofs.Try.func52 rfl (by decide)
instance : Ent Go.Proofs.Try.prog 53 := zL Go.Proofs.Try.func53 rfl (by decide)
instance : Ent Go.Proofs.Try.prog 54 := zL Go.Proofs.Try.func54 rfl (by decide)
instance : Ent Go.Proofs.Try.prog 55 := zL Go.Proofs.Try.func55 rfl (by decide)
instance : Ent Go.Proofs.Try.prog 56 := zL Go.Proofs.Try.func56 rfl (by decide)
instance : Ent Go.Proofs.Try.prog 57 := zL Go.Proofs.Try.func57 rfl (by decide)
instance : Ent Go.Proofs.Try.prog 58 := zL Go.Proofs.Try.func58 rfl (by decide)
instance : Ent Go.Proofs.Try.prog 59 := zL Go.Proofs.Try.func59 rfl (by decide)
instance : Ent Go.Proofs.Try.prog 60 := zL Go.Proofs.Try.func60 rfl (by decide)
instance : Ent Go.Proofs.Try.prog 61 := zL Go.Proofs.Try.func61 rfl (by decide)
instance : Ent Go.Proofs.Try.prog 62 := zL Go.Proofs.Try.func62 rfl (by decide)
instance : Ent Go.Proofs.Try.prog 63 := zL Go.Proofs.Try.func63 rfl (by decide)
instance : Ent Go.Proofs.Try.prog 64 := zL Go.Proofs.Try.func64 rfl (by decide)
instance : Ent Go.Proofs.Try.prog 65 := zL Go.Proofs.Try.func65 rfl (by decide)
instance : Ent Go.Proofs.Try.prog 66 := zL Go.Proofs.Try.func66 rfl (by decide)
instance : Ent Go.Proofs.Try.prog 67 := zL Go.Proofs.Try.func67 rfl (by decide)
instance : Ent Go.Proofs.Try.prog 68 := zL Go.Proofs.Try.func68 rfl (by decide)
instance : Ent Go.Proofs.Try.prog 69 := zL Go.Proofs.Try.func69 rfl (by decide)
instance : Ent Go.Proofs.Try.prog 70 := zL Go.Proofs.Try.func70 rfl (by decide)
instance : Ent Go.Proofs.Try.prog 71 := zL Go.Proofs.Try.func71 rfl (by decide)
instance : Ent Go.Proofs.Try.prog 72 := zL Go.Proofs.Try.func72 rfl (by decide)
instance : Ent Go.Proofs.Try.prog 73 := zL Go.Proofs.Try.func73 rfl (by decide)
instance : Ent Go.Proofs.Try.prog 74 := zL Go.Proofs.Try.func74 rfl (by decide)
instance : Ent Go.Proofs.Try.prog 75 := zL Go.Proofs.Try.func75 rfl (by decide)
instance : Ent Go.Proofs.Try.prog 76 := zL Go.Proofs.Try.func76 rfl (by decide)
instance : Ent Go.Proofs.Try.prog 77 := zL Go.Proofs.Try.func77 rfl (by decide)
instance : Ent Go.Proofs.Try.prog 78 := zL Go.Proofs.Try.func78 rfl (by decide)
instance : Ent Go.Proofs.Try.prog 79 := zL Go.Proofs.Try.func79 rfl (by decide)
instance : Ent Go.Proofs.Try.prog 80 := zL Go.Proofs.Try.func80 rfl (by decide)
instance : Ent Go.Proofs.Try.prog 81 := zL Go.Proofs.Try.func81 rfl (by decide)
instance : Ent Go.Proofs.Try.prog 82 := zL Go.Proofs.Try.func82 rfl (by decide)
instance : Ent Go.Proofs.Try.prog 83 := zL Go.Proofs.Try.func83 rfl (by decide)
instance : Ent Go.Proofs.Try.prog 84 := zL Go.Proofs.Try.func84 rfl (by decide)
instance : Ent Go.Proofs.Try.prog 85 := zL Go.Proofs.Try.func85 rfl (by decide)
instance : Ent Go.Proofs.Try.prog 86 := zL Go.Proofs.Try.func86 rfl (by decide)
instance : Ent Go.Proofs.Try.prog 87 := zL Go.Proofs.Try.func87 rfl (by decide)
instance : Ent Go.Proofs.Try.prog 88 := zL Go.Proofs.Try.func88 rfl (by decide)
instance : Ent Go.Proofs.Try.prog 89 := zL Go.Proofs.Try.func89 rfl (by decide)
instance : Ent Go.Proofs.Try.prog 90 := zL Go.Proofs.Try.func90 rfl (by decide)
instance : Ent Go.Proofs.Try.prog 91 := zL Go.Proofs.Try.func91 rfl (by decide)
instance : Ent Go.Proofs.Try.prog 92 := zL Go.Proofs.Try.func92 rfl (by decide)
instance : Ent Go.Proofs.Try.prog 93 := zL Go.Proofs.Try.func93 rfl (by decide)
instance : Ent Go.Proofs.Try.prog 94 := zL Go.Proofs.Try.func94 rfl (by decide)
instance : Ent Go.Proofs.Try.prog 95 := zL Go.Proofs.Try.func95 rfl (by decide)
instance : Ent Go.Proofs.Try.prog 96 := zL Go.Proofs.Try.func96 rfl (by decide)
instance : Ent Go.Proofs.Try.prog 97 := zL Go.Proofs.Try.func97 rfl (by decide)
instance : Ent Go.Proofs.Try.prog 98 := zL Go.Proofs.Try.func98 rfl (by decide)
instance : Ent Go.Proofs.Try.prog 99 := zL Go.Proofs.Try.func99 rfl (by decide)
instance : Ent Go.Proofs.Try.prog 100 := zL Go.Proofs.Try.func100 rfl (by decide)
instance : Ent Go.Proofs.Try.prog 101 := zL Go.Proofs.Try.func101 rfl (by decide)
instance : Ent Go.Proofs.Try.prog 102 := zL Go.Proofs.Try.func102 rfl (by decide)
instance : Ent Go.Proofs.Try.prog 103 := zL Go.Proofs.Try.func103 rfl (by decide)
instance : Ent Go.Proofs.Try.prog 104 := zL Go.Proofs.Try.func104 rfl (by decide)
instance : Ent Go.Proofs.Try.prog 105 := zL Go.Proofs.Try.func105 rfl (by decide)
instance : Ent Go.Proofs.Try.prog 106 := zL Go.Proofs.Try.func106 rfl (by decide)
instance : Ent Go.Proofs.Try.prog 107 := zL Go.Proofs.Try.func107 rfl (by decide)
instance : Ent Go.Proofs.Try.prog 108 := zL Go.Proofs.Try.func108 rfl (by decide)
instance : Ent Go.Proofs.Try.prog 109 := zL Go.Proofs.Try.func109 rfl (by decide)
instance : Ent Go.Proofs.Try.prog 110 := zL Go.Proofs.Try.func110 rfl (by decide)
instance : Ent Go.Proofs.Try.prog 111 := zL Go.Proofs.Try.func111 rfl (by decide)
instance : Ent Go.Proofs.Try.prog 112 := zL Go.Proofs.Try.func112 rfl (by decide)
instance : Ent Go.Proofs.Try.prog 113 := zL Go.Proofs.Try.func113 rfl (by decide)
instance : Ent Go.Proofs.Try.prog 114 := zL Go.Proofs.Try.func114 rfl (by decide)
instance : Ent Go.Proofs.Try.prog 115 := zL Go.Proofs.Try.func115 rfl (by decide)
instance : Ent Go.Proofs.Try.prog 116 := zL Go.Proofs.Try.func116 rfl (by decide)
instance : Ent Go.Proofs.Try.prog 117 := zL Go.Proofs.Try.func117 rfl (by decide)
instance : Ent Go.Proofs.Try.prog 118 := zL Go.Proofs.Try.func118 rfl (by decide)
instance : Ent Go.Proofs.Try.prog 119 := zL Go.Proofs.Try.func119 rfl (by decide)
instance : Ent Go.Proofs.Try.prog 120 := zL Go.Proofs.Try.func120 rfl (by decide)
instance : Ent Go.Proofs.Try.prog 121 := zL Go.Proofs.Try.func121 rfl (by decide)
instance : Ent Go.Proofs.Try.prog 122 := zL Go.Proofs.Try.func122 rfl (by decide)
instance : Ent Go.Proofs.Try.prog 123 := zL Go.Proofs.Try.func123 rfl (by decide)
instance : Ent Go.Proofs.Try.prog 124 := zL Go.Proofs.Try.func124 rfl (by decide)
instance : Ent Go.Proofs.Try.prog 125 := zL Go.Proofs.Try.func125 rfl (by decide)
instance : Ent Go.Proofs.Try.prog 126 := zL Go.Proofs.Try.func126 rfl (by decide)
instance : Ent Go.Proofs.Try.prog 127 := zL Go.Proofs.Try.func127 rfl (by decide)
instance : Ent Go.Proofs.Try.prog 128 := zL Go.Proofs.Try.func128 rfl (by decide)
instance : Ent Go.Proofs.Try.prog 129 := zL Go.Proofs.Try.func129 rfl (by decide)
instance : Ent Go.Proofs.Try.prog 130 := zL Go.Proofs.Try.func130 rfl (by decide)
instance : Ent Go.Proofs.Try.prog 131 := zL Go.Proofs.Try.func131 rfl (by decide)
instance : Ent Go.Proofs.Try.prog 132 := zL Go.Proofs.Try.func132 rfl (by decide)
instance : Ent Go.Proofs.Try.prog 133 := zL Go.Proofs.Try.func133 rfl (by decide)
instance : Ent Go.Proofs.Try.prog 134 := zL Go.Proofs.Try.func134 rfl (by decide)
instance : Ent Go.Proofs.Try.prog 135 := zL Go.Proofs.Try.func135 rfl (by decide)
instance : Ent Go.Proofs.Try.prog 136 := zL Go.Proofs.Try.func136 rfl (by decide)
instance : Ent Go.Proofs.Try.prog 137 := zL Go.Proofs.Try.func137 rfl (by decide)
instance : Ent Go.Proofs.Try.prog 138 := zL Go.Proofs.Try.func138 rfl (by decide)
instance : Ent Go.Proofs.Try.prog 139 := zL Go.Proofs.Try.func139 rfl (by decide)
instance : Ent Go.Proofs.Try.prog 140 := zL Go.Proofs.Try.func140 rfl (by decide)
instance : Ent Go.Proofs.Try.prog 141 := zL Go.Proofs.Try.func141 rfl (by decide)
instance : Ent Go.Proofs.Try.prog 142 := zL Go.Proofs.Try.func142 rfl (by decide)
instance : Ent Go.Proofs.Try.prog 143 := zL Go.Proofs.Try.func143 rfl (by decide)
instance : Ent Go.Proofs.Try.prog 144 := zL Go.Proofs.Try.func144 rfl (by decide)
instance : Ent Go.Proofs.Try.prog 145 := zL Go.Proofs.Try.func145 rfl (by decide)
instance : Ent Go.Proofs.Try.prog 146 := zL Go.Proofs.Try.func146 rfl (by decide)
instance : Ent Go.Proofs.Try.prog 147 := zL Go.Proofs.Try.func147 rfl (by decide)
instance : Ent Go.Proofs.Try.prog 148 := zL Go.Proofs.Try.func148 rfl (by decide)
instance : Ent Go.Proofs.Try.prog 149 := zL Go.Proofs.Try.func149 rfl (by decide)
instance : Ent Go.Proofs.Try.prog 150 := zL Go.Proofs.Try.func150 rfl (by decide)
instance : Ent Go.Proofs.Try.prog 151 := zL Go.Proofs.Try.func151 rfl (by decide)
instance : Ent Go.Proofs.Try.prog 152 := zL Go.Proofs.Try.func152 rfl (by decide)
instance : Ent Go.Proofs.Try.prog 153 := zL Go.Proofs.Try.func153 rfl (by decide)
instance : Ent Go.Proofs.Try.prog 154 := zL Go.Proofs.Try.func154 rfl (by decide)
instance : Ent Go.Proofs.Try.prog 155 := zL Go.Proofs.Try.func155 rfl (by decide)
instance : Ent Go.Proofs.Try.prog 156 := zL Go.Proofs.Try.func156 rfl (by decide)
instance : Ent Go.Proofs.Try.prog 157 := zL Go.Proofs.Try.func157 rfl (by decide)
instance : Ent Go.Proofs.Try.prog 158 := zL Go.Proofs.Try.func158 rfl (by decide)
instance : Ent Go.Proofs.Try.prog 159 := zL Go.Proofs.Try.func159 rfl (by decide)
instance : Ent Go.Proofs.Try.prog 160 := zL Go.Proofs.Try.func160 rfl (by decide)
instance : Ent Go.Proofs.Try.prog 161 := zL Go.Proofs.Try.func161 rfl (by decide)
instance : Ent Go.Proofs.Try.prog 162 := zL Go.Proofs.Try.func162 rfl (by decide)
instance : Ent Go.Proofs.Try.prog 163 := zL Go.Proofs.Try.func163 rfl (by decide)
instance : Ent Go.Proofs.Try.prog 164 := zL Go.Proofs.Try.func164 rfl (by decide)
instance : Ent Go.Proofs.Try.prog 165 := zL Go.Proofs.Try.func165 rfl (by decide)
instance : Ent Go.Proofs.Try.prog 166 := zL Go.Proofs.Try.func166 rfl (by decide)
instance : Ent Go.Proofs.Try.prog 167 := zL Go.Proofs.Try.func167 rfl (by decide)
instance : Ent Go.Proofs.Try.prog 168 := zL Go.Proofs.Try.func168 rfl (by decide)
instance : Ent Go.Proofs.Try.prog 169 := zL Go.Proofs.Try.func169 rfl (by decide)
instance : Ent Go.Proofs.Try.prog 170 := zL Go.Proofs.Try.func170 rfl (by decide)
instance : Ent Go.Proofs.Try.prog 171 := zL Go.Proofs.Try.func171 rfl (by decide)
instance : Ent Go.Proofs.Try.prog 172 := zL Go.Proofs.Try.func172 rfl (by decide)
instance : Ent Go.Proofs.Try.prog 173 := zL Go.Proofs.Try.func173 rfl (by decide)
instance : Ent Go.Proofs.Try.prog 174 := zL Go.Proofs.Try.func174 rfl (by decide)
instance : Ent Go.Proofs.Try.prog 175 := zL Go.Proofs.Try.func175 rfl (by decide)
instance : Ent Go.Proofs.Try.prog 176 := zL Go.Proofs.Try.func176 rfl (by decide)
instance : Ent Go.Proofs.Try.prog 177 := zL Go.Proofs.Try.func177 rfl (by decide)
instance : Ent Go.Proofs.Try.prog 178 := zL Go.Proofs.Try.func178 rfl (by decide)
instance : Ent Go.Proofs.Try.prog 179 := zL Go.Proofs.Try.func179 rfl (by decide)
instance : Ent Go.Proofs.Try.prog 180 := zL Go.Proofs.Try.func180 rfl (by decide)
instance : Ent Go.Proofs.Try.prog 181 := zL Go.Proofs.Try.func181 rfl (by decide)
instance : Ent Go.Proofs.Try.prog 182 := zL Go.Proofs.Try.func182 rfl (by decide)
instance : Ent Go.Proofs.Try.prog 183 := zL Go.Proofs.Try.func183 rfl (by decide)
instance : Ent Go.Proofs.Try.prog 184 := zL Go.Proofs.Try.func184 rfl (by decide)
instance : Ent Go.Proofs.Try.prog 185 := zL Go.Proofs.Try.func185 rfl (by decide)
instance : Ent Go.Proofs.Try.prog 186 := zL Go.Proofs.Try.func186 rfl (by decide)
end Go.Proofs.Ytkcicbigpbdjpaa.Ab
namespace Go.Proofs.Ytkcicbigpbdjpaa.Ab
open Go.RowKit
structure Rw where
  a : Int
  b : Int
  c : Int
def rwE (r : Rw) : List V := [I r.a, I r.b, I r.c]
def rwT : Ty Rw := ⟨3, rwE, fun _ => rfl, by decide, fun r c hc => by
  simp only [rwE, List.mem_cons, List.not_mem_nil, or_false] at hc
  rcases hc with rfl | rfl | rfl <;> exact ⟨rfl, rfl⟩⟩
abbrev rwL (xs : List Rw) : V := yW rwT xs
abbrev rwR (xs : List Rw) : Reg := xD rwT 71 xs
def szL (n : Nat) (left : Int) : Int := cond (decide (IntKind.i64.wrap (left - n) < 0)) (-1) (IntKind.i64.wrap (left - n))
def z3 : Rw := ⟨0, 0, 0⟩
def eqC (x y : Rw) : Bool := bif !(decide (x.a = y.a)) then false else bif !(decide (x.b = y.b)) then false else bif !(decide (x.c = y.c)) then false else true
def eqL : List Rw → List Rw → Bool
  | [], [] => true
  | x :: xs, y :: ys => eqC x y && eqL xs ys
  | _, _ => false
def kk (k : Int) : Nat → Int
  | 0 => k
  | n + 1 => IntKind.i64.wrap (kk k n + 1)
def mkRw (k : Int) (j : Nat) : Rw := ⟨kk k (3 * j), kk k (3 * j + 1), kk k (3 * j + 2)⟩
def mkC (k : Int) (xs : List Rw) (i : Nat) : List Rw := (List.range i).map (mkRw k) ++ xs.drop i
end Go.Proofs.Ytkcicbigpbdjpaa.Ab
namespace Go.Proofs.Ytkcicbigpbdjpaa.Ab
open Go.RowKit
abbrev Rn := List Rw
abbrev rnT : Ty Rn := lsT rwT
abbrev rnL (rs : List Rn) : V := yW rnT rs
abbrev rnN (rs : List Rn) : List Reg := ⟨39, 1, nC 1 rs, 0⟩ :: nR rwT 71 rs
def okRn (rs : List Rn) : Prop := rs.length ≤ 1000000000 ∧ ∀ x ∈ rs, x.length ≤ 1000000000
theorem okRn.at {rs : List Rn} (h : okRn rs) {i : Nat} {x : Rn} (hx : rs[i]? = some x) : x.length ≤ 1000000000 := h.2 x (List.mem_of_getElem? hx)
def szG : List Rn → Int → Int
  | [], l => l
  | x :: xs, l => cond (decide (szL x.length l < 0)) (-1) (szG xs (szL x.length l))
def szR (rs : List Rn) (l : Int) : Int := cond (decide (IntKind.i64.wrap (l - rs.length) < 0)) (-1) (szG rs (IntKind.i64.wrap (l - rs.length)))
def tot (rs : List Rn) : Nat := (rs.map List.length).sum
abbrev nilV : V := .k (.slice none 0 0)
end Go.Proofs.Ytkcicbigpbdjpaa.Ab
namespace Go.Proofs.Ytkcicbigpbdjpaa.Ab
open Go.RowKit
def mkRu : Int → List Rn → List Rn
  | _, [] => []
  | k, x :: xs => mkC k x x.length :: mkRu (kk k (3 * x.length)) xs
def mid (k : Int) (rs : List Rn) (i : Nat) : List Rn := mkRu k (rs.take i) ++ rs.drop i
end Go.Proofs.Ytkcicbigpbdjpaa.Ab
namespace Go.Proofs.Ytkcicbigpbdjpaa.Ab
open Go.RowKit
def inV (x lo hi : Int) : Bool := decide (lo ≤ x) && decide (x ≤ hi)
theorem lE (x lo hi : Int) : zi Go.Proofs.Try.prog 114 [I x, I lo, I hi] [] (B (inV x lo hi)) [] false := by
  refine zj [6] Go.Proofs.Try.func114 rfl rfl ?_
  simp only [Go.Proofs.Try.ntmps114, List.length_cons, List.length_nil, Nat.reduceAdd, Nat.reduceSub, List.replicate_succ, List.replicate_zero, List.cons_append, List.nil_append]
  repeat' first | refine zN ?_ | refine zA ?_ | refine zR [] ?_ | (refine isA ?_; refine zd rfl ?_) | (refine isL ?_; refine zV rfl (by kernel_rfl) rfl rfl ?_) | (refine zc rfl ?_; refine zU rfl (by kernel_rfl) rfl rfl ?_) | exact xN rfl rfl (by first | ((try simp only [Bool.not_eq_true', Bool.not_eq_false'] at *); simp only [inV, *, Bool.true_and, Bool.false_and, Bool.and_true, Bool.and_false, Bool.true_or, Bool.false_or, Bool.or_true, Bool.or_false, Bool.not_true, Bool.not_false, cond_true, cond_false]; done) | (simp_all [inV]; done) | (simp_all [inV]; intros; omega)) | refine zC ?_ | refine zD _ rfl (by kernel_rfl) ?_ | refine zW rfl ?_ | refine zX rfl ?_ | refine zE ?_ | with_reducible refine zM ?_ | refine zJ ?_ | refine zK ?_ | (with_reducible first | refine zO ?_ | refine zP ?_ | refine zG ?_ | refine zI ?_ | refine zH ?_) | refine zQ ?_ | (refine pA ?_; refine uF rfl rfl (fun hbr => ?_) (fun hbr => ?_) <;> (fail_if_success (with_reducible (have hx : true = true := hbr))) <;> (fail_if_success (with_reducible (have hx : false = false := hbr)))) | (refine zc rfl ?_; refine xa rfl rfl rfl rfl (fun hbr => ?_) (fun hbr => ?_) <;> (fail_if_success (with_reducible (have hx : true = true := hbr))) <;> (fail_if_success (with_reducible (have hx : false = false := hbr))))
theorem tw (x lo hi : Int) : zi Go.Proofs.Try.prog 141 [I x, I lo, I hi] [] (B (inV x lo hi)) [] false := by
  refine zj [6] Go.Proofs.Try.func141 rfl rfl ?_
  simp only [Go.Proofs.Try.ntmps141, List.length_cons, List.length_nil, Nat.reduceAdd, Nat.reduceSub, List.replicate_succ, List.replicate_zero, List.cons_append, List.nil_append]
  repeat' first | refine zN ?_ | refine zA ?_ | refine zR [] ?_ | (refine isA ?_; refine zd rfl ?_) | (refine isL ?_; refine zV rfl (by kernel_rfl) rfl rfl ?_) | (refine zc rfl ?_; refine zU rfl (by kernel_rfl) rfl rfl ?_) | exact xN rfl rfl (by first | ((try simp only [Bool.not_eq_true', Bool.not_eq_false'] at *); simp only [inV, *, Bool.true_and, Bool.false_and, Bool.and_true, Bool.and_false, Bool.true_or, Bool.false_or, Bool.or_true, Bool.or_false, Bool.not_true, Bool.not_false, cond_true, cond_false]; done) | (simp_all [inV]; done) | (simp_all [inV]; intros; omega)) | refine zC ?_ | refine zD _ rfl (by kernel_rfl) ?_ | refine zW rfl ?_ | refine zX rfl ?_ | refine zE ?_ | with_reducible refine zM ?_ | refine zJ ?_ | refine zK ?_ | (with_reducible first | refine zO ?_ | refine zP ?_ | refine zG ?_ | refine zI ?_ | refine zH ?_) | refine zQ ?_ | (refine pA ?_; refine uF rfl rfl (fun hbr => ?_) (fun hbr => ?_) <;> (fail_if_success (with_reducible (have hx : true = true := hbr))) <;> (fail_if_success (with_reducible (have hx : false = false := hbr)))) | (refine zc rfl ?_; refine xa rfl rfl rfl rfl (fun hbr => ?_) (fun hbr => ?_) <;> (fail_if_success (with_reducible (have hx : true = true := hbr))) <;> (fail_if_success (with_reducible (have hx : false = false := hbr))))
def vRw (x : Rw) : Bool := inV x.a 0 9 && (inV x.b 0 99 && inV x.c 0 3)
theorem qV (x : Rw) : zi Go.Proofs.Try.prog 152 [.agg (rwE x)] [] (B (vRw x)) [] false := by
  refine zj [2] Go.Proofs.Try.func152 rfl rfl ?_
  simp only [Go.Proofs.Try.ntmps152, List.length_cons, List.length_nil, Nat.reduceAdd, Nat.reduceSub, List.replicate_succ, List.replicate_zero, List.cons_append, List.nil_append]
  repeat' first | refine zN ?_ | refine zA ?_ | refine zR [] ?_ | (refine isA ?_; refine zd rfl ?_) | (refine isL ?_; refine zV rfl (by kernel_rfl) rfl rfl ?_) | (refine zc rfl ?_; refine zU rfl (by kernel_rfl) rfl rfl ?_) | (refine zo 114 ?_; refine zb rfl (zT rfl (lE _ _ _) (.cons (.same rfl) (.cons (.same rfl) (.cons (.same rfl) .nil))) rfl) rfl ?_) | (refine zp 114 rfl ?_; refine zY rfl (by kernel_rfl) rfl (zT rfl (lE _ _ _) (.cons (.same rfl) (.cons (.same rfl) (.cons (.same rfl) .nil))) rfl) rfl ?_) | exact xN rfl rfl (by first | ((try simp only [Bool.not_eq_true', Bool.not_eq_false'] at *); simp only [vRw, *, Bool.true_and, Bool.false_and, Bool.and_true, Bool.and_false, Bool.true_or, Bool.false_or, Bool.or_true, Bool.or_false, Bool.not_true, Bool.not_false, cond_true, cond_false]; done) | (simp_all [vRw]; done) | (simp_all [vRw]; intros; omega)) | refine zC ?_ | refine zD _ rfl (by kernel_rfl) ?_ | refine zW rfl ?_ | refine zX rfl ?_ | refine zE ?_ | with_reducible refine zM ?_ | refine zJ ?_ | refine zK ?_ | (with_reducible first | refine zO ?_ | refine zP ?_ | refine zG ?_ | refine zI ?_ | refine zH ?_) | refine zQ ?_ | (refine pA ?_; refine uF rfl rfl (fun hbr => ?_) (fun hbr => ?_) <;> (fail_if_success (with_reducible (have hx : true = true := hbr))) <;> (fail_if_success (with_reducible (have hx : false = false := hbr)))) | (refine zc rfl ?_; refine xa rfl rfl rfl rfl (fun hbr => ?_) (fun hbr => ?_) <;> (fail_if_success (with_reducible (have hx : true = true := hbr))) <;> (fail_if_success (with_reducible (have hx : false = false := hbr))))
theorem kz {xs : List Rw} {i : Nat} {z : Rw} (hz : xs[i]? = some z) (h : vRw z = false) : xs.all vRw = false := by
  cases ha : xs.all vRw with
  | false => rfl
  | true => rw [List.all_eq_true] at ha; rw [ha z (List.mem_of_getElem? hz)] at h; cases h
theorem lM {xs : List Rw} (h : ∀ j z, j < xs.length → xs[j]? = some z → vRw z = true) : xs.all vRw = true := by
  rw [List.all_eq_true]
  intro x hx
  obtain ⟨i, hi⟩ := List.getElem?_of_mem hx
  exact h i x (List.getElem?_eq_some_iff.1 hi).1 hi
def avR (xs : List Rw) : Bool := xs.all vRw && decide ((xs.length : Int) ≤ 24)
theorem kn (xs : List Rw) (hl : xs.length ≤ 1000000000) : zi Go.Proofs.Try.prog 93 [rwL xs] [] (B (avR xs)) [] false := by
  refine zj [2] Go.Proofs.Try.func93 rfl rfl ?_
  simp only [Go.Proofs.Try.ntmps93, List.length_cons, List.length_nil, Nat.reduceAdd, Nat.reduceSub, List.replicate_succ, List.replicate_zero, List.cons_append, List.nil_append]
  repeat' first | refine zN ?_ | refine zA ?_ | refine zR [] ?_ | (refine isA ?_; refine zd rfl ?_) | (refine isL ?_; refine zV rfl (by kernel_rfl) rfl rfl ?_) | (refine zc rfl ?_; refine zU rfl (by kernel_rfl) rfl rfl ?_) | refine zC ?_ | refine zD _ rfl (by kernel_rfl) ?_ | refine zW rfl ?_ | refine zX rfl ?_ | refine zE ?_ | with_reducible refine zM ?_ | refine zJ ?_ | refine zK ?_ | (with_reducible first | refine zO ?_ | refine zP ?_ | refine zG ?_ | refine zI ?_ | refine zH ?_) | refine zQ ?_
  refine yV (α := { i : Nat // i ≤ xs.length ∧ ∀ j z, j < i → xs[j]? = some z → vRw z = true }) (fun i => ⟨[rwL xs, .any, .any, I i.1, .any, .any, .any, .any, .any, .any, .any, .any, .any, .any, .any, .any, .any, .any, .any], [], 0⟩) (fun i => xs.length - i.1) ⟨0, Nat.zero_le _, fun j z hj => absurd hj (Nat.not_lt_zero _)⟩ ?_ ?_
  · exact xX [] rfl rfl (by decide) .nil (by repeat' first | exact zn | refine zk ?_ ?_ | exact zy | exact le_refl rfl | exact z8 rfl rfl | exact yB rfl)
  · rintro ⟨i, hi, hb⟩
    repeat' first | refine zN ?_ | refine zA ?_ | refine zR [] ?_ | (refine isA ?_; refine zd rfl ?_) | (refine isL ?_; refine zV rfl (by kernel_rfl) rfl rfl ?_) | (refine zc rfl ?_; refine zU rfl (by kernel_rfl) rfl rfl ?_) | refine zC ?_ | refine zD _ rfl (by kernel_rfl) ?_ | refine zW rfl ?_ | refine zX rfl ?_ | refine zE ?_ | with_reducible refine zM ?_ | refine zJ ?_ | refine zK ?_ | (with_reducible first | refine zO ?_ | refine zP ?_ | refine zG ?_ | refine zI ?_ | refine zH ?_) | refine zQ ?_
    refine zm rfl (fun h => ?_) (fun h => ?_)
    · have hlt : i < xs.length := by simpa using h
      obtain ⟨z, hz⟩ : ∃ z, xs[i]? = some z := ⟨_, List.getElem?_eq_getElem hlt⟩
      repeat' first | refine zN ?_ | refine zA ?_ | refine zR [] ?_ | (refine isA ?_; refine zd rfl ?_) | (refine isL ?_; refine zV rfl (by kernel_rfl) rfl rfl ?_) | (refine zc rfl ?_; refine zU rfl (by kernel_rfl) rfl rfl ?_) | (refine xH ?_; refine zb rfl (yR (t := rwT) (z := z) rfl rfl rfl rfl (Int.natCast_nonneg i) hz) rfl ?_) | (refine xG rfl ?_; refine zY rfl (by kernel_rfl) rfl (yR (t := rwT) (z := z) rfl rfl rfl rfl (Int.natCast_nonneg i) hz) rfl ?_) | (refine zo 152 ?_; refine zb rfl (zT rfl (qV z) (.cons (.same rfl) .nil) rfl) rfl ?_) | (refine zp 152 rfl ?_; refine zY rfl (by kernel_rfl) rfl (zT rfl (qV z) (.cons (.same rfl) .nil) rfl) rfl ?_) | refine zC ?_ | refine zD _ rfl (by kernel_rfl) ?_ | refine zW rfl ?_ | refine zX rfl ?_ | refine zE ?_ | with_reducible refine zM ?_ | refine zJ ?_ | refine zK ?_ | (with_reducible first | refine zO ?_ | refine zP ?_ | refine zG ?_ | refine zI ?_ | refine zH ?_) | refine zQ ?_
      refine zm rfl (fun h1 => ?_) (fun h1 => ?_)
      · have h2 : vRw z = false := by simpa using h1
        repeat' first | refine zN ?_ | refine zA ?_ | refine zR [] ?_ | (refine isA ?_; refine zd rfl ?_) | (refine isL ?_; refine zV rfl (by kernel_rfl) rfl rfl ?_) | (refine zc rfl ?_; refine zU rfl (by kernel_rfl) rfl rfl ?_) | exact xN rfl rfl (by rw [avR, kz hz h2, Bool.false_and]) | refine zC ?_ | refine zD _ rfl (by kernel_rfl) ?_ | refine zW rfl ?_ | refine zX rfl ?_ | refine zE ?_ | with_reducible refine zM ?_ | refine zJ ?_ | refine zK ?_ | (with_reducible first | refine zO ?_ | refine zP ?_ | refine zG ?_ | refine zI ?_ | refine zH ?_) | refine zQ ?_
      · have h2 : vRw z = true := by simpa using h1
        repeat' first | refine zN ?_ | refine zA ?_ | refine zR [] ?_ | (refine isA ?_; refine zd rfl ?_) | (refine isL ?_; refine zV rfl (by kernel_rfl) rfl rfl ?_) | (refine zc rfl ?_; refine zU rfl (by kernel_rfl) rfl rfl ?_) | refine zC ?_ | refine zD _ rfl (by kernel_rfl) ?_ | refine zW rfl ?_ | refine zX rfl ?_ | refine zE ?_ | with_reducible refine zM ?_ | refine zJ ?_ | refine zK ?_ | (with_reducible first | refine zO ?_ | refine zP ?_ | refine zG ?_ | refine zI ?_ | refine zH ?_) | refine zQ ?_
        refine ⟨⟨i + 1, hlt, fun j y hj hy => ?_⟩, by simp only; omega, ?_⟩
        · rcases Nat.lt_succ_iff_lt_or_eq.1 hj with hj | rfl
          · exact hb j y hj hy
          · rw [hz] at hy; cases hy; exact h2
        · exact xX [] rfl rfl (by decide) .nil (by repeat' first | exact zn | refine zk ?_ ?_ | exact zy | exact le_refl rfl | exact z8 rfl rfl | exact yB rfl | exact wL (by assumption) (by omega))
    · have hge : i = xs.length := by
        have : ¬ ((i : Int) < xs.length) := by simpa using h
        omega
      subst hge
      repeat' first | refine zN ?_ | refine zA ?_ | refine zR [] ?_ | (refine isA ?_; refine zd rfl ?_) | (refine isL ?_; refine zV rfl (by kernel_rfl) rfl rfl ?_) | (refine zc rfl ?_; refine zU rfl (by kernel_rfl) rfl rfl ?_) | exact xN rfl rfl (by rw [avR, lM hb, Bool.true_and]) | refine zC ?_ | refine zD _ rfl (by kernel_rfl) ?_ | refine zW rfl ?_ | refine zX rfl ?_ | refine zE ?_ | with_reducible refine zM ?_ | refine zJ ?_ | refine zK ?_ | (with_reducible first | refine zO ?_ | refine zP ?_ | refine zG ?_ | refine zI ?_ | refine zH ?_) | refine zQ ?_
end Go.Proofs.Ytkcicbigpbdjpaa.Ab
namespace Go.Proofs.Ytkcicbigpbdjpaa.Ab.Gq
open Go.RowKit
structure Gr where
  k : Int
  n : Int
  s : Int
  lo : Int
  hi : Int
def gE (x : Gr) : List V := [I x.k, I x.n, I x.s, I x.lo, I x.hi]
def gT : Ty Gr := ⟨5, gE, fun _ => rfl, by decide, fun r c hc => by
  simp only [gE, List.mem_cons, List.not_mem_nil, or_false] at hc
  rcases hc with rfl | rfl | rfl | rfl | rfl <;> exact ⟨rfl, rfl⟩⟩
abbrev gL (xs : List Gr) : V := yW gT xs
abbrev gR (xs : List Gr) : Reg := xD gT 95 xs
theorem u9 (xs : List Gr) : qe (gT.flat xs) := fun c hc => by
  simp only [Ty.flat, List.mem_flatMap] at hc
  obtain ⟨x, _, hx⟩ := hc
  simp only [gT, gE, List.mem_cons, List.not_mem_nil, or_false] at hx
  rcases hx with rfl | rfl | rfl | rfl | rfl <;> exact ⟨_, rfl⟩
theorem w8 (xs : List Gr) (k : Nat) : ((gT.flat xs).drop (0 * 5)).take ((k - 0) * 5) = gT.flat (xs.take k) := by
  rw [Nat.zero_mul, List.drop_zero, Nat.sub_zero, show k * 5 = k * gT.n from rfl, y8]
theorem vN (xs : List Gr) (k : Nat) : ((gT.flat xs).drop (k * 5)).take ((xs.length - k) * 5) = gT.flat (xs.drop k) := by
  rw [show k * 5 = k * gT.n from rfl, xq, show (xs.length - k) * 5 = (xs.length - k) * gT.n from rfl, y8, List.take_of_length_le (by simp)]
theorem xP {H : List Reg} {h n : Nat} {xs : List Gr} (hH : H[h]? = some (gR xs)) : Pur true H (.sl h 0 xs.length) (gL xs) := sk hH rfl rfl rfl
def mnV (m n : Int) : Int := if n < m then n else m
def mxV (m n : Int) : Int := if n > m then n else m
def cmb (x y : Gr) : Gr := ⟨x.k, IntKind.i64.wrap (x.n + y.n), IntKind.i64.wrap (x.s + y.s), mnV x.lo y.lo, mxV x.hi y.hi⟩
def z6 (x y : Gr) : Gr := cond (decide (x.k = y.k)) (cmb x y) x
theorem tH (x y : Gr) : zi Go.Proofs.Try.prog 99 [.agg (gE x), .agg (gE y)] [] (.agg (gE (z6 x y))) [] true := by
  refine yn 4 95 Go.Proofs.Try.func99 rfl rfl ?_
  simp only [Go.Proofs.Try.ntmps99, List.length_cons, List.length_nil, Nat.reduceAdd, Nat.reduceSub, List.replicate_succ, List.replicate_zero, List.cons_append, List.nil_append]
  repeat' first | refine zN ?_ | refine zA ?_ | refine zR [] ?_ | (refine isA ?_; refine zd rfl ?_) | (refine isL ?_; refine zV rfl (by kernel_rfl) rfl rfl ?_) | (refine zc rfl ?_; refine zU rfl (by kernel_rfl) rfl rfl ?_) | refine zC ?_ | refine zD _ rfl (by kernel_rfl) ?_ | refine zW rfl ?_ | refine zX rfl ?_ | refine zE ?_ | with_reducible refine zM ?_ | refine zJ ?_ | refine zK ?_ | (with_reducible first | refine zO ?_ | refine zP ?_ | refine zG ?_ | refine zI ?_ | refine zH ?_) | refine zQ ?_
  refine zm rfl (fun h => ?_) (fun h => ?_)
  · have h1 : decide (x.k = y.k) = false := by simpa using h
    repeat' first | refine zN ?_ | refine zA ?_ | refine zR [] ?_ | (refine isA ?_; refine zd rfl ?_) | (refine isL ?_; refine zV rfl (by kernel_rfl) rfl rfl ?_) | (refine zc rfl ?_; refine zU rfl (by kernel_rfl) rfl rfl ?_) | exact (by rw [z6, h1]; exact tq (yJ rfl rfl rfl rfl rfl) (.same rfl)) | refine zC ?_ | refine zD _ rfl (by kernel_rfl) ?_ | refine zW rfl ?_ | refine zX rfl ?_ | refine zE ?_ | with_reducible refine zM ?_ | refine zJ ?_ | refine zK ?_ | (with_reducible first | refine zO ?_ | refine zP ?_ | refine zG ?_ | refine zI ?_ | refine zH ?_) | refine zQ ?_
  · have h1 : decide (x.k = y.k) = true := by simpa using h
    repeat' first | refine zN ?_ | refine zA ?_ | refine zR [] ?_ | (refine isA ?_; refine zd rfl ?_) | (refine isL ?_; refine zV rfl (by kernel_rfl) rfl rfl ?_) | (refine zc rfl ?_; refine zU rfl (by kernel_rfl) rfl rfl ?_) | exact (by rw [z6, h1]; exact tq (yJ rfl rfl rfl rfl rfl) (.same rfl)) | refine zC ?_ | refine zD _ rfl (by kernel_rfl) ?_ | refine zW rfl ?_ | refine zX rfl ?_ | refine zE ?_ | with_reducible refine zM ?_ | refine zJ ?_ | refine zK ?_ | (with_reducible first | refine zO ?_ | refine zP ?_ | refine zG ?_ | refine zI ?_ | refine zH ?_) | refine zQ ?_
theorem w5 (x y : Gr) : zi Go.Proofs.Try.prog 100 [.agg (gE x), .agg (gE y)] [] (.agg (gE (z6 x y))) [] true := by
  refine yn 4 95 Go.Proofs.Try.func100 rfl rfl ?_
  simp only [Go.Proofs.Try.ntmps100, List.length_cons, List.length_nil, Nat.reduceAdd, Nat.reduceSub, List.replicate_succ, List.replicate_zero, List.cons_append, List.nil_append]
  repeat' first | refine zN ?_ | refine zA ?_ | refine zR [] ?_ | (refine isA ?_; refine zd rfl ?_) | (refine isL ?_; refine zV rfl (by kernel_rfl) rfl rfl ?_) | (refine zc rfl ?_; refine zU rfl (by kernel_rfl) rfl rfl ?_) | refine zC ?_ | refine zD _ rfl (by kernel_rfl) ?_ | refine zW rfl ?_ | refine zX rfl ?_ | refine zE ?_ | with_reducible refine zM ?_ | refine zJ ?_ | refine zK ?_ | (with_reducible first | refine zO ?_ | refine zP ?_ | refine zG ?_ | refine zI ?_ | refine zH ?_) | refine zQ ?_
  refine zm rfl (fun h => ?_) (fun h => ?_)
  · have h1 : decide (x.k = y.k) = false := by simpa using h
    repeat' first | refine zN ?_ | refine zA ?_ | refine zR [] ?_ | (refine isA ?_; refine zd rfl ?_) | (refine isL ?_; refine zV rfl (by kernel_rfl) rfl rfl ?_) | (refine zc rfl ?_; refine zU rfl (by kernel_rfl) rfl rfl ?_) | exact (by rw [z6, h1]; exact tq (yJ rfl rfl rfl rfl rfl) (.same rfl)) | refine zC ?_ | refine zD _ rfl (by kernel_rfl) ?_ | refine zW rfl ?_ | refine zX rfl ?_ | refine zE ?_ | with_reducible refine zM ?_ | refine zJ ?_ | refine zK ?_ | (with_reducible first | refine zO ?_ | refine zP ?_ | refine zG ?_ | refine zI ?_ | refine zH ?_) | refine zQ ?_
  · have h1 : decide (x.k = y.k) = true := by simpa using h
    repeat' first | refine zN ?_ | refine zA ?_ | refine zR [] ?_ | (refine isA ?_; refine zd rfl ?_) | (refine isL ?_; refine zV rfl (by kernel_rfl) rfl rfl ?_) | (refine zc rfl ?_; refine zU rfl (by kernel_rfl) rfl rfl ?_) | exact (by rw [z6, h1]; exact tq (yJ rfl rfl rfl rfl rfl) (.same rfl)) | refine zC ?_ | refine zD _ rfl (by kernel_rfl) ?_ | refine zW rfl ?_ | refine zX rfl ?_ | refine zE ?_ | with_reducible refine zM ?_ | refine zJ ?_ | refine zK ?_ | (with_reducible first | refine zO ?_ | refine zP ?_ | refine zG ?_ | refine zI ?_ | refine zH ?_) | refine zQ ?_
def ofR (x : Rw) : Gr := ⟨x.a, 1, x.b, x.b, x.b⟩
theorem tG (x : Rw) : zi Go.Proofs.Try.prog 102 [.agg (rwE x)] [] (.agg (gE (ofR x))) [] true := by
  refine yn 2 95 Go.Proofs.Try.func102 rfl rfl ?_
  simp only [Go.Proofs.Try.ntmps102, List.length_cons, List.length_nil, Nat.reduceAdd, Nat.reduceSub, List.replicate_succ, List.replicate_zero, List.cons_append, List.nil_append]
  repeat' first | refine zN ?_ | refine zA ?_ | refine zR [] ?_ | (refine isA ?_; refine zd rfl ?_) | (refine isL ?_; refine zV rfl (by kernel_rfl) rfl rfl ?_) | (refine zc rfl ?_; refine zU rfl (by kernel_rfl) rfl rfl ?_) | exact tq (yJ rfl rfl rfl rfl rfl) (.same rfl) | refine zC ?_ | refine zD _ rfl (by kernel_rfl) ?_ | refine zW rfl ?_ | refine zX rfl ?_ | refine zE ?_ | with_reducible refine zM ?_ | refine zJ ?_ | refine zK ?_ | (with_reducible first | refine zO ?_ | refine zP ?_ | refine zG ?_ | refine zI ?_ | refine zH ?_) | refine zQ ?_
theorem x4 (x : Rw) : zi Go.Proofs.Try.prog 103 [.agg (rwE x)] [] (.agg (gE (ofR x))) [] true := by
  refine yn 2 95 Go.Proofs.Try.func103 rfl rfl ?_
  simp only [Go.Proofs.Try.ntmps103, List.length_cons, List.length_nil, Nat.reduceAdd, Nat.reduceSub, List.replicate_succ, List.replicate_zero, List.cons_append, List.nil_append]
  repeat' first | refine zN ?_ | refine zA ?_ | refine zR [] ?_ | (refine isA ?_; refine zd rfl ?_) | (refine isL ?_; refine zV rfl (by kernel_rfl) rfl rfl ?_) | (refine zc rfl ?_; refine zU rfl (by kernel_rfl) rfl rfl ?_) | exact tq (yJ rfl rfl rfl rfl rfl) (.same rfl) | refine zC ?_ | refine zD _ rfl (by kernel_rfl) ?_ | refine zW rfl ?_ | refine zX rfl ?_ | refine zE ?_ | with_reducible refine zM ?_ | refine zJ ?_ | refine zK ?_ | (with_reducible first | refine zO ?_ | refine zP ?_ | refine zG ?_ | refine zI ?_ | refine zH ?_) | refine zQ ?_
end Go.Proofs.Ytkcicbigpbdjpaa.Ab.Gq
namespace Go.Proofs.Ytkcicbigpbdjpaa.Ab
open Go.RowKit
section
variable {P : Program}
def uH (r : Reg) : Reg := { r with mode := 2 }
theorem zi.frozenK {f : FuncId} {cargs : List V} {Rs Rs' K : List Reg} {r r' : V} {al : Bool} (h : zi P f cargs Rs r (Rs' ++ K) al) (hl : Rs'.length = Rs.length) (hN : ∀ q ∈ Rs', NoH q.cells)
    (hm : ∀ (i : Nat) (R R' : Reg), Rs[i]? = some R → Rs'[i]? = some R' → R.mode = 0 → R'.mode = 0) (hp : Pur true (Rs'.map uH ++ K) r r') : zi P f cargs Rs r' Rs' true := by
  intro A φ w xs hok hrel hsz
  refine (h A φ w xs hok hrel hsz).mono ?_
  rintro e w' ⟨x, φ', A', rfl, k1, k2, k3, k4, k5, k6⟩
  have hlen : φ'.length = Rs'.length + K.length := by rw [k1.len, List.length_append]
  have hφl : φ.length = Rs'.length := by rw [hok.len, hl]
  have hget : ∀ (i : Nat) (q : Reg), (Rs'.map uH ++ K)[i]? = some q → q.mode ≤ 1 → Rs'.length ≤ i ∧ (Rs' ++ K)[i]? = some q := fun i q hq hm1 => by
    rcases Nat.lt_or_ge i Rs'.length with hlt | hge
    · rw [List.getElem?_append_left (by simpa using hlt), List.getElem?_map] at hq
      obtain ⟨z, hz⟩ : ∃ z, Rs'[i]? = some z := ⟨_, List.getElem?_eq_getElem hlt⟩
      rw [hz] at hq
      simp only [Option.map_some, Option.some.injEq] at hq
      subst hq
      exact absurd (show (2 : Nat) ≤ 1 from hm1) (by decide)
    · refine ⟨hge, ?_⟩
      rw [List.getElem?_append_right (by simpa using hge), List.length_map] at hq
      rw [List.getElem?_append_right hge]
      exact hq
  have hlive2 : ∀ i b, za φ' (Rs'.map uH ++ K) i b → Rs'.length ≤ i ∧ za φ' (Rs' ++ K) i b := fun i b ⟨hd, q, q1, q2, q3, q4⟩ =>
    have := hget i q q2 (by omega)
    ⟨this.1, hd, q, q1, this.2, q3, q4⟩
  have kd : HeapOk A' w' φ' (Rs'.map uH ++ K) := ⟨by rw [hlen]; simp, fun i hd q q1 q2 q3 => k1.regs i hd q q1 (hget i q q2 q3).2 q3, fun i j b q1 q2 => k1.inj i j b (hlive2 i b q1).2 (hlive2 j b q2).2, fun i b q1 => k1.apart i b (hlive2 i b q1).2, fun i hd q b q1 q2 q3 q4 => k1.frz i hd q b q1 (hget i q q2 (by omega)).2 q3 q4, k1.low⟩
  have hT : ∀ (i : Nat) (hd : Hd), (φ'.take Rs'.length)[i]? = some hd → i < Rs'.length ∧ φ'[i]? = some hd := fun i hd hi => by
    have hlt : i < (φ'.take Rs'.length).length := (List.getElem?_eq_some_iff.1 hi).1
    rw [List.length_take] at hlt
    rw [List.getElem?_take_of_lt (by omega)] at hi
    exact ⟨by omega, hi⟩
  have hL : ∀ i b, za (φ'.take Rs'.length) Rs' i b → i < Rs'.length ∧ za φ' (Rs' ++ K) i b := fun i b ⟨hd, q, q1, q2, q3, q4⟩ =>
    have := hT i hd q1
    ⟨this.1, hd, q, this.2, by rw [List.getElem?_append_left this.1]; exact q2, q3, q4⟩
  have hmono : ∀ b, A' b → (A' b ∨ ∃ i, za φ' (Rs'.map uH ++ K) i b) ∧ w'.heap[b]? = w'.heap[b]? := fun b hb => ⟨Or.inl hb, rfl⟩
  refine ⟨x, φ'.take Rs'.length, fun b => A' b ∨ ∃ i, za φ' (Rs'.map uH ++ K) i b, rfl, ⟨by rw [List.length_take]; omega, fun i hd q q1 q2 q3 => ?_, fun i j b q1 q2 => k1.inj i j b (hL i b q1).2 (hL j b q2).2, fun i b q1 hb => ?_, fun i hd q b q1 q2 q3 q4 => ?_, fun b hb => ?_⟩, ?_, fun b hb => ?_, fun i b q1 => k4 i b (hL i b q1).2, k5, fun i hd q1 => ?_⟩
  · obtain ⟨t1, t2⟩ := hT i hd q1
    have := k1.regs i hd q t2 (by rw [List.getElem?_append_left t1]; exact q2) q3
    obtain ⟨e1, e2⟩ := this
    refine ⟨e1, ?_⟩
    cases hk : hd.blk with
    | none => rw [hk] at e2; exact e2
    | some b =>
      rw [hk] at e2
      obtain ⟨c, f1, f2, f3, f4⟩ := e2
      exact ⟨c, f1, f2, f3, zZ.mono hmono (fun _ _ h => h) (yy (hN q (List.mem_of_getElem? q2)) f4)⟩
  · rcases hb with hb | ⟨j, hb⟩
    · exact k1.apart i b (hL i b q1).2 hb
    · obtain ⟨g1, g2⟩ := hlive2 j b hb
      have := k1.inj i j b (hL i b q1).2 g2
      have := (hL i b q1).1
      omega
  · obtain ⟨t1, t2⟩ := hT i hd q1
    exact Or.inl (k1.frz i hd q b t2 (by rw [List.getElem?_append_left t1]; exact q2) q3 q4)
  · rcases hb with hb | ⟨j, hb⟩
    · exact k1.low b hb
    · obtain ⟨g1, hd, q, g2, g3, g4, g5⟩ := hlive2 j b hb
      exact xd k1 g2 g3 (by omega) g5
  · exact Rel.mono (fun b hb => ⟨hb, rfl⟩) (fun j hd hj => by simp at hj) (Pur.rel kd (fun b hb => Or.inl hb) (fun _ j b hb => Or.inr ⟨j, hb⟩) hp k2)
  · rcases hb with hb | ⟨j, hb⟩
    · exact (k3 b hb).imp (fun h => ⟨rfl, h.2⟩) id
    · obtain ⟨g1, g2⟩ := hlive2 j b hb
      rcases k4 j b g2 with h1 | ⟨h0, hd, q, p1, p2, p3, p4⟩
      · exact Or.inr h1
      · exfalso
        have hlt : h0 < Rs'.length := by have := (List.getElem?_eq_some_iff.1 p1).1; omega
        obtain ⟨z, hz⟩ : ∃ z, Rs'[h0]? = some z := ⟨_, List.getElem?_eq_getElem hlt⟩
        have hz0 := hm h0 q z p2 hz p3
        have := k1.inj j h0 b g2 ⟨hd, z, k6 h0 hd p1, by rw [List.getElem?_append_left hlt]; exact hz, hz0, p4⟩
        omega
  · have hlt : i < Rs'.length := by have := (List.getElem?_eq_some_iff.1 q1).1; omega
    rw [List.getElem?_take_of_lt hlt]
    exact k6 i hd q1
end
@[irreducible] def Hold (p : Prop) : Prop := p
theorem pB {p : Prop} (h : p) : Hold p := by unfold Hold; exact h
end Go.Proofs.Ytkcicbigpbdjpaa.Ab
namespace Go.Proofs.Ytkcicbigpbdjpaa.Ab
open Go.RowKit
def enE (p : Int × Nat) : MapEntry := { key := .int .i64 p.1, val := .int .i64 p.2, born := p.2 }
def enM (ks : List Int) : Array MapEntry := (ks.zipIdx.map enE).toArray
structure InvR (r : Nat) (ks : List Int) (C : Cx) (φ : List Hd) (S : St) (a : Act) (w : World) : Prop where
  m : C.φ0.length = S.m
  ex : ∃ A, InvA C A φ S.H w ∧ zZ A w φ S.tmps (fun i => a.tmps[i]?) ∧ ¬ A r
  size : a.tmps.size = S.tmps.length
  defers : a.defers = []
  live : ∀ h, ¬ za φ S.H h r
  blk : w.heap[r]? = some (.map (enM ks) ks.length)
  new : C.w0.heap.size ≤ r
theorem InvR.inv {r : Nat} {ks : List Int} {C : Cx} {φ : List Hd} {S : St} {a : Act} {w : World} (h : InvR r ks C φ S a w) : Inv C φ S a w := by
  obtain ⟨A, h1, h2, _⟩ := h.ex
  exact ⟨h.m, ⟨A, h1, h2⟩, h.size, h.defers⟩
theorem InvR.lt {r : Nat} {ks : List Int} {C : Cx} {φ : List Hd} {S : St} {a : Act} {w : World} (h : InvR r ks C φ S a w) : r < w.heap.size := (Array.getElem?_eq_some_iff.1 h.blk).1
theorem InvR.root {r : Nat} {ks : List Int} {C : Cx} {φ : List Hd} {l : List V} {H : List Reg} {m : Nat} {a : Act} {w : World} (hI : InvR r ks C φ ⟨l, H, m⟩ a w) :
    ∃ C1 : Cx, Inv C1 φ ⟨l, H, H.length⟩ a w ∧ ∀ φ' S' a' w', Inv C1 φ' S' a' w' → InvR r ks C φ' ⟨S'.tmps, S'.H, m⟩ a' w' := by
  have hlt := hI.lt
  obtain ⟨hm, ⟨A, hA, hr, hn⟩, hs, hd, hl, hb, hw⟩ := hI
  simp only at hm hA hr hs hl
  refine ⟨⟨A, w, φ, H⟩, ⟨hA.ok.len, ⟨A, ⟨hA.ok, fun b hb => Or.inl hb, fun h b hl => Or.inr ⟨h, hl⟩, ⟨rfl, rfl, rfl, Nat.le_refl _, fun _ _ _ => rfl⟩, fun _ _ h => h⟩, hr⟩, hs, hd⟩, ?_⟩
  rintro φ' S' a' w' ⟨_, ⟨A', hA', hr'⟩, hs', hd'⟩
  have f := hA'.frame
  refine ⟨hm, ⟨A', ⟨hA'.ok, fun b hb => ?_, fun h b hl => ?_, ⟨f.os.trans hA.frame.os, f.tape.trans hA.frame.tape, f.output.trans hA.frame.output, Nat.le_trans hA.frame.size f.size, fun b hb hno => ?_⟩, fun h hd hh => hA'.pre h hd (hA.pre h hd hh)⟩, hr', fun hA1 => ?_⟩, hs', hd', fun h hl' => ?_, ?_, hw⟩
  · rcases hA'.old b hb with h | h
    · exact hA.old b h
    · exact Or.inr (Nat.le_trans hA.frame.size h)
  · rcases hA'.own h b hl with h1 | ⟨h0, h1⟩
    · exact Or.inl (Nat.le_trans hA.frame.size h1)
    · exact hA.own h0 b h1
  · refine (f.block b (Nat.lt_of_lt_of_le hb hA.frame.size) fun h hl => ?_).trans (hA.frame.block b hb hno)
    rcases hA.own h b hl with h1 | ⟨h0, h1⟩
    · exact absurd hb (Nat.not_lt.2 h1)
    · exact hno h0 h1
  · rcases hA'.old r hA1 with h | h
    · exact hn h
    · exact absurd hlt (Nat.not_lt.2 h)
  · rcases hA'.own h r hl' with h1 | ⟨h0, h1⟩
    · exact absurd hlt (Nat.not_lt.2 h1)
    · exact hl h0 h1
  · exact (f.block r hlt hl).trans hb
def uQ (r : Nat) (C : Cx) (Q : Exit → St → List Int → Prop) : Exit → Act → World → Prop := fun e a w => ∃ S φ ks, InvR r ks C φ S a w ∧ Q e S ks
structure AWr (P : Program) (r : Nat) (c : Code) (Q : Exit → St → List Int → Prop) (S : St) (ks : List Int) : Prop where
  out : ∀ C φ a w, InvR r ks C φ S a w → c.wp P (uQ r C Q) a w
structure AR (P : Program) (r : Nat) (ops : Array Oper) (l : List Oper) (K : Cx → Exit → Act → World → Prop) (S : St) (ks : List Int) : Prop where
  out : ∀ C φ a w, InvR r ks C φ S a w → wpList P ops (K C) l a w
def qc (K : St → List Int → Prop) (Q : Exit → St → List Int → Prop) : Exit → St → List Int → Prop
  | .normal, S, ks => K S ks
  | e, S, ks => Q e S ks
def uP (id : Nat) (Q : Exit → St → List Int → Prop) : Exit → St → List Int → Prop
  | .exit j, S, ks => if j = id then Q .normal S ks else Q (.exit j) S ks
  | e, S, ks => Q e S ks
section
variable {P : Program} {r : Nat} {Q : Exit → St → List Int → Prop} {S : St} {ks : List Int}
theorem x6 {c : Code} {l : List V} {H : List Reg} {m : Nat} (h : AW P c (fun e S' => Q e ⟨S'.tmps, S'.H, m⟩ ks) ⟨l, H, H.length⟩) : AWr P r c Q ⟨l, H, m⟩ ks := ⟨fun C φ a w hI => by
  obtain ⟨C1, h1, h2⟩ := hI.root
  exact wp_mono (h.out C1 φ a w h1) fun e a' w' ⟨S', φ', k1, k2⟩ => ⟨_, φ', ks, h2 _ _ _ _ k1, k2⟩⟩
theorem mX {id : Nat} (h : Q (.exit id) S ks) : AWr P r (.exit id) Q S ks := ⟨fun C φ a w hI => wp_exit ⟨S, φ, ks, hI, h⟩⟩
theorem mV (h : Q .normal S ks) : AWr P r .skip Q S ks := ⟨fun C φ a w hI => wp_skip ⟨S, φ, ks, hI, h⟩⟩
theorem xC {x y : Code} (h : AWr P r x (qc (AWr P r y Q) Q) S ks) : AWr P r (.seq x y) Q S ks := ⟨fun C φ a w hI => by
  refine wp_seq (wp_mono (h.out C φ a w hI) ?_)
  rintro e a' w' ⟨S', φ', ks', hI', hq⟩
  cases e with
  | normal => exact hq.out C φ' a' w' hI'
  | exit id => exact ⟨S', φ', ks', hI', hq⟩
  | goto l => exact ⟨S', φ', ks', hI', hq⟩
  | ret => exact ⟨S', φ', ks', hI', hq⟩
  | panic c => exact ⟨S', φ', ks', hI', hq⟩
  | outgrown => exact ⟨S', φ', ks', hI', hq⟩⟩
theorem t7 {c : Operand} {x y : Code} {b : Bool} (hc : S.ev c = .k (.bool b)) (ht : b = true → AWr P r x Q S ks) (hf : b = false → AWr P r y Q S ks) : AWr P r (.cond c x y) Q S ks := ⟨fun C φ a w hI => by
  obtain ⟨A, hA, hr, _⟩ := hI.ex
  have h1 := y9 hr c
  rw [hc, Rel] at h1
  refine wp_cond h1 ?_
  cases b with
  | true => exact (ht rfl).out C φ a w hI
  | false => exact (hf rfl).out C φ a w hI⟩
theorem uf {id : Nat} {c : Code} (h : AWr P r c (uP id Q) S ks) : AWr P r (.block id c) Q S ks := ⟨fun C φ a w hI => by
  refine wp_block (wp_mono (h.out C φ a w hI) ?_)
  rintro e a' w' ⟨S', φ', ks', hI', hq⟩
  cases e with
  | normal => exact ⟨S', φ', ks', hI', hq⟩
  | exit j =>
    simp only [uP] at hq
    simp only [Exit.inBlock]
    by_cases hj : j = id
    · rw [if_pos hj] at hq ⊢; exact ⟨S', φ', ks', hI', hq⟩
    · rw [if_neg hj] at hq ⊢; exact ⟨S', φ', ks', hI', hq⟩
  | goto l => exact ⟨S', φ', ks', hI', hq⟩
  | ret => exact ⟨S', φ', ks', hI', hq⟩
  | panic c => exact ⟨S', φ', ks', hI', hq⟩
  | outgrown => exact ⟨S', φ', ks', hI', hq⟩⟩
theorem uM {id : Nat} {l : List Oper} (h : AR P r l.toArray l (fun C => uQ r C Q) S ks) : AWr P r (.region id l.toArray false) Q S ks := ⟨fun C φ a w hI => wp_region_lit (h.out C φ a w hI)⟩
theorem sY {ops : Array Oper} (h : Q .normal S ks) : AR P r ops [] (fun C => uQ r C Q) S ks := ⟨fun C φ a w hI => wpList_nil ⟨S, φ, ks, hI, h⟩⟩
def mc (T S : St) : Prop := T.m = S.m ∧ ∃ ψ : List Nat, (∀ i, i < S.m → ψ[i]? = some i) ∧ HLe ψ T.H S.H ∧ Les ψ T.tmps S.tmps
theorem mc.inv {T S : St} {C : Cx} {φ : List Hd} {a : Act} {w : World} (hs : mc T S) (hI : InvR r ks C φ S a w) : ∃ φ', InvR r ks C φ' T a w := by
  obtain ⟨hm, ψ, hfix, hH, ht⟩ := hs
  obtain ⟨hm0, ⟨A, hA, hr, hn⟩, hs, hd, hl, hb, hw⟩ := hI
  obtain ⟨φ', h1, h2, h3, h4⟩ := hH.ok hA.ok
  refine ⟨φ', hm0.trans hm.symm, ⟨A, ⟨h3, hA.old, fun i b hb => ?_, hA.frame, fun i hd' hi => ?_⟩, Les.rels h2 ht hr, hn⟩, hs.trans (yl ht), hd, fun h hl' => ?_, hb, hw⟩
  · obtain ⟨h, hb'⟩ := h4 i b hb
    exact hA.own h b hb'
  · exact h2 i i (hfix i (by rw [← hm0]; exact (List.getElem?_eq_some_iff.1 hi).1)) hd' (hA.pre i hd' hi)
  · obtain ⟨h', hb'⟩ := h4 h r hl'
    exact hl h' hb'
theorem mW {α : Type} {c : Code} (I : α → St × List Int) (μ : α → Nat) (x : α) (h0 : mc (I x).1 S ∧ (I x).2 = ks)
    (round : ∀ x, AWr P r c (qc (fun S' ks' => ∃ y, μ y < μ x ∧ mc (I y).1 S' ∧ (I y).2 = ks') Q) (I x).1 (I x).2) : AWr P r (.loop c) Q S ks := ⟨fun C φ a w hI => by
  obtain ⟨h0, hks⟩ := h0
  subst hks
  obtain ⟨φ0, hI0⟩ := h0.inv hI
  intro b k cs
  have key : ∀ n x, μ x = n → ∀ φ a w, InvR r (I x).2 C φ (I x).1 a w →
      ∃ e a' w', uQ r C Q e a' w' ∧ Arrives P (lone (b.at a (.code c :: .inLoop c :: k)) cs w) b k cs e a' w' := by
    intro n
    induction n using Nat.strongRecOn with
    | _ n ih =>
      intro x hn φ a w hI
      obtain ⟨e, a1, w1, ⟨S1, φ1, ks1, hI1, hq⟩, harr⟩ := (round x).out C φ a w hI b (.inLoop c :: k) cs
      cases e with
      | normal =>
        obtain ⟨y, hlt, hsub, hks⟩ := hq
        subst hks
        obtain ⟨φ2, hI2⟩ := hsub.inv hI1
        obtain ⟨e2, a2, w2, hq2, harr2⟩ := ih (μ y) (hn ▸ hlt) y rfl φ2 a1 w1 hI2
        exact ⟨e2, a2, w2, hq2, .of_steps (Steps.trans harr (.one step_inLoop)) harr2⟩
      | exit id => exact ⟨_, a1, w1, ⟨S1, φ1, ks1, hI1, hq⟩, .pass (x := .inLoop c) rfl (fun _ _ => .inl (by simp)) harr⟩
      | goto l => exact ⟨_, a1, w1, ⟨S1, φ1, ks1, hI1, hq⟩, .pass (x := .inLoop c) rfl (fun _ _ => .inl (by simp)) harr⟩
      | ret => exact ⟨_, a1, w1, ⟨S1, φ1, ks1, hI1, hq⟩, .pass (x := .inLoop c) rfl (fun _ _ => .inl (by simp)) harr⟩
      | panic ch => exact ⟨_, a1, w1, ⟨S1, φ1, ks1, hI1, hq⟩, .pass (x := .inLoop c) rfl (fun _ _ => .inl (by simp)) harr⟩
      | outgrown => exact ⟨_, a1, w1, ⟨S1, φ1, ks1, hI1, hq⟩, .pass (x := .inLoop c) rfl (fun _ _ => .inl (by simp)) harr⟩
  obtain ⟨e, a', w', hq, harr⟩ := key _ x rfl φ0 a w hI0
  exact ⟨e, a', w', hq, .of_steps (.one step_loop) harr⟩⟩
end
theorem pS {T S : St} (ψ : List Nat) (hm : T.m = 0) (hm' : S.m = 0) (hn : ψ.Nodup) (hH : HLes ψ S.H ψ T.H) (ht : Les ψ T.tmps S.tmps) : mc T S := ⟨hm.trans hm'.symm, ψ, fun i hi => by omega, wl hn hH, ht⟩
section
variable {P : Program} {r : Nat} {ops : Array Oper} {K : Cx → Exit → Act → World → Prop} {ks : List Int} {o : Oper} {rest : List Oper} {l l' : List V} {H H' H'' : List Reg} {m : Nat}
theorem ar_R {v : V} (hw : zw ops ⟨l, H, m⟩ o = some true) (hs : zh P o (St.ev ⟨l, H, m⟩) H v H') (hp : xg l H' o.dst v = some (l', H'')) (k : AR P r ops rest K ⟨l', H'', m⟩ ks) : AR P r ops (o :: rest) K ⟨l, H, m⟩ ks := ⟨fun C φ a w hI => by
  refine wpList_step fun K1 hK => ?_
  rw [if_pos (yL hI.inv hw)]
  obtain ⟨C1, h1, h2⟩ := hI.root
  refine hs ⟨l, H, H.length⟩ rfl (fun _ _ => rfl) C1 φ a w h1 K1 _ fun x w' φ' hI' => hK _ _ ?_
  have := h2 _ _ _ _ hI'
  rw [show (⟨((⟨l, H, H.length⟩ : St).put o.dst v H').tmps, ((⟨l, H, H.length⟩ : St).put o.dst v H').H, m⟩ : St) = (⟨l, H, m⟩ : St).put o.dst v H' by cases o.dst <;> rfl, yI hp m] at this
  exact k.out C φ' _ _ this⟩
theorem xw {T : Tab} [hT : TabC P T] (h : wF T ops o l H = some (l', H')) (k : AR P r ops rest K ⟨l', H', m⟩ ks) (hw : zw ops ⟨l, H, m⟩ o = some true) : AR P r ops (o :: rest) K ⟨l, H, m⟩ ks := by
  unfold wF at h
  split at h
  · rename_i hw
    split at h
    · rename_i v H'' hv
      exact ar_R (by exact hw) (yx (m := m) hT.ok hv) h k
    · cases h
  · rename_i hw'
    rw [show zw ops ⟨l, H, m⟩ o = some false from hw'] at hw
    cases hw
  · cases h
theorem tB (k : Int) : ∀ (ks : List Int) (i : Nat), Instr.findNow (.int .i64) (.int .i64 k) ((ks.zipIdx i).map enE) i = some ((ks.findIdx? (fun x => decide (x = k))).map fun j => (i + j, Value.int .i64 ((i + j : Nat) : Int)))
  | [], i => rfl
  | x :: ks, i => by
    rw [List.zipIdx_cons, List.map_cons, List.findIdx?_cons]
    simp only [Instr.findNow, enE, Instr.sameNow, if_true]
    by_cases h : x = k
    · subst h
      simp
    · have h1 : (k == x) = false := by simp [Ne.symm h]
      have h2 : decide (x = k) = false := by simp [h]
      rw [h1, h2]
      simp only [tB k ks (i + 1)]
      simp [Option.map_map, Function.comp_def, Nat.add_assoc, Nat.add_comm 1]
def vU (ks : List Int) (k : Int) : List V := match ks.findIdx? (fun x => decide (x = k)) with
  | some j => [.k (.int .i64 j), .k (.bool true)]
  | none => [.k (.int .i64 0), .k (.bool false)]
theorem pw {w : World} {t kt : TypeId} {k : Int} (ht : P.underlying t = some (.map kt kt)) (hk : P.underlying kt = some (.int .i64)) (hz : (zeroValue kt).run P w = .ok (.int .i64 0) w) (hb : w.heap[r]? = some (.map (enM ks) ks.length)) :
    (Instr.lookup t (.map (some r)) (.int .i64 k) true).run P w = .ok (match ks.findIdx? (fun x => decide (x = k)) with
      | some j => .tuple #[.int .i64 j, .bool true]
      | none => .tuple #[.int .i64 0, .bool false]) w := by
  have h1 := tB k ks 0
  simp only [Nat.zero_add] at h1
  have h2 := MapKept.run_findKey (P := P) (w := w) hk (l := (enM ks).toList) (by rw [enM]; exact h1)
  have h3 := MapKept.run_checkKey (P := P) (w := w) (k := .int .i64 k) hk rfl (enM ks).isEmpty 9999
  unfold Instr.lookup
  simp only [Sem.run_bind, run_underlying ht, Result.andThen_ok, MapKept.run_getObj_map hb, Sem.run_pure]
  rw [h3]
  simp only [Result.andThen_ok]
  rw [h2]
  simp only [Result.andThen_ok]
  cases ks.findIdx? (fun x => decide (x = k)) with
  | none => simp [hz, Result.andThen_ok]
  | some j => simp
theorem qa {t kt : TypeId} {x y : Operand} {k : Int} {vs : List V} (hv : vU ks k = vs) (hw : zw ops ⟨l, H, m⟩ o = some true) (ho : o.op = .lookup t x y true) (hx : St.ev ⟨l, H, m⟩ x = .k (.map (some r))) (hy : St.ev ⟨l, H, m⟩ y = .k (.int .i64 k))
    (ht : P.underlying t = some (.map kt kt)) (hk : P.underlying kt = some (.int .i64)) (hz : ∀ w, (zeroValue kt).run P w = .ok (.int .i64 0) w) (hp : xg l H o.dst (.tup vs) = some (l', H'')) (h : AR P r ops rest K ⟨l', H'', m⟩ ks) : AR P r ops (o :: rest) K ⟨l, H, m⟩ ks := ⟨fun C φ a w hI => by
  subst hv
  refine wpList_step fun K1 hK => ?_
  rw [if_pos (yL hI.inv hw)]
  have hI0 := hI
  obtain ⟨hm, ⟨A, hA, hr, hn⟩, hs, hd, hl, hb, hw'⟩ := hI
  have e1 := y9 hr x
  rw [hx, Rel] at e1
  have e2 := y9 hr y
  rw [hy, Rel] at e2
  have h1 := pw (P := P) (ks := ks) (r := r) (w := w) (k := k) ht hk (hz w) hb
  obtain ⟨u, hu, hru⟩ : ∃ u, (Instr.lookup t (.map (some r)) (.int .i64 k) true).run P w = .ok u w ∧ Rel A w φ (.tup (vU ks k)) u := by
    refine ⟨_, h1, ?_⟩
    unfold vU
    cases ks.findIdx? (fun x => decide (x = k)) with
    | none => rw [Rel]; exact ⟨_, rfl, rfl, by simp [zZ, Rel]⟩
    | some j => rw [Rel]; exact ⟨_, rfl, rfl, by simp [zZ, Rel]⟩
  have h2 : (execOp a.eval o).run P w = .ok (.value u) w := by
    simp only [execOp, ho, e1, e2]
    rw [Sem.run_bind, hu]
    rfl
  unfold Oper.wp
  rw [h2]
  obtain ⟨h3, h4⟩ := xk (H := H) hs hr hru o.dst
  refine hK _ _ (h.out C φ _ _ ?_)
  rw [← yI hp m]
  have eH : ((⟨l, H, m⟩ : St).put o.dst (.tup (vU ks k)) H).H = H := by cases o.dst <;> rfl
  exact ⟨by cases o.dst <;> exact hm, ⟨A, by rw [eH]; exact hA, h3, hn⟩, h4, by cases o.dst <;> exact hd, by rw [eH]; exact hl, hb, hw'⟩⟩
theorem m8 (ks : List Int) (k : Int) : (enM ks).push { key := .int .i64 k, val := .int .i64 (ks.length : Nat), born := ks.length } = enM (ks ++ [k]) := by
  simp [enM, List.zipIdx_append, enE]
theorem kx {t kt : TypeId} {x y z : Operand} {k : Int} (hw : zw ops ⟨l, H, m⟩ o = some true) (ho : o.op = .mapUpdate t x y z) (hd0 : o.dst = none) (hx : St.ev ⟨l, H, m⟩ x = .k (.map (some r))) (hy : St.ev ⟨l, H, m⟩ y = .k (.int .i64 k)) (hz : St.ev ⟨l, H, m⟩ z = .k (.int .i64 (ks.length : Nat)))
    (ht : P.underlying t = some (.map kt kt)) (hk : P.underlying kt = some (.int .i64)) (hno : ks.findIdx? (fun x => decide (x = k)) = none) (h : AR P r ops rest K ⟨l, H, m⟩ (ks ++ [k])) : AR P r ops (o :: rest) K ⟨l, H, m⟩ ks := ⟨fun C φ a w hI => by
  refine wpList_step fun K1 hK => ?_
  rw [if_pos (yL hI.inv hw)]
  have hlt := hI.lt
  obtain ⟨hm, ⟨A, hA, hr, hn⟩, hs, hd, hl, hb, hw'⟩ := hI
  simp only at hm hA hr hs hl
  have e1 := y9 (S := ⟨l, H, m⟩) hr x
  rw [hx, Rel] at e1
  have e2 := y9 (S := ⟨l, H, m⟩) hr y
  rw [hy, Rel] at e2
  have e3 := y9 (S := ⟨l, H, m⟩) hr z
  rw [hz, Rel] at e3
  have h1 := tB k ks 0
  rw [hno] at h1
  simp only [Option.map_none] at h1
  have h2 := MapKept.run_findKey (P := P) (w := w) hk (l := (enM ks).toList) (by rw [enM]; exact h1)
  have h3 := MapKept.run_checkKey (P := P) (w := w) (k := .int .i64 k) hk rfl false 9999
  have h4 : (execOp a.eval o).run P w = .ok .skip { w with heap := w.heap.setIfInBounds r (.map (enM (ks ++ [k])) (ks.length + 1)) } := by
    simp only [execOp, ho, e1, e2, e3]
    unfold Instr.mapUpdate
    simp only [Sem.run_bind, run_underlying ht, Result.andThen_ok, MapKept.run_getObj_map hb, Sem.run_pure]
    rw [h3]
    simp only [Result.andThen_ok]
    rw [h2]
    simp only [Result.andThen_ok]
    rw [m8, MapKept.run_setObj_map _ hb]
    rfl
  unfold Oper.wp
  rw [h4]
  obtain ⟨g1, g2⟩ := MapKept.heap_set (o' := .map (enM (ks ++ [k])) (ks.length + 1)) hb
  have hAb : ∀ b, A b → A b ∧ (w.heap.setIfInBounds r (.map (enM (ks ++ [k])) (ks.length + 1)))[b]? = w.heap[b]? := fun b hb => ⟨hb, g2 b fun e => hn (e ▸ hb)⟩
  have hmono : ∀ {φ : List Hd} {cs : List V} {g : Nat → Option Value}, zZ A w φ cs g → zZ A { w with heap := w.heap.setIfInBounds r (.map (enM (ks ++ [k])) (ks.length + 1)) } φ cs g := fun h => zZ.mono hAb (fun _ _ h => h) h
  refine hK _ _ (h.out C φ _ _ ?_)
  rw [hd0]
  refine ⟨hm, ⟨A, ⟨⟨hA.ok.len, fun h' hd' rr p1 p2 p3 => ?_, hA.ok.inj, hA.ok.apart, hA.ok.frz, fun b hb => by simpa using hA.ok.low b hb⟩, hA.old, hA.own, ⟨hA.frame.os, hA.frame.tape, hA.frame.output, by simpa using hA.frame.size, fun b hb2 hno => ?_⟩, hA.pre⟩, hmono hr, hn⟩, hs, hd, hl, ?_, hw'⟩
  · obtain ⟨q1, q2⟩ := hA.ok.regs h' hd' rr p1 p2 p3
    refine ⟨q1, ?_⟩
    cases hbk : hd'.blk with
    | none => rw [hbk] at q2; exact q2
    | some b =>
      rw [hbk] at q2
      obtain ⟨c, c1, c2, c3, c4⟩ := q2
      refine ⟨c, ?_, c2, c3, hmono c4⟩
      have hne : b ≠ r := fun e => by
        subst e
        rw [hb] at c1
        cases c1
      exact (g2 b hne).trans c1
  · refine (g2 b fun e => ?_).trans (hA.frame.block b hb2 hno)
    rw [e] at hb2
    exact absurd hb2 (Nat.not_lt.2 hw')
  · rw [show (ks ++ [k]).length = ks.length + 1 by simp]
    exact g1⟩
end
end Go.Proofs.Ytkcicbigpbdjpaa.Ab
namespace Go.Proofs.Ytkcicbigpbdjpaa.Ab
open Go.RowKit
structure AM (P : Program) (ops : Array Oper) (l : List Oper) (K : Nat → St → Prop) (S : St) : Prop where
  out : ∀ C φ a w, Inv C φ S a w → wpList P ops (fun e a' w' => ∃ r, uQ r C (fun e S' ks => e = .normal ∧ ks = [] ∧ K r S') e a' w') l a w
section
variable {P : Program} {ops : Array Oper} {K : Nat → St → Prop} {o : Oper} {rest : List Oper} {l l' : List V} {H H' H'' : List Reg} {m : Nat}
theorem am_R {v : V} (hw : zw ops ⟨l, H, m⟩ o = some true) (hs : zh P o (St.ev ⟨l, H, m⟩) H v H') (hp : xg l H' o.dst v = some (l', H'')) (k : AM P ops rest K ⟨l', H'', m⟩) : AM P ops (o :: rest) K ⟨l, H, m⟩ := ⟨fun C φ a w hI => by
  refine wpList_step fun K1 hK => ?_
  rw [if_pos (yL hI hw)]
  refine hs ⟨l, H, m⟩ rfl (fun _ _ => rfl) C φ a w hI K1 _ fun x w' φ' hI' => hK _ _ ?_
  rw [yI hp m] at hI'
  exact k.out C φ' _ _ hI'⟩
theorem am_F {T : Tab} [hT : TabC P T] (h : wF T ops o l H = some (l', H')) (k : AM P ops rest K ⟨l', H', m⟩) (hw : zw ops ⟨l, H, m⟩ o = some true) : AM P ops (o :: rest) K ⟨l, H, m⟩ := by
  unfold wF at h
  split at h
  · rename_i hw
    split at h
    · rename_i v H'' hv
      exact am_R (by exact hw) (yx (m := m) hT.ok hv) h k
    · cases h
  · rename_i hw'
    rw [show zw ops ⟨l, H, m⟩ o = some false from hw'] at hw
    cases hw
  · cases h
theorem am_mk {t : TypeId} {l' : Nat → List V} (hw : zw ops ⟨l, H, m⟩ o = some true) (ho : o.op = .makeMap t none) (hp : ∀ r, xg l H o.dst (.k (.map (some r))) = some (l' r, H)) (h : ∀ r, AR P r ops rest (fun C e a' w' => ∃ r, uQ r C (fun e S' ks => e = .normal ∧ ks = [] ∧ K r S') e a' w') ⟨l' r, H, m⟩ []) : AM P ops (o :: rest) K ⟨l, H, m⟩ := ⟨fun C φ a w hI => by
  refine wpList_step fun K1 hK => ?_
  rw [if_pos (yL hI hw)]
  obtain ⟨hm, ⟨A, hA, hr⟩, hs, hd⟩ := hI
  simp only at hm hA hr hs
  have h1 : (execOp a.eval o).run P w = .ok (.value (.map (some w.heap.size))) (w.alloc (.map #[] 0)) := by
    simp only [execOp, ho, Option.map_none]
    rw [Sem.run_bind, run_makeMap]
    rfl
  unfold Oper.wp
  rw [h1]
  obtain ⟨g1, g2⟩ := MapKept.heap_alloc w (.map #[] 0)
  have hAb : ∀ b, A b → A b ∧ (w.alloc (.map #[] 0)).heap[b]? = w.heap[b]? := fun b hb => ⟨hb, g2 b (hA.ok.low b hb)⟩
  have hmono : ∀ {φ : List Hd} {cs : List V} {g : Nat → Option Value}, zZ A w φ cs g → zZ A (w.alloc (.map #[] 0)) φ cs g := fun h => zZ.mono hAb (fun _ _ h => h) h
  have hsz : w.heap.size ≤ (w.alloc (.map #[] 0)).heap.size := by show w.heap.size ≤ (w.heap.push _).size; simp
  have hin : ∀ h b, za φ H h b → b < w.heap.size := fun h b ⟨hd, r, h1, h2, h3, h4⟩ => by
    obtain ⟨_, e2⟩ := hA.ok.regs h hd r h1 h2 (by omega)
    rw [h4] at e2
    obtain ⟨c, k1, _⟩ := e2
    exact (Array.getElem?_eq_some_iff.1 k1).1
  have hrel : Rel A (w.alloc (.map #[] 0)) φ (.k (.map (some w.heap.size))) (.map (some w.heap.size)) := by rw [Rel]
  obtain ⟨h3, h4⟩ := xk (S := ⟨l, H, m⟩) (H := H) hs (hmono hr) hrel o.dst
  have eH : ((⟨l, H, m⟩ : St).put o.dst (.k (.map (some w.heap.size))) H).H = H := by cases o.dst <;> rfl
  refine hK _ _ ?_
  refine (h w.heap.size).out C φ (a.put o.dst (.map (some w.heap.size))) (w.alloc (.map #[] 0)) ?_
  rw [← yI (hp w.heap.size) m]
  refine ⟨by cases o.dst <;> exact hm, ⟨A, ?_, h3, fun hA1 => absurd (hA.ok.low _ hA1) (Nat.lt_irrefl _)⟩, h4, by cases o.dst <;> exact hd, fun h hl => ?_, g1, hA.frame.size⟩
  · rw [eH]
    refine ⟨⟨hA.ok.len, fun h' hd' rr p1 p2 p3 => ?_, hA.ok.inj, hA.ok.apart, hA.ok.frz, fun b hb => Nat.lt_of_lt_of_le (hA.ok.low b hb) hsz⟩, hA.old, hA.own, ⟨hA.frame.os, hA.frame.tape, hA.frame.output, Nat.le_trans hA.frame.size hsz, fun b hb hno => (g2 b (Nat.lt_of_lt_of_le hb hA.frame.size)).trans (hA.frame.block b hb hno)⟩, hA.pre⟩
    obtain ⟨q1, q2⟩ := hA.ok.regs h' hd' rr p1 p2 p3
    refine ⟨q1, ?_⟩
    cases hbk : hd'.blk with
    | none => rw [hbk] at q2; exact q2
    | some b =>
      rw [hbk] at q2
      obtain ⟨c, c1, c2, c3, c4⟩ := q2
      exact ⟨c, (g2 b (Array.getElem?_eq_some_iff.1 c1).1).trans c1, c2, c3, hmono c4⟩
  · rw [eH] at hl
    exact absurd (hin h _ hl) (Nat.lt_irrefl _)⟩
theorem lJ {r : Nat} {S : St} (h : K r S) : AR P r ops [] (fun C e a' w' => ∃ r, uQ r C (fun e S' ks => e = .normal ∧ ks = [] ∧ K r S') e a' w') S [] := ⟨fun C φ a w hI => wpList_nil ⟨r, S, φ, [], hI, rfl, rfl, h⟩⟩
theorem sW {id : Nat} {ls : List Oper} {y : Code} {Q : Exit → St → Prop} {S : St} (h : AM P ls.toArray ls (fun r S' => AWr P r y (fun e S _ => Q e S) S' []) S) : AW P (.seq (.region id ls.toArray false) y) Q S := ⟨fun C φ a w hI => by
  refine wp_seq (wp_mono (wp_region_lit (h.out C φ a w hI)) ?_)
  rintro e a' w' ⟨r, S', φ', ks, hI', rfl, rfl, hk⟩
  exact wp_mono (hk.out C φ' a' w' hI') fun e a w ⟨S, φ, ks, h1, h2⟩ => ⟨S, φ, h1.inv, h2⟩⟩
end
end Go.Proofs.Ytkcicbigpbdjpaa.Ab
namespace Go.Proofs.Ytkcicbigpbdjpaa.Ab.Gq
open Go.RowKit
def isK (k : Int) (x : Gr) : Bool := decide (x.k = k)
def vC (out : List Gr) (g : Gr) : List Gr := match out.findIdx? (isK g.k) with
  | some j => match out[j]? with
    | some x => out.set j (z6 x g)
    | none => out
  | none => out ++ [g]
def wO (gs : List Gr) : List Gr := gs.foldl vC []
theorem mb {gs : List Gr} {i : Nat} {z : Gr} (hz : gs[i]? = some z) : wO (gs.take (i + 1)) = vC (wO (gs.take i)) z := by
  rw [List.take_add_one, hz, wO, List.foldl_append]; rfl
theorem mo (out : List Gr) (g : Gr) : (vC out g).length ≤ out.length + 1 := by
  unfold vC
  split
  · split
    · rw [List.length_set]; omega
    · omega
  · simp
theorem qb : ∀ (gs out : List Gr), (gs.foldl vC out).length ≤ out.length + gs.length
  | [], out => Nat.le_refl _
  | g :: gs, out => by
    have h1 := mo out g
    have h2 := qb gs (vC out g)
    rw [List.foldl_cons, List.length_cons]
    omega
theorem mz (out : List Gr) (k : Int) : (out.map (·.k)).findIdx? (fun x => decide (x = k)) = out.findIdx? (isK k) := by
  rw [List.findIdx?_map]; rfl
theorem ym {K : St → List Int → Prop} {Q : Exit → St → List Int → Prop} {S : St} {ks : List Int} (h : K S ks) : qc K Q .normal S ks := h
theorem up {K : St → List Int → Prop} {Q : Exit → St → List Int → Prop} {S : St} {ks : List Int} {id : Nat} (h : Q (.exit id) S ks) : qc K Q (.exit id) S ks := h
theorem py {Q : Exit → St → List Int → Prop} {S : St} {ks : List Int} {id : Nat} (h : Q .normal S ks) : uP id Q .normal S ks := h
theorem ta {Q : Exit → St → List Int → Prop} {S : St} {ks : List Int} {id : Nat} (h : Q .normal S ks) : uP id Q (.exit id) S ks := by simp only [uP, if_true]; exact h
theorem wm (x z : Gr) : (z6 x z).k = x.k := by unfold z6; cases decide (x.k = z.k) <;> rfl
theorem pG (f : List Gr → List Gr) (gs : List Gr) (hl : gs.length ≤ 100000000) (hs : ∀ out : List Gr, out.length ≤ 100000000 → zi Go.Proofs.Try.prog 145 [.sl 0 0 out.length, .k (.func (.func 146) #[] #[])] [gR out] (.tup []) [gR (f out)] true) (hf : ∀ out, (f out).length = out.length) :
    zi Go.Proofs.Try.prog 82 [gL gs] [] (.sl 0 0 (f (wO gs)).length) [gR (f (wO gs))] false := by
  refine zj [2] Go.Proofs.Try.func82 rfl rfl ?_
  simp only [Go.Proofs.Try.ntmps82, List.length_cons, List.length_nil, Nat.reduceAdd, Nat.reduceSub, List.replicate_succ, List.replicate_zero, List.cons_append, List.nil_append]
  refine zN ?_
  refine zA ?_
  refine isA ?_
  refine zd rfl ?_
  refine zC ?_
  refine zM ?_
  refine sW ?_
  refine am_F rfl ?_ rfl
  refine am_mk rfl rfl (fun r => rfl) (fun r => ?_)
  refine xw rfl ?_ rfl
  refine xw rfl ?_ rfl
  refine lJ ?_
  refine xC ?_
  refine xC ?_
  refine x6 ?_
  repeat' first | refine zN ?_ | refine zA ?_ | refine zR [] ?_ | (refine isA ?_; refine zd rfl ?_) | (refine isL ?_; refine zV rfl (by kernel_rfl) rfl rfl ?_) | (refine zc rfl ?_; refine zU rfl (by kernel_rfl) rfl rfl ?_) | refine zC ?_ | refine zD _ rfl (by kernel_rfl) ?_ | refine zW rfl ?_ | refine zX rfl ?_ | refine zE ?_ | with_reducible refine zM ?_ | refine zJ ?_ | refine zK ?_ | (with_reducible first | refine zO ?_ | refine zP ?_ | refine zG ?_ | refine zI ?_ | refine zH ?_) | refine zQ ?_
  refine ym ?_
  refine uf ?_
  have hb : ∀ i, (wO (gs.take i)).length ≤ gs.length := fun i => by
    have h1 := qb (gs.take i) []
    have h2 : (gs.take i).length ≤ gs.length := by rw [List.length_take]; omega
    simp only [List.length_nil] at h1
    unfold wO
    omega
  refine mW (α := { i : Nat // i ≤ gs.length }) (fun i => (⟨[.any, .any, .any, .sl 0 0 (wO (gs.take i.1)).length, .k (.map (some r)), .any, .any, .any, .any, .any, .any, gL gs, I gs.length, I i.1, .any, .any, .any, .any, .any, .any, .any, .any, .any, .any, .any, .any, .any, .any, .any, .any, .any, .any, .any, .any, .any, .any, .any, .any, .any, .any, .any, .any, .any, .any, .any, .any, .any, .any], [gR (wO (gs.take i.1))], 0⟩, (wO (gs.take i.1)).map (·.k))) (fun i => gs.length - i.1) ⟨0, Nat.zero_le _⟩ ?_ ?_
  · exact ⟨pS [0] rfl rfl (by decide) (.cons rfl rfl rfl rfl (yC rfl) .nil) (by repeat' first | exact zn | refine zk ?_ ?_ | exact zy | exact le_refl rfl | exact z8 rfl rfl | exact yB rfl), rfl⟩
  · rintro ⟨i, hi⟩
    have hbi := hb i
    have hsn : ∀ z, gs[i]? = some z → wO (gs.take (i + 1)) = vC (wO (gs.take i)) z := fun z hz => mb hz
    have hend : i = gs.length → wO (gs.take i) = wO gs := fun h => by rw [h, List.take_length]
    generalize hG : wO (gs.take i) = out at hbi hsn hend
    refine xC ?_
    refine x6 ?_
    simp only [hG]
    repeat' first | refine zN ?_ | refine zA ?_ | refine zR [] ?_ | (refine isA ?_; refine zd rfl ?_) | (refine isL ?_; refine zV rfl (by kernel_rfl) rfl rfl ?_) | (refine zc rfl ?_; refine zU rfl (by kernel_rfl) rfl rfl ?_) | refine zC ?_ | refine zD _ rfl (by kernel_rfl) ?_ | refine zW rfl ?_ | refine zX rfl ?_ | refine zE ?_ | with_reducible refine zM ?_ | refine zJ ?_ | refine zK ?_ | (with_reducible first | refine zO ?_ | refine zP ?_ | refine zG ?_ | refine zI ?_ | refine zH ?_) | refine zQ ?_
    refine ym ?_
    refine xC ?_
    refine t7 rfl (fun h => ?_) (fun h => ?_)
    · have hlt : i < gs.length := by simpa using h
      obtain ⟨z, hz⟩ : ∃ z, gs[i]? = some z := ⟨_, List.getElem?_eq_getElem hlt⟩
      have hn := hsn z hz
      refine mV ?_
      refine ym ?_
      refine xC ?_
      refine uf ?_
      refine xC ?_
      refine x6 ?_
      repeat' first | refine zN ?_ | refine zA ?_ | refine zR [] ?_ | (refine isA ?_; refine zd rfl ?_) | (refine isL ?_; refine zV rfl (by kernel_rfl) rfl rfl ?_) | (refine zc rfl ?_; refine zU rfl (by kernel_rfl) rfl rfl ?_) | (refine xH ?_; refine zb rfl (yR (t := gT) (z := z) rfl rfl rfl rfl (Int.natCast_nonneg i) hz) rfl ?_) | (refine xG rfl ?_; refine zY rfl (by kernel_rfl) rfl (yR (t := gT) (z := z) rfl rfl rfl rfl (Int.natCast_nonneg i) hz) rfl ?_) | refine zC ?_ | refine zD _ rfl (by kernel_rfl) ?_ | refine zW rfl ?_ | refine zX rfl ?_ | refine zE ?_ | with_reducible refine zM ?_ | refine zJ ?_ | refine zK ?_ | (with_reducible first | refine zO ?_ | refine zP ?_ | refine zG ?_ | refine zI ?_ | refine zH ?_) | refine zQ ?_
      refine ym ?_
      refine xC ?_
      refine uM ?_
      refine xw rfl ?_ rfl
      refine xw rfl ?_ rfl
      refine xw rfl ?_ rfl
      have hfk := mz out z.k
      unfold vC at hn
      cases hj : out.findIdx? (isK z.k) with
      | some j =>
        rw [hj] at hfk hn
        have hlk : vU (out.map (·.k)) z.k = [.k (.int .i64 j), .k (.bool true)] := by rw [vU, hfk]
        refine qa hlk rfl rfl rfl rfl (kt := 3) (by kernel_rfl) (by kernel_rfl) Go.Proofs.Try.zeroValue3 rfl ?_
        refine xw rfl ?_ rfl
        refine xw rfl ?_ rfl
        refine xw rfl ?_ rfl
        refine xw rfl ?_ rfl
        refine xw rfl ?_ rfl
        refine sY ?_
        refine ym ?_
        obtain ⟨hjl, hjk, _⟩ := List.findIdx?_eq_some_iff_getElem.1 hj
        have hx : out[j]? = some out[j] := List.getElem?_eq_getElem hjl
        generalize out[j] = x at hx hjk
        simp only [hx] at hn
        have hkk : (out.set j (z6 x z)).map (·.k) = out.map (·.k) := by
          rw [List.map_set]
          refine List.ext_getElem? fun q => ?_
          rw [List.getElem?_set]
          split
          · rename_i h; subst h
            rw [if_pos (by simpa using hjl), List.getElem?_map, hx]
            rw [Option.map_some, wm]
          · rfl
        refine x6 ?_
        repeat' first | (refine isLs rfl ?_; refine kI rfl (by kernel_rfl) rfl (ln (T := gT) (i := j) (xs := out) (z := z6 x z) rfl rfl rfl rfl rfl hjl) rfl ?_) | refine zN ?_ | refine zA ?_ | refine zR [9] ?_ | (refine isA ?_; refine zd rfl ?_) | (refine isL ?_; refine zV rfl (by kernel_rfl) rfl rfl ?_) | (refine zc rfl ?_; refine zU rfl (by kernel_rfl) rfl rfl ?_) | (refine xH ?_; refine zb rfl (tk (t := gT) (xs := out) (j := (j : Int)) rfl rfl rfl rfl rfl (Int.natCast_nonneg _) (by omega)) rfl ?_) | (refine xG rfl ?_; refine zY rfl (by kernel_rfl) rfl (tk (t := gT) (xs := out) (j := (j : Int)) rfl rfl rfl rfl rfl (Int.natCast_nonneg _) (by omega)) rfl ?_) | (refine nN (x := .tmp 39) ?_; refine zb rfl (mu (T := gT) (xs := out) (i := j) (z := x) rfl rfl rfl hx) rfl ?_) | (refine mv (x := .tmp 39) rfl ?_; refine zY rfl (by kernel_rfl) rfl (mu (T := gT) (xs := out) (i := j) (z := x) rfl rfl rfl hx) rfl ?_) | (refine zo 99 ?_; refine zb rfl (zT rfl (tH x z) (.cons (.same rfl) (.cons (.same rfl) .nil)) rfl) rfl ?_) | (refine zp 99 rfl ?_; refine zY rfl (by kernel_rfl) rfl (zT rfl (tH x z) (.cons (.same rfl) (.cons (.same rfl) .nil)) rfl) rfl ?_) | refine zC ?_ | refine zD _ rfl (by kernel_rfl) ?_ | refine zW rfl ?_ | refine zX rfl ?_ | refine zE ?_ | with_reducible refine zM ?_ | refine zJ ?_ | refine zK ?_ | (with_reducible first | refine zO ?_ | refine zP ?_ | refine zG ?_ | refine zI ?_ | refine zH ?_) | refine zQ ?_
        refine py ?_
        refine ym ?_
        refine x6 ?_
        repeat' first | refine zN ?_ | refine zA ?_ | refine zR [] ?_ | (refine isA ?_; refine zd rfl ?_) | (refine isL ?_; refine zV rfl (by kernel_rfl) rfl rfl ?_) | (refine zc rfl ?_; refine zU rfl (by kernel_rfl) rfl rfl ?_) | refine zC ?_ | refine zD _ rfl (by kernel_rfl) ?_ | refine zW rfl ?_ | refine zX rfl ?_ | refine zE ?_ | with_reducible refine zM ?_ | refine zJ ?_ | refine zK ?_ | (with_reducible first | refine zO ?_ | refine zP ?_ | refine zG ?_ | refine zI ?_ | refine zH ?_) | refine zQ ?_
        refine ym ?_
        refine ⟨⟨i + 1, hlt⟩, by simp only; omega, ?_, ?_⟩
        · simp only [hn]
          exact pS [0] rfl rfl (by decide) (.cons rfl rfl rfl rfl (zf (zg _ _)) .nil) (by repeat' first | exact zn | refine zk ?_ ?_ | exact zy | exact le_refl rfl | exact yB rfl | exact z8 rfl rfl | exact z8 rfl (by simp) | exact wL (by omega) (by omega))
        · simp only [hn]
          exact hkk
      | none =>
        rw [hj] at hfk hn
        simp only at hn
        have hlk : vU (out.map (·.k)) z.k = [.k (.int .i64 0), .k (.bool false)] := by rw [vU, hfk]
        refine qa hlk rfl rfl rfl rfl (kt := 3) (by kernel_rfl) (by kernel_rfl) Go.Proofs.Try.zeroValue3 rfl ?_
        refine xw rfl ?_ rfl
        refine xw rfl ?_ rfl
        refine xw rfl ?_ rfl
        refine xw rfl ?_ rfl
        refine xw rfl ?_ rfl
        refine sY ?_
        refine ym ?_
        refine xC ?_
        refine xC ?_
        refine x6 ?_
        repeat' first | refine zN ?_ | refine zA ?_ | refine zR [] ?_ | (refine isA ?_; refine zd rfl ?_) | (refine isL ?_; refine zV rfl (by kernel_rfl) rfl rfl ?_) | (refine zc rfl ?_; refine zU rfl (by kernel_rfl) rfl rfl ?_) | refine zC ?_ | refine zD _ rfl (by kernel_rfl) ?_ | refine zW rfl ?_ | refine zX rfl ?_ | refine zE ?_ | with_reducible refine zM ?_ | refine zJ ?_ | refine zK ?_ | (with_reducible first | refine zO ?_ | refine zP ?_ | refine zG ?_ | refine zI ?_ | refine zH ?_) | refine zQ ?_
        refine ym ?_
        refine t7 rfl (fun _ => ?_) (fun h => by cases h)
        refine xC ?_
        refine uM ?_
        refine xw rfl ?_ rfl
        refine xw rfl ?_ rfl
        refine xw rfl ?_ rfl
        refine xw rfl ?_ rfl
        refine xw rfl ?_ rfl
        refine kx rfl rfl rfl rfl rfl (by rw [List.length_map]; rfl) (kt := 3) (by kernel_rfl) (by kernel_rfl) hfk ?_
        refine sY ?_
        refine ym ?_
        refine x6 ?_
        repeat' first | (refine isA ?_; refine zb rfl (yh rfl rfl rfl rfl rfl) rfl ?_) | refine zN ?_ | refine zA ?_ | refine zR [] ?_ | (refine isA ?_; refine zd rfl ?_) | (refine isL ?_; refine zV rfl (by kernel_rfl) rfl rfl ?_) | (refine zc rfl ?_; refine zU rfl (by kernel_rfl) rfl rfl ?_) | (refine v6 ?_; refine zb rfl (xJ (t := gT) (xs := out) (ys := [z]) rfl rfl rfl rfl (.lst _ _) (by simp; omega) rfl) rfl ?_) | (refine vz rfl ?_; refine zY rfl (by kernel_rfl) rfl (xJ (t := gT) (xs := out) (ys := [z]) rfl rfl rfl rfl (.lst _ _) (by simp; omega) rfl) rfl ?_) | refine zC ?_ | refine zD _ rfl (by kernel_rfl) ?_ | refine zW rfl ?_ | refine zX rfl ?_ | refine zE ?_ | with_reducible refine zM ?_ | refine zJ ?_ | refine zK ?_ | (with_reducible first | refine zO ?_ | refine zP ?_ | refine zG ?_ | refine zI ?_ | refine zH ?_) | refine zQ ?_
        refine up ?_
        refine ta ?_
        refine ym ?_
        refine x6 ?_
        repeat' first | refine zN ?_ | refine zA ?_ | refine zR [] ?_ | (refine isA ?_; refine zd rfl ?_) | (refine isL ?_; refine zV rfl (by kernel_rfl) rfl rfl ?_) | (refine zc rfl ?_; refine zU rfl (by kernel_rfl) rfl rfl ?_) | refine zC ?_ | refine zD _ rfl (by kernel_rfl) ?_ | refine zW rfl ?_ | refine zX rfl ?_ | refine zE ?_ | with_reducible refine zM ?_ | refine zJ ?_ | refine zK ?_ | (with_reducible first | refine zO ?_ | refine zP ?_ | refine zG ?_ | refine zI ?_ | refine zH ?_) | refine zQ ?_
        refine ym ?_
        refine ⟨⟨i + 1, hlt⟩, by simp only; omega, ?_, ?_⟩
        · simp only [hn]
          exact pS [2] rfl rfl (by decide) (.cons rfl rfl rfl rfl (zf (zg _ _)) .nil) (by repeat' first | exact zn | refine zk ?_ ?_ | exact zy | exact le_refl rfl | exact yB rfl | exact z8 rfl rfl | exact z8 rfl (by simp) | exact wL (by omega) (by omega))
        · simp only [hn, List.map_append]
          rfl
    · have hge : i = gs.length := by
        have : ¬ ((i : Int) < gs.length) := by simpa using h
        omega
      have hg := hend hge
      have hso := hs out (by omega)
      have hfo := hf out
      rw [← hg]
      refine mX ?_
      refine up ?_
      refine up ?_
      refine ta ?_
      refine ym ?_
      refine x6 ?_
      repeat' first | refine zN ?_ | refine zA ?_ | refine zR [] ?_ | (refine isA ?_; refine zd rfl ?_) | (refine isL ?_; refine zV rfl (by kernel_rfl) rfl rfl ?_) | (refine zc rfl ?_; refine zU rfl (by kernel_rfl) rfl rfl ?_) | (refine zo 145 ?_; refine zb rfl (zS (K := []) (Rs' := [_]) [0] (by decide) rfl hso (.cons rfl rfl rfl (zg _ _) (zg _ _) .nil) (.cons (.sl rfl) (.cons (.same rfl) .nil)) (fun q hq => by cases hq) rfl) rfl ?_) | (refine zp 145 rfl ?_; refine zY rfl (by kernel_rfl) rfl (zS (K := []) (Rs' := [_]) [0] (by decide) rfl hso (.cons rfl rfl rfl (zg _ _) (zg _ _) .nil) (.cons (.sl rfl) (.cons (.same rfl) .nil)) (fun q hq => by cases hq) rfl) rfl ?_) | refine zC ?_ | refine zD _ rfl (by kernel_rfl) ?_ | refine zW rfl ?_ | refine zX rfl ?_ | refine zE ?_ | with_reducible refine zM ?_ | refine zJ ?_ | refine zK ?_ | (with_reducible first | refine zO ?_ | refine zP ?_ | refine zG ?_ | refine zI ?_ | refine zH ?_) | refine zQ ?_
      exact m7 (ty := gT) rfl rfl rfl rfl hfo.symm rfl (u9 _)
end Go.Proofs.Ytkcicbigpbdjpaa.Ab.Gq
namespace Go.Proofs.Ytkcicbigpbdjpaa.Ab.Gq
open Go.RowKit Go.Shelf
def wT : Go.Shelf.Ren := ⟨fun | 6 => 145 | 15 => 165 | 14 => 164 | 28 => 177 | 29 => 178 | 20 => 169 | 21 => 170 | 22 => 171 | 23 => 172 | 24 => 173 | 25 => 174 | 26 => 175 | 27 => 176 | 46 => 180 | 47 => 181 | 48 => 182 | 49 => 183 | 50 => 184 | 57 => 186 | n => n, fun | 22 => 84 | 24 => 95 | 25 => 144 | 3 => 3 | 39 => 159 | 0 => 0 | 53 => 171 | 55 => 173 | 4 => 4 | 46 => 165 | 45 => 164 | 50 => 141 | 5 => 5 | 9 => 9 | 66 => 174 | 70 => 178 | 76 => 180 | 77 => 181 | n => n, fun | n => n⟩
theorem lk : Go.Proofs.SlLaysF0.n6 Try.prog wT := {
  mixed := by kernel_rfl
  f6 := ⟨Try.f145.name, by decide, Try.func145.trans (congrArg some (by kernel_rfl))⟩
  f14 := ⟨Try.f164.name, by decide, Try.func164.trans (congrArg some (by kernel_rfl))⟩
  f15 := Try.func165.trans (congrArg some (by kernel_rfl))
  f20 := ⟨Try.f169.name, by decide, Try.func169.trans (congrArg some (by kernel_rfl))⟩
  f21 := ⟨Try.f170.name, by decide, Try.func170.trans (congrArg some (by kernel_rfl))⟩
  f22 := ⟨Try.f171.name, by decide, Try.func171.trans (congrArg some (by kernel_rfl))⟩
  f23 := ⟨Try.f172.name, by decide, Try.func172.trans (congrArg some (by kernel_rfl))⟩
  f24 := ⟨Try.f173.name, by decide, Try.func173.trans (congrArg some (by kernel_rfl))⟩
  f25 := ⟨Try.f174.name, by decide, Try.func174.trans (congrArg some (by kernel_rfl))⟩
  f26 := ⟨Try.f175.name, by decide, Try.func175.trans (congrArg some (by kernel_rfl))⟩
  f27 := ⟨Try.f176.name, by decide, Try.func176.trans (congrArg some (by kernel_rfl))⟩
  f28 := Try.func177.trans (congrArg some (by kernel_rfl))
  f29 := Try.func178.trans (congrArg some (by kernel_rfl))
  f46 := ⟨Try.f180.name, by decide, Try.func180.trans (congrArg some (by kernel_rfl))⟩
  f47 := Try.func181.trans (congrArg some (by kernel_rfl))
  f48 := Try.func182.trans (congrArg some (by kernel_rfl))
  f49 := ⟨Try.f183.name, by decide, Try.func183.trans (congrArg some (by kernel_rfl))⟩
  f50 := ⟨Try.f184.name, by decide, Try.func184.trans (congrArg some (by kernel_rfl))⟩
  f57 := ⟨Try.f186.name, by decide, Try.func186.trans (congrArg some (by kernel_rfl))⟩
  t0 := Try.underlying0
  a0 := Try.isAgg0
  z0 := Try.sizeOf0
  v0 := Try.zeroValue0
  t3 := Try.underlying3
  a3 := Try.isAgg3
  z3 := Try.sizeOf3
  v3 := Try.zeroValue3
  t4 := Try.underlying4
  a4 := Try.isAgg4
  z4 := Try.sizeOf4
  v4 := Try.zeroValue4
  t5 := Try.underlying5
  a5 := Try.isAgg5
  z5 := Try.sizeOf5
  v5 := Try.zeroValue5
  t9 := Try.underlying9
  a9 := Try.isAgg9
  z9 := Try.sizeOf9
  v9 := Try.zeroValue9
  t22 := Try.underlying84
  a22 := Try.isAgg84
  z22 := Try.sizeOf84
  v22 := Try.zeroValue84
  t25 := Try.underlying144
  a25 := Try.isAgg144
  z25 := Try.sizeOf144
  v25 := Try.zeroValue144
  t39 := Try.underlying159
  a39 := Try.isAgg159
  z39 := Try.sizeOf159
  v39 := Try.zeroValue159
  t45 := Try.underlying164
  a45 := Try.isAgg164
  z45 := Try.sizeOf164
  v45 := Try.zeroValue164
  t46 := Try.underlying165
  a46 := Try.isAgg165
  z46 := Try.sizeOf165
  v46 := Try.zeroValue165
  t50 := Try.underlying141
  a50 := Try.isAgg141
  z50 := Try.sizeOf141
  v50 := Try.zeroValue141
  t53 := Try.underlying171
  a53 := Try.isAgg171
  z53 := Try.sizeOf171
  v53 := Try.zeroValue171
  t55 := Try.underlying173
  a55 := Try.isAgg173
  z55 := Try.sizeOf173
  v55 := Try.zeroValue173
  t66 := Try.underlying174
  a66 := Try.isAgg174
  z66 := Try.sizeOf174
  v66 := Try.zeroValue174
  t70 := Try.underlying178
  a70 := Try.isAgg178
  z70 := Try.sizeOf178
  v70 := Try.zeroValue178
  t76 := Try.underlying180
  a76 := Try.isAgg180
  z76 := Try.sizeOf180
  v76 := Try.zeroValue180
  t77 := Try.underlying181
  a77 := Try.isAgg181
  z77 := Try.sizeOf181
  v77 := Try.zeroValue181 }
end Go.Proofs.Ytkcicbigpbdjpaa.Ab.Gq
namespace Go.Proofs.Ytkcicbigpbdjpaa.Ab
open Go.RowKit
def nE (a b : Int) : Int := cond (decide (a < b)) (-1) (cond (decide (b < a)) 1 0)
def vP : List Int → List Int → Int
  | x :: xs, y :: ys => cond (decide (x < y)) (-1) (cond (decide (y < x)) 1 (vP xs ys))
  | _, _ => 0
def rwN (x : Rw) : List Int := [x.a, x.b, x.c]
def xr (x y : Rw) : Int := vP (rwN x) (rwN y)
def intT : Ty Int := ⟨1, fun n => [I n], fun _ => rfl, by decide, fun r c hc => by
  simp only [List.mem_cons, List.not_mem_nil, or_false] at hc
  subst hc
  exact ⟨rfl, rfl⟩⟩
def mgV : List Rw → List Rw → List Rw
  | [], ys => ys
  | x :: xs, [] => x :: xs
  | x :: xs, y :: ys => cond (decide (xr x y ≤ 0)) (x :: mgV xs (y :: ys)) (y :: mgV (x :: xs) ys)
termination_by xs ys => xs.length + ys.length
theorem w8 (xs : List Rw) (k : Nat) : ((rwT.flat xs).drop (0 * 3)).take ((k - 0) * 3) = rwT.flat (xs.take k) := by
  rw [Nat.zero_mul, List.drop_zero, Nat.sub_zero, show k * 3 = k * rwT.n from rfl, y8]
theorem vN (xs : List Rw) (k : Nat) : ((rwT.flat xs).drop (k * 3)).take ((xs.length - k) * 3) = rwT.flat (xs.drop k) := by
  rw [show k * 3 = k * rwT.n from rfl, xq, show (xs.length - k) * 3 = (xs.length - k) * rwT.n from rfl, y8, List.take_of_length_le (by simp)]
theorem po {o : Oper} {ρ : Operand → V} {H : List Reg} {x y : Operand} {xs : List Rw} {k : Nat} {kk : IntKind} (ho : o.op = .slice 24 x none (some y) none) (hx : ρ x = rwL xs) (hy : ρ y = .k (.int kk k)) (hk : k ≤ xs.length) : zh Go.Proofs.Try.prog o ρ H (rwL (xs.take k)) H := by
  have := wC (P := Go.Proofs.Try.prog) (o := o) (ρ := ρ) (H := H) (l := 0) (h := k) ho hx (.no 0) (.yes _ hy) (zr rwT xs) (by omega) (by omega) (by omega)
  rw [Int.toNat_natCast, show Int.toNat 0 = 0 from rfl] at this
  rw [show rwL (xs.take k) = .lst (k - 0) (((rwT.flat xs).drop (0 * 3)).take ((k - 0) * 3)) by rw [w8]; simp [yW]; omega]
  exact this
theorem pp {o : Oper} {ρ : Operand → V} {H : List Reg} {x y : Operand} {xs : List Rw} {k : Nat} {j : Int} {kk : IntKind} (ho : o.op = .slice 24 x (some y) none none) (hx : ρ x = rwL xs) (hy : ρ y = .k (.int kk j)) (hj : j = (k : Int)) (hk : k ≤ xs.length) : zh Go.Proofs.Try.prog o ρ H (rwL (xs.drop k)) H := by
  subst hj
  have := wC (P := Go.Proofs.Try.prog) (o := o) (ρ := ρ) (H := H) (l := k) (h := xs.length) ho hx (.yes _ hy) (.no _) (zr rwT xs) (by omega) (by omega) (by omega)
  rw [Int.toNat_natCast, Int.toNat_natCast] at this
  rw [show rwL (xs.drop k) = .lst (xs.length - k) (((rwT.flat xs).drop (k * 3)).take ((xs.length - k) * 3)) by rw [vN]; simp [yW]]
  exact this
end Go.Proofs.Ytkcicbigpbdjpaa.Ab
namespace Go.Proofs.Ytkcicbigpbdjpaa.Ab.Gq
open Go.RowKit Go.Shelf Go.Lib Go.Sort
theorem qu (a b : Int) (W : World) : Calls Go.Proofs.Try.prog 147 #[.int .i64 a, .int .i64 b] W fun e w' => e = .returned (.int .i64 (nE a b)) ∧ w' = W := by
  unfold nE
  by_cases h1 : a < b
  · simp only [h1, decide_true, cond_true]
    go_enter Go.Proofs.Try.func147, Go.Proofs.Try.ntmps147
    go_wp2
    go_ret
    exact ⟨rfl, rfl⟩
  · simp only [h1, decide_false, cond_false]
    by_cases h2 : b < a
    · simp only [h2, decide_true, cond_true]
      go_enter Go.Proofs.Try.func147, Go.Proofs.Try.ntmps147
      go_wp2
      go_ret
      exact ⟨rfl, rfl⟩
    · simp only [h2, decide_false, cond_false]
      go_enter Go.Proofs.Try.func147, Go.Proofs.Try.ntmps147
      go_wp2
      go_ret
      exact ⟨rfl, rfl⟩
def xh (x : Gr) : List Value := [.int .i64 x.k, .int .i64 x.n, .int .i64 x.s, .int .i64 x.lo, .int .i64 x.hi]
def cfG (x y : Gr) : Int := nE x.k y.k
theorem pF (x y : Gr) (W : World) : Calls Go.Proofs.Try.prog 146 #[.agg (xh x).toArray, .agg (xh y).toArray] W fun e w' => e = .returned (.int .i64 (cfG x y)) ∧ ∃ q os', w' = grow (W.drewN q) os' := by
  have hcon := fun W' => qu x.k y.k W'
  unfold cfG
  unfold xh
  generalize nE x.k y.k = r at hcon ⊢
  go_enter Go.Proofs.Try.func146, Go.Proofs.Try.ntmps146
  go_wp2_with (go_at_call 147; refine (hcon _).mono ?_; rintro e w' ⟨rfl, rfl⟩)
  go_ret
  exact ⟨rfl, 0, _, by rw [alloc_eq_grow, alloc_eq_grow, grow_grow]; rfl⟩
instance : Inhabited Gr := ⟨⟨0, 0, 0, 0, 0⟩⟩
theorem mA (blk off size : Nat) (w : World) : CmpLays Go.Proofs.Try.prog 146 #[] xh 5 cfG blk off size w := fun _ _ _ _ x y => pF x y _
theorem ss (x y : Gr) : ltOf cfG x y = decide (x.k < y.k) := by
  unfold ltOf cfG nE
  by_cases h1 : x.k < y.k
  · simp [h1]
  · by_cases h2 : y.k < x.k <;> simp [h1, h2]
theorem pQ : SWO (ltOf cfG) where
  irrefl x := by rw [ss]; simp
  trans x y z h1 h2 := by rw [ss] at *; simp at *; omega
  ntrans x y z h1 h2 := by rw [ss] at *; simp at *; omega
def vx (xs : List Gr) : Array Gr := pdq (ltOf cfG) xs.toArray 0 xs.toArray.size (Lib.bitLen xs.toArray.size) true true
def xx (xs : List Gr) : List Gr := (vx xs).toList
theorem pr (xs : List Gr) : PermIn 0 xs.toArray.size xs.toArray (vx xs) ∧ SortedIn (ltOf cfG) 0 xs.toArray.size (vx xs) := pdq_sorts (ltOf cfG) pQ xs.toArray 0 xs.toArray.size (Lib.bitLen xs.toArray.size) true true (Nat.zero_le _) (Nat.le_refl _) (Or.inl rfl)
theorem kg : ∀ w, (isAgg (wT.t 24)).run Go.Proofs.Try.prog w = .ok true w := Go.Proofs.Try.isAgg95
theorem sizeG : ∀ w, (Go.sizeOf (wT.t 24)).run Go.Proofs.Try.prog w = .ok 5 w := Go.Proofs.Try.sizeOf95
theorem mq (x : Gr) : ∀ v ∈ xh x, v.oneCell' = true := fun v hv => by
  simp only [xh, List.mem_cons, List.not_mem_nil, or_false] at hv
  rcases hv with rfl | rfl | rfl | rfl | rfl <;> rfl
theorem sL (blk cap : Nat) (d : Array Gr) (w : World) (hH : HoldsK xh 5 w blk 0 d) (hblk : blk < w.heap.size) (hsz : d.size < 4611686018427387904) :
    Calls Go.Proofs.Try.prog 145 #[.slice (some ⟨blk, 0, none⟩) d.size cap, .func (.func 146) #[] #[]] w fun e w' => e = .returned (.tuple #[]) ∧ ∃ n os, w' = sortWorldK xh 5 w blk 0 n (vx d.toList) os := by
  have eg : ∀ args w, (callFunc 146 args).run Go.Proofs.Try.prog w = .ok (.enter 146 args) w := enters_of Go.Proofs.Try.func146 (by kernel_rfl) rfl
  exact AnyQ.slices_SortFunc_eq lk 5 kg sizeG xh (fun _ => rfl) mq cfG pQ 146 #[] blk 0 cap d w eg (mA blk 0 d.size w) hH hblk hsz
theorem ny (xs : List Gr) (j : Nat) (hj : j < xs.length * 5) : (gT.flat xs)[j]? = some (.k ((flatK xh 5 xs.toArray)[j]!)) := by
  have hlt : j / 5 < xs.length := by omega
  have hz : xs[j / 5]? = some xs[j / 5] := List.getElem?_eq_getElem hlt
  rw [get_flatK xh 5 xs.toArray j (by simpa using hj), show xs.toArray[j / 5]! = xs[j / 5] by simp [hlt]]
  generalize xs[j / 5] = x at hz
  have key : (gT.enc x)[j % 5]? = some (.k ((xh x)[j % 5]!)) := by
    have h5 : j % 5 < 5 := Nat.mod_lt _ (by decide)
    match j % 5, h5 with
    | 0, _ => rfl
    | 1, _ => rfl
    | 2, _ => rfl
    | 3, _ => rfl
    | 4, _ => rfl
  have := to gT hz key
  rwa [show j / 5 * gT.n + j % 5 = j by show j / 5 * 5 + j % 5 = j; omega] at this
theorem vd (xs : List Gr) : (xx xs).length = xs.length := by
  have h := (pr xs).1.1
  rw [xx, Array.length_toList, h]
  simp
theorem m9 (xs : List Gr) (hl : xs.length ≤ 100000000) (hne : xs ≠ []) : zi Go.Proofs.Try.prog 145 [.sl 0 0 xs.length, .k (.func (.func 146) #[] #[])] [gR xs] (.tup []) [gR (xx xs)] true := by
  intro A φ w args hok hrel hsz
  have hpos : 0 < xs.length := List.length_pos_iff.2 hne
  have hfl : (gT.flat xs).length = xs.length * 5 := zr _ _
  obtain ⟨hd, hφ⟩ : ∃ hd, φ[0]? = some hd := ⟨φ[0]'(by rw [hok.len]; exact Nat.one_pos), List.getElem?_eq_getElem _⟩
  obtain ⟨⟨q1, q2, q3⟩, q4⟩ := hok.regs 0 hd (gR xs) hφ rfl (Nat.zero_le _)
  change hd.esz = 5 at q1
  change hd.e = _ at q2
  obtain ⟨b, hb⟩ : ∃ b, hd.blk = some b := by
    cases h : hd.blk with
    | some b => exact ⟨b, rfl⟩
    | none =>
      rw [h] at q4
      have : (gT.flat xs).length = 0 := by rw [show gT.flat xs = [] from q4.1]; rfl
      omega
  rw [hb] at q4
  obtain ⟨c, c1, c2, c3, c4⟩ := q4
  change (gT.flat xs).length ≤ c.size at c3
  obtain ⟨a0, h0, r0⟩ := zz hrel (i := 0) (c := .sl 0 0 xs.length) rfl
  obtain ⟨a1, h1, r1⟩ := zz hrel (i := 1) (c := .k (.func (.func 146) #[] #[])) rfl
  simp only [Rel] at r0 r1
  obtain ⟨hd', hφ', hx⟩ := r0
  rw [hφ] at hφ'
  cases hφ'
  have hx : a0 = .slice (some ⟨b, 0, none⟩) xs.length (hd.cap - 0) := by
    rcases hx with hx | hx
    · rw [hx.1, hb, Option.map_some, Nat.zero_mul]
    · omega
  subst hx r1
  have hargs : args = #[.slice (some ⟨b, 0, none⟩) xs.toArray.size (hd.cap - 0), .func (.func 146) #[] #[]] := by
    apply Array.ext (by rw [hsz]; rfl)
    intro i hi hi2
    have h2 : i < 2 := by rw [hsz] at hi; exact hi
    match i, h2 with
    | 0, _ => exact (Array.getElem?_eq_some_iff.1 h0).2
    | 1, _ => exact (Array.getElem?_eq_some_iff.1 h1).2
  subst hargs
  have hblk : b < w.heap.size := (Array.getElem?_eq_some_iff.1 c1).1
  have hH : HoldsK xh 5 w b 0 xs.toArray := fun j hj => by
    have hj' : j < xs.length * 5 := by simpa using hj
    obtain ⟨y, y1, y2⟩ := zz c4 (ny xs j hj')
    rw [Rel] at y2
    subst y2
    rw [Nat.zero_add]
    refine ⟨?_, ?_⟩
    · simp only [World.cell?, c1]
      exact y1
    · simp only [World.frozen?, c1]
      simp
  refine (sL b (hd.cap - 0) xs.toArray w hH hblk (by simp; omega)).mono ?_
  rintro e w' ⟨rfl, n, os, rfl⟩
  have hys : (vx xs.toArray.toList) = (xx xs).toArray := by simp [xx]
  rw [hys]
  have hlen := vd xs
  generalize xx xs = ys at hlen
  have hw : (sortWorldK xh 5 w b 0 n ys.toArray os).heap = w.heap.modify b (onCells (putCells id 0 (flatK xh 5 ys.toArray))) ++ os := rfl
  have hin : ∀ b', b' < w.heap.size → (sortWorldK xh 5 w b 0 n ys.toArray os).heap[b']? = (w.heap.modify b (onCells (putCells id 0 (flatK xh 5 ys.toArray))))[b']? := fun b' hb' => by
    rw [hw, Array.getElem?_append_left (by simpa using hb')]
  have hoth : ∀ b', b' < w.heap.size → b' ≠ b → (sortWorldK xh 5 w b 0 n ys.toArray os).heap[b']? = w.heap[b']? := fun b' hb' hne' => by
    rw [hin b' hb', Array.getElem?_modify, if_neg (Ne.symm hne')]
  have hlv : za φ [gR xs] 0 b := ⟨hd, gR xs, hφ, rfl, rfl, hb⟩
  have hAb : ∀ b', A b' → A b' ∧ (sortWorldK xh 5 w b 0 n ys.toArray os).heap[b']? = w.heap[b']? := fun b' hb' => ⟨hb', hoth b' (hok.low b' hb') fun e => hok.apart 0 b hlv (e ▸ hb')⟩
  have hnew : (sortWorldK xh 5 w b 0 n ys.toArray os).heap[b]? = some (.cells (putCells id 0 (flatK xh 5 ys.toArray) c) hd.e (0, 0)) := by
    rw [hin b hblk, Array.getElem?_modify, if_pos rfl, c1]
    rfl
  have hlive : ∀ (zs : List Gr) h b', za φ [gR zs] h b' → h = 0 ∧ b' = b := fun zs h b' ⟨hd', r, l1, l2, l3, l4⟩ => by
    have hh : h < 1 := (List.getElem?_eq_some_iff.1 l2).1
    obtain rfl : h = 0 := by omega
    rw [hφ] at l1
    cases l1
    rw [hb] at l4
    exact ⟨rfl, (Option.some.inj l4).symm⟩
  refine ⟨.tuple #[], φ, A, rfl, ⟨hok.len, fun h hd' r p1 p2 p3 => ?_, fun h h' b' l1 l2 => ?_, fun h b' l1 => ?_, fun h hd' r b' p1 p2 p3 p4 => ?_, fun b' hb' => ?_⟩, ?_, fun b' hb' => Or.inl ⟨rfl, hb'⟩, fun h b' l1 => ?_, ⟨rfl, rfl, rfl, ?_, fun b' hb' hno => ?_⟩, fun _ _ h => h⟩
  · have hh : h < 1 := (List.getElem?_eq_some_iff.1 p2).1
    obtain rfl : h = 0 := by omega
    rw [hφ] at p1
    cases p1
    cases p2
    refine ⟨⟨q1, q2, q3⟩, ?_⟩
    rw [hb]
    refine ⟨_, hnew, by simpa [putCells] using c2, ?_, ?_⟩
    · show (gT.flat ys).length ≤ _
      rw [zr]
      have : (putCells id 0 (flatK xh 5 ys.toArray) c).size = c.size := by simp [putCells]
      rw [this, hlen]
      exact hfl ▸ c3
    · refine zv.2 fun i v hv => ?_
      have hi : i < ys.length * 5 := by
        have := (List.getElem?_eq_some_iff.1 hv).1
        rwa [show (gR ys).cells = gT.flat ys from rfl, zr] at this
      have e1 := ny ys i hi
      rw [show (gR ys).cells = gT.flat ys from rfl, e1] at hv
      cases hv
      refine ⟨_, ?_, by rw [Rel]⟩
      have hic : i < c.size := by rw [hlen] at hi; rw [hfl] at c3; omega
      simp only [putCells, Array.getElem?_mapIdx, Array.getElem?_eq_getElem hic, Option.map_some]
      rw [if_pos ⟨Nat.zero_le _, by simpa using hi⟩]
      simp
  · exact (hlive ys h b' l1).1.trans (hlive ys h' b' l2).1.symm
  · obtain ⟨rfl, rfl⟩ := hlive ys h b' l1
    exact hok.apart 0 _ hlv
  · have hh : h < 1 := (List.getElem?_eq_some_iff.1 p2).1
    obtain rfl : h = 0 := by omega
    cases p2
    cases p3
  · rw [hw]
    have := hok.low b' hb'
    simp
    omega
  · rw [Rel]
    exact ⟨#[], rfl, rfl, by rw [zZ]; trivial⟩
  · obtain ⟨rfl, rfl⟩ := hlive ys h b' l1
    exact Or.inr ⟨0, hlv⟩
  · rw [hw]
    simp
  · exact hoth b' hb' fun e => hno 0 (e ▸ hlv)
end Go.Proofs.Ytkcicbigpbdjpaa.Ab.Gq
namespace Go.Proofs.Ytkcicbigpbdjpaa.Ab.Gq
open Go.RowKit Go.Shelf Go.Lib Go.Sort
theorem mH : zi Go.Proofs.Try.prog 165 [.k (.int .u64 0)] [] (I 0) [] true := by
  intro A φ w xs hok hrel hsz
  obtain ⟨a0, h0, r0⟩ := zz hrel (i := 0) (c := .k (.int .u64 0)) rfl
  simp only [Rel] at r0
  subst r0
  have hargs : xs = #[.int .u64 0] := by
    apply Array.ext (by rw [hsz]; rfl)
    intro i hi hi2
    have h2 : i < 1 := by rw [hsz] at hi; exact hi
    obtain rfl : i = 0 := by omega
    exact (Array.getElem?_eq_some_iff.1 h0).2
  subst hargs
  have L := lk
  refine (Any.bits_Len (SlLaysF0.n15.bits (P := Go.Proofs.Try.prog) (ρ := wT) { L with }) 0 w (by omega) (by omega)).mono ?_
  rintro e w' ⟨rfl, rfl⟩
  exact ⟨_, φ, A, rfl, hok, by rw [Rel]; rfl, fun b hb => Or.inl ⟨rfl, hb⟩, fun h b hl => Or.inr ⟨h, hl⟩, ⟨rfl, rfl, rfl, Nat.le_refl _, fun _ _ _ => rfl⟩, fun _ _ h => h⟩
theorem nV {l : List V} {H : List Reg} {K : List Reg} (k : Nat) (ψ : List Nat) (hfix : ∀ i, i < k → ψ[i]? = some i) (hnd : ψ.Nodup) (hH : HLes ψ H ψ K) : (Exit.normal = .ret ∨ Exit.normal = .normal) ∧ Out true (.tup []) K (vb ⟨l, H, k⟩ []) ⟨l, H, k⟩ :=
  ⟨Or.inr rfl, vD (S := ⟨l, H, k⟩) ψ hfix (wl hnd hH) (nL zn) (Or.inl rfl)⟩
theorem kl {l : List V} {H : List Reg} {K : List Reg} (k : Nat) (ψ : List Nat) (hfix : ∀ i, i < k → ψ[i]? = some i) (hnd : ψ.Nodup) (hH : HLes ψ H ψ K) : (Exit.ret = .ret ∨ Exit.ret = .normal) ∧ Out true (.tup []) K (vb ⟨l, H, k⟩ []) ⟨l, H, k⟩ :=
  ⟨Or.inl rfl, vD (S := ⟨l, H, k⟩) ψ hfix (wl hnd hH) (nL zn) (Or.inl rfl)⟩
abbrev fnG : V := .k (.func (.func 146) #[] #[])
theorem mK : zi Go.Proofs.Try.prog 169 [.sl 0 0 0, I 0, I 0, fnG] [gR []] (.tup []) [gR []] true := by
  refine zj [] Go.Proofs.Try.func169 rfl rfl ?_
  simp only [Go.Proofs.Try.ntmps169, List.length_cons, List.length_nil, Nat.reduceAdd, Nat.reduceSub, List.replicate_succ, List.replicate_zero, List.cons_append, List.nil_append]
  repeat' first | refine zN ?_ | refine zA ?_ | refine zR [] ?_ | (refine isA ?_; refine zd rfl ?_) | (refine isL ?_; refine zV rfl (by kernel_rfl) rfl rfl ?_) | (refine zc rfl ?_; refine zU rfl (by kernel_rfl) rfl rfl ?_) | refine zC ?_ | refine zD _ rfl (by kernel_rfl) ?_ | refine zW rfl ?_ | refine zX rfl ?_ | refine zE ?_ | with_reducible refine zM ?_ | refine zJ ?_ | refine zK ?_ | (with_reducible first | refine zO ?_ | refine zP ?_ | refine zG ?_ | refine zI ?_ | refine zH ?_) | refine zQ ?_
  refine yV (α := Unit) (fun _ => ⟨[.any, .any, I 0, .any, .any, .any, .any, .any, I 1, .any, .any, .any, .any, .any, .any, .any, .any, .any, .any, .any, .any, .any, .any, .any, .any, .any, .any, .any, .any, .any, .any, .any, .any, .any, .any, .any, .any, .any, .any, .any, .any, .any, .any, .any, .any, .any, .any, .any, .any, .any, .any, .any, .any], [gR []], 1⟩) (fun _ => 0) () ?_ ?_
  · exact xW rfl (by repeat' first | exact EqS.nil | refine EqS.any ?_ | refine EqS.same rfl ?_)
  · rintro ⟨⟩
    repeat' first | refine zN ?_ | refine zA ?_ | refine zR [] ?_ | (refine isA ?_; refine zd rfl ?_) | (refine isL ?_; refine zV rfl (by kernel_rfl) rfl rfl ?_) | (refine zc rfl ?_; refine zU rfl (by kernel_rfl) rfl rfl ?_) | exact nV 1 [0] xm (by decide) (.cons rfl rfl rfl rfl (yC rfl) .nil) | refine zC ?_ | refine zD _ rfl (by kernel_rfl) ?_ | refine zW rfl ?_ | refine zX rfl ?_ | refine zE ?_ | with_reducible refine zM ?_ | refine zJ ?_ | refine zK ?_ | (with_reducible first | refine zO ?_ | refine zP ?_ | refine zG ?_ | refine zI ?_ | refine zH ?_) | refine zQ ?_
theorem mF : zi Go.Proofs.Try.prog 164 [.sl 0 0 0, I 0, I 0, I 0, fnG] [gR []] (.tup []) [gR []] true := by
  refine zj [] Go.Proofs.Try.func164 rfl rfl ?_
  simp only [Go.Proofs.Try.ntmps164, List.length_cons, List.length_nil, Nat.reduceAdd, Nat.reduceSub, List.replicate_succ, List.replicate_zero, List.cons_append, List.nil_append]
  repeat' first | refine zN ?_ | refine zA ?_ | refine zR [] ?_ | (refine isA ?_; refine zd rfl ?_) | (refine isL ?_; refine zV rfl (by kernel_rfl) rfl rfl ?_) | (refine zc rfl ?_; refine zU rfl (by kernel_rfl) rfl rfl ?_) | refine zC ?_ | refine zD _ rfl (by kernel_rfl) ?_ | refine zW rfl ?_ | refine zX rfl ?_ | refine zE ?_ | with_reducible refine zM ?_ | refine zJ ?_ | refine zK ?_ | (with_reducible first | refine zO ?_ | refine zP ?_ | refine zG ?_ | refine zI ?_ | refine zH ?_) | refine zQ ?_
  refine yV (α := Unit) (fun _ => ⟨((.sl 0 0 0) :: (I 0) :: (I 0) :: .any :: fnG :: .any :: .any :: .any :: .any :: .any :: .any :: .any :: .any :: .any :: .any :: .any :: .any :: .any :: .any :: .any :: .any :: .any :: .any :: .any :: .any :: .any :: .any :: .any :: .any :: .any :: .any :: .any :: .any :: .any :: .any :: .any :: .any :: .any :: .any :: .any :: .any :: .any :: .any :: .any :: .any :: .any :: .any :: .any :: .any :: .any :: .any :: .any :: .any :: .any :: .any :: .any :: .any :: .any :: .any :: .any :: .any :: .any :: .any :: .any :: .any :: .any :: .any :: .any :: .any :: .any :: .any :: .any :: .any :: .any :: .any :: .any :: .any :: .any :: .any :: .any :: .any :: .any :: .any :: .any :: .any :: .any :: .any :: .any :: .any :: .any :: .any :: .any :: .any :: .any :: .any :: .any :: .any :: .any :: .any :: .any :: .any :: .any :: .any :: .any :: .any :: .any :: .any :: .any :: .any :: .any :: .any :: .any :: .any :: .any :: .any :: .any :: .any :: .any :: .any :: .any :: .any :: .any :: .any :: .any :: .any :: .any :: .any :: .any :: .any :: .any :: .any :: .any :: .any :: .any :: .any :: .any :: .any :: .any :: .any :: .any :: .any :: .any :: .any :: .any :: .any :: .any :: .any :: .any :: []), [gR []], 1⟩) (fun _ => 0) () ?_ ?_
  · exact xW rfl (by repeat' first | exact EqS.nil | refine EqS.any ?_ | refine EqS.same rfl ?_)
  · rintro ⟨⟩
    repeat' first | refine zN ?_ | refine zA ?_ | refine zR [] ?_ | (refine isA ?_; refine zd rfl ?_) | (refine isL ?_; refine zV rfl (by kernel_rfl) rfl rfl ?_) | (refine zc rfl ?_; refine zU rfl (by kernel_rfl) rfl rfl ?_) | (refine zo 169 ?_; refine zb rfl (zS (K := []) (Rs' := [_]) [0] (by decide) rfl mK (.cons rfl rfl rfl (zg _ _) (zg _ _) .nil) (.cons (.sl rfl) (.cons (.same rfl) (.cons (.same rfl) (.cons (.same rfl) .nil)))) (fun q hq => by cases hq) rfl) rfl ?_) | (refine zp 169 rfl ?_; refine zY rfl (by kernel_rfl) rfl (zS (K := []) (Rs' := [_]) [0] (by decide) rfl mK (.cons rfl rfl rfl (zg _ _) (zg _ _) .nil) (.cons (.sl rfl) (.cons (.same rfl) (.cons (.same rfl) (.cons (.same rfl) .nil)))) (fun q hq => by cases hq) rfl) rfl ?_) | exact kl 1 [0] xm (by decide) (.cons rfl rfl rfl rfl (yC rfl) .nil) | refine zC ?_ | refine zD _ rfl (by kernel_rfl) ?_ | refine zW rfl ?_ | refine zX rfl ?_ | refine zE ?_ | with_reducible refine zM ?_ | refine zJ ?_ | refine zK ?_ | (with_reducible first | refine zO ?_ | refine zP ?_ | refine zG ?_ | refine zI ?_ | refine zH ?_) | refine zQ ?_
theorem lB : zi Go.Proofs.Try.prog 145 [.sl 0 0 0, fnG] [gR []] (.tup []) [gR []] true := by
  refine zj [] Go.Proofs.Try.func145 rfl rfl ?_
  simp only [Go.Proofs.Try.ntmps145, List.length_cons, List.length_nil, Nat.reduceAdd, Nat.reduceSub, List.replicate_succ, List.replicate_zero, List.cons_append, List.nil_append]
  repeat' first | refine zN ?_ | refine zA ?_ | refine zR [] ?_ | (refine isA ?_; refine zd rfl ?_) | (refine isL ?_; refine zV rfl (by kernel_rfl) rfl rfl ?_) | (refine zc rfl ?_; refine zU rfl (by kernel_rfl) rfl rfl ?_) | (refine zo 165 ?_; refine zb rfl (zT rfl mH (.cons (.same rfl) .nil) rfl) rfl ?_) | (refine zp 165 rfl ?_; refine zY rfl (by kernel_rfl) rfl (zT rfl mH (.cons (.same rfl) .nil) rfl) rfl ?_) | (refine zo 164 ?_; refine zb rfl (zS (K := []) (Rs' := [_]) [0] (by decide) rfl mF (.cons rfl rfl rfl (zg _ _) (zg _ _) .nil) (.cons (.sl rfl) (.cons (.same rfl) (.cons (.same rfl) (.cons (.same rfl) (.cons (.same rfl) .nil))))) (fun q hq => by cases hq) rfl) rfl ?_) | (refine zp 164 rfl ?_; refine zY rfl (by kernel_rfl) rfl (zS (K := []) (Rs' := [_]) [0] (by decide) rfl mF (.cons rfl rfl rfl (zg _ _) (zg _ _) .nil) (.cons (.sl rfl) (.cons (.same rfl) (.cons (.same rfl) (.cons (.same rfl) (.cons (.same rfl) .nil))))) (fun q hq => by cases hq) rfl) rfl ?_) | exact nV 1 [0] xm (by decide) (.cons rfl rfl rfl rfl (yC rfl) .nil) | refine zC ?_ | refine zD _ rfl (by kernel_rfl) ?_ | refine zW rfl ?_ | refine zX rfl ?_ | refine zE ?_ | with_reducible refine zM ?_ | refine zJ ?_ | refine zK ?_ | (with_reducible first | refine zO ?_ | refine zP ?_ | refine zG ?_ | refine zI ?_ | refine zH ?_) | refine zQ ?_
theorem lA (xs : List Gr) (hl : xs.length ≤ 100000000) : zi Go.Proofs.Try.prog 145 [.sl 0 0 xs.length, fnG] [gR xs] (.tup []) [gR (xx xs)] true := by
  by_cases h : xs = []
  · subst h
    have : xx [] = [] := List.eq_nil_of_length_eq_zero (vd [])
    rw [this]
    exact lB
  · exact m9 xs hl h
def ux (gs : List Gr) : List Gr := xx (wO gs)
theorem uK (gs : List Gr) (hl : gs.length ≤ 100000000) : zi Go.Proofs.Try.prog 82 [gL gs] [] (.sl 0 0 (ux gs).length) [gR (ux gs)] false := pG xx gs hl (fun out h => lA out h) vd
end Go.Proofs.Ytkcicbigpbdjpaa.Ab.Gq
namespace Go.Proofs.Ytkcicbigpbdjpaa.Ab.Gq
open Go.RowKit
def yU (g : Gr) : List Gr → List Gr
  | [] => [g]
  | x :: xs => if x.k < g.k then x :: yU g xs else if x.k = g.k then z6 x g :: xs else g :: x :: xs
def Asc (xs : List Gr) : Prop := xs.Pairwise fun x y => x.k < y.k
def y3 (xs : List Gr) (g : Gr) : List Gr := if xs.any (isK g.k) then [] else [g]
theorem tE {x g : Gr} (h : x.k ≠ g.k) : z6 x g = x := by simp [z6, h]
theorem uy {g : Gr} : ∀ {xs : List Gr}, (∀ x ∈ xs, x.k ≠ g.k) → xs.map (z6 · g) = xs
  | [], _ => rfl
  | x :: xs, h => by rw [List.map_cons, tE (h x (List.mem_cons_self ..)), uy fun y hy => h y (List.mem_cons_of_mem _ hy)]
theorem ky {g : Gr} {xs : List Gr} (h : ∀ x ∈ xs, x.k ≠ g.k) : xs.any (isK g.k) = false := by
  rw [List.any_eq_false]
  intro x hx
  simp [isK, h x hx]
theorem sx {g : Gr} : ∀ {xs : List Gr} {z : Gr}, z ∈ yU g xs → z.k = g.k ∨ z ∈ xs
  | [], z, h => by simp [yU] at h; exact Or.inl (by rw [h])
  | x :: xs, z, h => by
    unfold yU at h
    split at h
    · rcases List.mem_cons.1 h with rfl | h
      · exact Or.inr (List.mem_cons_self ..)
      · rcases sx h with h | h
        · exact Or.inl h
        · exact Or.inr (List.mem_cons_of_mem _ h)
    · split at h
      · rename_i e
        rcases List.mem_cons.1 h with rfl | h
        · exact Or.inl (by rw [wm]; exact e)
        · exact Or.inr (List.mem_cons_of_mem _ h)
      · rcases List.mem_cons.1 h with rfl | h
        · exact Or.inl rfl
        · exact Or.inr h
theorem u5 {g : Gr} : ∀ {xs : List Gr}, Asc xs → Asc (yU g xs)
  | [], _ => by simp [yU, Asc]
  | x :: xs, h => by
    obtain ⟨h1, h2⟩ := List.pairwise_cons.1 h
    unfold yU
    split
    · rename_i hlt
      refine List.pairwise_cons.2 ⟨fun z hz => ?_, u5 h2⟩
      rcases sx hz with e | hz
      · rw [e]; exact hlt
      · exact h1 z hz
    · split
      · exact List.pairwise_cons.2 ⟨fun z hz => by rw [wm]; exact h1 z hz, h2⟩
      · refine List.pairwise_cons.2 ⟨fun z hz => ?_, h⟩
        rcases List.mem_cons.1 hz with rfl | hz
        · omega
        · have := h1 z hz; omega
theorem yq {g : Gr} : ∀ {xs : List Gr}, Asc xs → (yU g xs).Perm (xs.map (z6 · g) ++ y3 xs g)
  | [], _ => by simp [yU, y3]
  | x :: xs, h => by
    obtain ⟨h1, h2⟩ := List.pairwise_cons.1 h
    unfold yU
    split
    · rename_i hlt
      have hk : isK g.k x = false := by simp [isK]; omega
      have ht : y3 (x :: xs) g = y3 xs g := by simp [y3, hk]
      rw [ht, List.map_cons, tE (show x.k ≠ g.k by omega), List.cons_append]
      exact (yq h2).cons x
    · split
      · rename_i e
        have hk : isK g.k x = true := by simp [isK, e]
        have ht : y3 (x :: xs) g = [] := by simp [y3, hk]
        rw [ht, List.append_nil, List.map_cons, uy fun z hz => by have := h1 z hz; omega]
      · rename_i n1 n2
        have hne : ∀ z ∈ x :: xs, z.k ≠ g.k := fun z hz => by
          rcases List.mem_cons.1 hz with rfl | hz
          · exact n2
          · have := h1 z hz; omega
        have ht : y3 (x :: xs) g = [g] := by rw [y3, ky hne]; rfl
        rw [ht, uy hne]
        exact List.perm_append_comm (l₁ := [g])
theorem nA (x g : Gr) (xs : List Gr) : vC (x :: xs) g = if x.k = g.k then z6 x g :: xs else x :: vC xs g := by
  unfold vC
  rw [List.findIdx?_cons]
  by_cases h : x.k = g.k
  · simp [isK, h]
  · have hk : isK g.k x = false := by simp [isK, h]
    rw [hk, if_neg h]
    cases hj : xs.findIdx? (isK g.k) with
    | none => simp
    | some j =>
      obtain ⟨hjl, _, _⟩ := List.findIdx?_eq_some_iff_getElem.1 hj
      simp [hjl]
theorem pz {g : Gr} : ∀ {xs : List Gr}, (xs.map (·.k)).Nodup → vC xs g = xs.map (z6 · g) ++ y3 xs g
  | [], _ => rfl
  | x :: xs, h => by
    rw [List.map_cons, List.nodup_cons] at h
    rw [nA]
    split
    · rename_i e
      have hk : isK g.k x = true := by simp [isK, e]
      have ht : y3 (x :: xs) g = [] := by simp [y3, hk]
      rw [ht, List.append_nil, List.map_cons, uy fun z hz e2 => h.1 (List.mem_map.2 ⟨z, hz, e2.trans e.symm⟩)]
    · rename_i e
      have hk : isK g.k x = false := by simp [isK, e]
      have ht : y3 (x :: xs) g = y3 xs g := by simp [y3, hk]
      rw [ht, List.map_cons, tE e, pz h.2]
      rfl
theorem ug {xs : List Gr} (h : Asc xs) : (xs.map (·.k)).Nodup := by
  rw [List.Nodup, List.pairwise_map]
  exact h.imp fun h => by omega
theorem qf {xs ys : List Gr} (g : Gr) (h : xs.Perm ys) : y3 xs g = y3 ys g := by
  unfold y3
  rw [h.any_eq]
def yD (gs : List Gr) : List Gr := gs.foldl (fun o g => yU g o) []
theorem xz : ∀ (gs a b : List Gr), Asc b → a.Perm b → Asc (gs.foldl (fun o g => yU g o) b) ∧ (gs.foldl vC a).Perm (gs.foldl (fun o g => yU g o) b)
  | [], a, b, h, hp => ⟨h, hp⟩
  | g :: gs, a, b, h, hp => by
    rw [List.foldl_cons, List.foldl_cons]
    refine xz gs _ _ (u5 h) ?_
    have hn : (a.map (·.k)).Nodup := (hp.map _).nodup_iff.2 (ug h)
    rw [pz hn, qf g hp]
    exact ((hp.map _).append_right _).trans (yq h).symm
theorem sX {xs ys : List Gr} (hx : Asc xs) (hy : Asc ys) (hp : xs.Perm ys) : xs = ys :=
  hp.eq_of_pairwise (fun a b _ _ h1 h2 => absurd h1 (by omega)) hx hy
theorem kb {xs : List Gr} (hn : (xs.map (·.k)).Nodup) : (xx xs).Perm xs ∧ Asc (xx xs) := by
  obtain ⟨⟨p1, p2, p3⟩, hs⟩ := pr xs
  have hp : (xx xs).Perm xs := by
    have e1 : (vx xs).extract 0 xs.toArray.size = vx xs := by rw [← p1]; simp
    have e2 : xs.toArray.extract 0 xs.toArray.size = xs.toArray := by simp
    rw [e1, e2] at p3
    exact p3
  refine ⟨hp, ?_⟩
  have hle : (xx xs).Pairwise fun x y => x.k ≤ y.k := by
    rw [List.pairwise_iff_getElem]
    intro i j hi hj hij
    have hl := vd xs
    have h := hs i j (Nat.zero_le _) hij (by simp; omega)
    rw [ss] at h
    have g1 : (vx xs)[i]! = (xx xs)[i] := by
      rw [getElem!_pos (vx xs) i (by rw [xx, Array.length_toList] at hi; exact hi)]; rfl
    have g2 : (vx xs)[j]! = (xx xs)[j] := by
      rw [getElem!_pos (vx xs) j (by rw [xx, Array.length_toList] at hj; exact hj)]; rfl
    rw [g1, g2] at h
    simpa using h
  have hn2 : ((xx xs).map (·.k)).Nodup := (hp.map _).nodup_iff.2 hn
  rw [List.Nodup, List.pairwise_map] at hn2
  exact (hle.and hn2).imp fun ⟨h1, h2⟩ => by omega
theorem xR (gs : List Gr) : ux gs = yD gs := by
  obtain ⟨h1, h2⟩ := xz gs [] [] List.Pairwise.nil (.refl _)
  obtain ⟨h3, h4⟩ := kb (xs := wO gs) ((h2.map _).nodup_iff.2 (ug h1))
  exact sX h4 h1 (h3.trans h2)
theorem sr (gs : List Gr) : Asc (ux gs) := by rw [xR]; exact (xz gs [] [] List.Pairwise.nil (.refl _)).1
end Go.Proofs.Ytkcicbigpbdjpaa.Ab.Gq
namespace Go.Proofs.Ytkcicbigpbdjpaa.Ab.Gq
open Go.RowKit
theorem ve {H : List Reg} {h k off m : Nat} {xs : List Gr} (hH : H[h]? = some (gR xs)) (hk : k ≤ xs.length) (ho : off = k) (hm : m = xs.length - k) : Src H (.sl h off m) (xs.drop k).length (gT.flat (xs.drop k)) := by
  subst ho hm
  rw [List.length_drop]
  refine pu hH rfl (Nat.ble_eq_true_of_le (by
    show (off + (xs.length - off)) * 5 ≤ (gT.flat xs).length
    rw [zr]
    show _ ≤ xs.length * 5
    omega)) (vN xs off)
theorem xQ {H : List Reg} {h k off m : Nat} {xs : List Gr} (hH : H[h]? = some (gR xs)) (hk : k ≤ xs.length) (ho : off = 0) (hm : m = k) : Src H (.sl h off m) (xs.take k).length (gT.flat (xs.take k)) := by
  subst ho hm
  rw [show (xs.take m).length = m by simp; omega]
  refine pu hH rfl (Nat.ble_eq_true_of_le (by
    show (0 + m) * 5 ≤ (gT.flat xs).length
    rw [zr]
    show _ ≤ xs.length * 5
    omega)) (by
    have := w8 xs m
    rw [Nat.sub_zero] at this
    exact this)
theorem wS {H : List Reg} {h : Nat} {xs : List Gr} (hH : H[h]? = some (gR xs)) : Src H (.sl h 0 xs.length) xs.length (gT.flat xs) := by
  have := xQ hH (Nat.le_refl xs.length) rfl rfl
  rwa [List.take_length] at this
theorem u4 : ∀ {out : List Gr} {g : Gr} {k : Nat}, k ≤ out.length → (∀ j z, j < k → out[j]? = some z → z.k < g.k) → (∀ y, out[k]? = some y → g.k < y.k) → out.take k ++ g :: out.drop k = yU g out
  | [], g, k, hk, _, _ => by
    obtain rfl : k = 0 := by simpa using hk
    rfl
  | x :: xs, g, 0, hk, _, h => by
    have := h x rfl
    rw [yU, if_neg (by omega), if_neg (by omega)]
    rfl
  | x :: xs, g, k + 1, hk, h1, h2 => by
    have := h1 0 x (Nat.succ_pos _) rfl
    rw [yU, if_pos this, ← u4 (out := xs) (g := g) (k := k) (by simpa using hk) (fun j z hj hz => h1 (j + 1) z (by omega) hz) (fun y hy => h2 y hy)]
    rfl
theorem s6 : ∀ {out : List Gr} {g y : Gr} {k : Nat}, (∀ j z, j < k → out[j]? = some z → z.k < g.k) → out[k]? = some y → y.k = g.k → out.set k (z6 y g) = yU g out
  | [], g, y, k, _, h, _ => by simp at h
  | x :: xs, g, y, 0, _, h, e => by
    simp only [List.getElem?_cons_zero, Option.some.injEq] at h
    subst h
    rw [yU, if_neg (by omega), if_pos e]
    rfl
  | x :: xs, g, y, k + 1, h1, h, e => by
    have := h1 0 x (Nat.succ_pos _) rfl
    rw [yU, if_pos this, ← s6 (out := xs) (g := g) (k := k) (fun j z hj hz => h1 (j + 1) z (by omega) hz) (by simpa using h) e]
    rfl
theorem tj {gs : List Gr} {i : Nat} {z : Gr} (hz : gs[i]? = some z) : yD (gs.take (i + 1)) = yU z (yD (gs.take i)) := by
  rw [List.take_add_one, hz, yD, List.foldl_append]; rfl
theorem sy (g : Gr) : ∀ xs : List Gr, (yU g xs).length ≤ xs.length + 1
  | [] => Nat.le_refl _
  | x :: xs => by
    have := sy g xs
    unfold yU
    split
    · simp only [List.length_cons]; omega
    · split <;> simp
theorem ti : ∀ gs o : List Gr, (gs.foldl (fun o g => yU g o) o).length ≤ o.length + gs.length
  | [], o => Nat.le_refl _
  | g :: gs, o => by
    have h1 := sy g o
    have h2 := ti gs (yU g o)
    rw [List.foldl_cons, List.length_cons]
    omega
theorem v7 (gs : List Gr) : (yD gs).length ≤ gs.length := by
  have := ti gs []
  simpa [yD] using this
theorem tx (gs : List Gr) (hl : gs.length ≤ 100000000) : zi Go.Proofs.Try.prog 80 [gL gs] [] (.sl 0 0 (yD gs).length) [gR (yD gs)] false := by
  refine zj [2] Go.Proofs.Try.func80 rfl rfl ?_
  simp only [Go.Proofs.Try.ntmps80, List.length_cons, List.length_nil, Nat.reduceAdd, Nat.reduceSub, List.replicate_succ, List.replicate_zero, List.cons_append, List.nil_append]
  repeat' first | refine zN ?_ | refine zA ?_ | refine zR [] ?_ | (refine isA ?_; refine zd rfl ?_) | (refine isL ?_; refine zV rfl (by kernel_rfl) rfl rfl ?_) | (refine zc rfl ?_; refine zU rfl (by kernel_rfl) rfl rfl ?_) | refine zC ?_ | refine zD _ rfl (by kernel_rfl) ?_ | refine zW rfl ?_ | refine zX rfl ?_ | refine zE ?_ | with_reducible refine zM ?_ | refine zJ ?_ | refine zK ?_ | (with_reducible first | refine zO ?_ | refine zP ?_ | refine zG ?_ | refine zI ?_ | refine zH ?_) | refine zQ ?_
  refine yV (α := { i : Nat // i ≤ gs.length }) (fun i => ⟨((gL gs) :: .any :: .any :: (.sl 0 0 (yD (gs.take i.1)).length) :: (I i.1) :: .any :: .any :: .any :: .any :: .any :: .any :: .any :: .any :: .any :: .any :: .any :: .any :: .any :: .any :: .any :: .any :: .any :: .any :: .any :: .any :: .any :: .any :: .any :: .any :: .any :: .any :: .any :: .any :: .any :: .any :: .any :: .any :: .any :: .any :: .any :: .any :: .any :: .any :: .any :: .any :: .any :: .any :: .any :: .any :: .any :: .any :: .any :: .any :: .any :: .any :: .any :: .any :: .any :: .any :: .any :: .any :: .any :: .any :: .any :: .any :: .any :: .any :: .any :: .any :: .any :: .any :: .any :: .any :: .any :: .any :: .any :: .any :: .any :: .any :: []), [gR (yD (gs.take i.1))], 0⟩) (fun i => gs.length - i.1) ⟨0, Nat.zero_le _⟩ ?_ ?_
  · exact xX [0] rfl rfl (by decide) (.cons rfl rfl rfl rfl (zf (zg _ _)) .nil) (by repeat' first | exact zn | refine zk ?_ ?_ | exact zy | exact le_refl rfl | exact z8 rfl rfl | exact yB rfl)
  · rintro ⟨i, hi⟩
    repeat' first | refine zN ?_ | refine zA ?_ | refine zR [] ?_ | (refine isA ?_; refine zd rfl ?_) | (refine isL ?_; refine zV rfl (by kernel_rfl) rfl rfl ?_) | (refine zc rfl ?_; refine zU rfl (by kernel_rfl) rfl rfl ?_) | refine zC ?_ | refine zD _ rfl (by kernel_rfl) ?_ | refine zW rfl ?_ | refine zX rfl ?_ | refine zE ?_ | with_reducible refine zM ?_ | refine zJ ?_ | refine zK ?_ | (with_reducible first | refine zO ?_ | refine zP ?_ | refine zG ?_ | refine zI ?_ | refine zH ?_) | refine zQ ?_
    refine zm rfl (fun h => ?_) (fun h => ?_)
    · have hlt : i < gs.length := by simpa using h
      obtain ⟨x, hx⟩ : ∃ z, gs[i]? = some z := ⟨_, List.getElem?_eq_getElem hlt⟩
      have e1 : yD (gs.take (i + 1)) = yU x (yD (gs.take i)) := tj hx
      have hol : (yD (gs.take i)).length ≤ i := by
        have := v7 (gs.take i)
        rw [List.length_take] at this
        omega
      generalize yD (gs.take i) = out at e1 hol
      repeat' first | refine zN ?_ | refine zA ?_ | refine zR [] ?_ | (refine isA ?_; refine zd rfl ?_) | (refine isL ?_; refine zV rfl (by kernel_rfl) rfl rfl ?_) | (refine zc rfl ?_; refine zU rfl (by kernel_rfl) rfl rfl ?_) | refine zC ?_ | refine zD _ rfl (by kernel_rfl) ?_ | refine zW rfl ?_ | refine zX rfl ?_ | refine zE ?_ | with_reducible refine zM ?_ | refine zJ ?_ | refine zK ?_ | (with_reducible first | refine zO ?_ | refine zP ?_ | refine zG ?_ | refine zI ?_ | refine zH ?_) | refine zQ ?_
      refine yV (α := { k : Nat // k ≤ out.length ∧ ∀ j z, j < k → out[j]? = some z → z.k < x.k }) (fun k => ⟨((gL gs) :: .any :: .any :: (.sl 0 0 out.length) :: (I i) :: (I k.1) :: .any :: .any :: .any :: .any :: .any :: .any :: .any :: .any :: .any :: .any :: .any :: .any :: .any :: .any :: .any :: .any :: .any :: .any :: .any :: .any :: .any :: .any :: .any :: .any :: .any :: .any :: .any :: .any :: .any :: .any :: .any :: .any :: .any :: .any :: .any :: .any :: .any :: .any :: .any :: .any :: .any :: .any :: .any :: .any :: .any :: .any :: .any :: .any :: .any :: .any :: .any :: .any :: .any :: .any :: .any :: .any :: .any :: .any :: .any :: .any :: .any :: .any :: .any :: .any :: .any :: .any :: .any :: .any :: .any :: .any :: .any :: .any :: .any :: []), [gR out], 0⟩) (fun k => out.length - k.1) ⟨0, Nat.zero_le _, fun j z hj hz => absurd hj (Nat.not_lt_zero _)⟩ ?_ ?_
      · exact xX [0] rfl rfl (by decide) (.cons rfl rfl rfl rfl (zf (zg _ _)) .nil) (by repeat' first | exact zn | refine zk ?_ ?_ | exact zy | exact le_refl rfl | exact z8 rfl rfl | exact yB rfl)
      · rintro ⟨k, hk, hB⟩
        repeat' first | refine zN ?_ | refine zA ?_ | refine zR [] ?_ | (refine isA ?_; refine zd rfl ?_) | (refine isL ?_; refine zV rfl (by kernel_rfl) rfl rfl ?_) | (refine zc rfl ?_; refine zU rfl (by kernel_rfl) rfl rfl ?_) | refine zC ?_ | refine zD _ rfl (by kernel_rfl) ?_ | refine zW rfl ?_ | refine zX rfl ?_ | refine zE ?_ | with_reducible refine zM ?_ | refine zJ ?_ | refine zK ?_ | (with_reducible first | refine zO ?_ | refine zP ?_ | refine zG ?_ | refine zI ?_ | refine zH ?_) | refine zQ ?_
        refine xa rfl rfl rfl rfl (fun p1 => ?_) (fun p1 => ?_)
        · have q1 : k < out.length := by simpa using p1
          obtain ⟨y, hy⟩ : ∃ z, out[k]? = some z := ⟨_, List.getElem?_eq_getElem q1⟩
          repeat' first | refine zN ?_ | refine zA ?_ | refine zR [] ?_ | (refine isA ?_; refine zd rfl ?_) | (refine isL ?_; refine zV rfl (by kernel_rfl) rfl rfl ?_) | (refine zc rfl ?_; refine zU rfl (by kernel_rfl) rfl rfl ?_) | (refine xH (x := .tmp 24) ?_; refine zb rfl (yR (t := gT) (z := x) rfl rfl rfl rfl (Int.natCast_nonneg i) hx) rfl ?_) | (refine xG (x := .tmp 24) rfl ?_; refine zY rfl (by kernel_rfl) rfl (yR (t := gT) (z := x) rfl rfl rfl rfl (Int.natCast_nonneg i) hx) rfl ?_) | (refine xH (x := .tmp 19) ?_; refine zb rfl (tk (t := gT) (xs := out) (j := (k : Int)) rfl rfl rfl rfl rfl (Int.natCast_nonneg _) (by omega)) rfl ?_) | (refine xG (x := .tmp 19) rfl ?_; refine zY rfl (by kernel_rfl) rfl (tk (t := gT) (xs := out) (j := (k : Int)) rfl rfl rfl rfl rfl (Int.natCast_nonneg _) (by omega)) rfl ?_) | (refine nN (x := .tmp 22) ?_; refine zb rfl (mt (T := gT) (i := k) (off := 0) (xs := out) (z := y) (v := I y.k) rfl rfl rfl hy rfl) rfl ?_) | (refine mv (x := .tmp 22) rfl ?_; refine zY rfl (by kernel_rfl) rfl (mt (T := gT) (i := k) (off := 0) (xs := out) (z := y) (v := I y.k) rfl rfl rfl hy rfl) rfl ?_) | refine zC ?_ | refine zD _ rfl (by kernel_rfl) ?_ | refine zW rfl ?_ | refine zX rfl ?_ | refine zE ?_ | with_reducible refine zM ?_ | refine zJ ?_ | refine zK ?_ | (with_reducible first | refine zO ?_ | refine zP ?_ | refine zG ?_ | refine zI ?_ | refine zH ?_) | refine zQ ?_
          refine zm rfl (fun p2 => ?_) (fun p2 => ?_)
          · have q2 := of_decide_eq_true p2
            repeat' first | refine zN ?_ | refine zA ?_ | refine zR [] ?_ | (refine isA ?_; refine zd rfl ?_) | (refine isL ?_; refine zV rfl (by kernel_rfl) rfl rfl ?_) | (refine zc rfl ?_; refine zU rfl (by kernel_rfl) rfl rfl ?_) | refine zC ?_ | refine zD _ rfl (by kernel_rfl) ?_ | refine zW rfl ?_ | refine zX rfl ?_ | refine zE ?_ | with_reducible refine zM ?_ | refine zJ ?_ | refine zK ?_ | (with_reducible first | refine zO ?_ | refine zP ?_ | refine zG ?_ | refine zI ?_ | refine zH ?_) | refine zQ ?_
            refine ⟨⟨k + 1, q1, fun j z hj hz => ?_⟩, by simp only; omega, ?_⟩
            · rcases Nat.lt_or_ge j k with hjk | hjk
              · exact hB j z hjk hz
              · obtain rfl : j = k := by omega
                rw [hy] at hz
                cases hz
                exact q2
            · exact xX [0] rfl rfl (by decide) (.cons rfl rfl rfl rfl (zf (zg _ _)) .nil) (by
                repeat' first | exact zn | refine zk ?_ ?_ | exact zy | exact le_refl rfl | exact z8 rfl rfl | exact wL (by omega) (by omega))
          · have q2 := of_decide_eq_false p2
            repeat' first | refine zN ?_ | refine zA ?_ | refine zR [] ?_ | (refine isA ?_; refine zd rfl ?_) | (refine isL ?_; refine zV rfl (by kernel_rfl) rfl rfl ?_) | (refine zc rfl ?_; refine zU rfl (by kernel_rfl) rfl rfl ?_) | refine zC ?_ | refine zD _ rfl (by kernel_rfl) ?_ | refine zW rfl ?_ | refine zX rfl ?_ | refine zE ?_ | with_reducible refine zM ?_ | refine zJ ?_ | refine zK ?_ | (with_reducible first | refine zO ?_ | refine zP ?_ | refine zG ?_ | refine zI ?_ | refine zH ?_) | refine zQ ?_
            refine xa rfl rfl rfl rfl (fun p3 => ?_) (fun p3 => absurd q1 (by simpa using p3))
            repeat' first | refine zN ?_ | refine zA ?_ | refine zR [] ?_ | (refine isA ?_; refine zd rfl ?_) | (refine isL ?_; refine zV rfl (by kernel_rfl) rfl rfl ?_) | (refine zc rfl ?_; refine zU rfl (by kernel_rfl) rfl rfl ?_) | (refine xH (x := .tmp 43) ?_; refine zb rfl (yR (t := gT) (z := x) rfl rfl rfl rfl (Int.natCast_nonneg i) hx) rfl ?_) | (refine xG (x := .tmp 43) rfl ?_; refine zY rfl (by kernel_rfl) rfl (yR (t := gT) (z := x) rfl rfl rfl rfl (Int.natCast_nonneg i) hx) rfl ?_) | (refine xH (x := .tmp 38) ?_; refine zb rfl (tk (t := gT) (xs := out) (j := (k : Int)) rfl rfl rfl rfl rfl (Int.natCast_nonneg _) (by omega)) rfl ?_) | (refine xG (x := .tmp 38) rfl ?_; refine zY rfl (by kernel_rfl) rfl (tk (t := gT) (xs := out) (j := (k : Int)) rfl rfl rfl rfl rfl (Int.natCast_nonneg _) (by omega)) rfl ?_) | (refine nN (x := .tmp 41) ?_; refine zb rfl (mt (T := gT) (i := k) (off := 0) (xs := out) (z := y) (v := I y.k) rfl rfl rfl hy rfl) rfl ?_) | (refine mv (x := .tmp 41) rfl ?_; refine zY rfl (by kernel_rfl) rfl (mt (T := gT) (i := k) (off := 0) (xs := out) (z := y) (v := I y.k) rfl rfl rfl hy rfl) rfl ?_) | refine zC ?_ | refine zD _ rfl (by kernel_rfl) ?_ | refine zW rfl ?_ | refine zX rfl ?_ | refine zE ?_ | with_reducible refine zM ?_ | refine zJ ?_ | refine zK ?_ | (with_reducible first | refine zO ?_ | refine zP ?_ | refine zG ?_ | refine zI ?_ | refine zH ?_) | refine zQ ?_
            refine zm rfl (fun p4 => ?_) (fun p4 => ?_)
            · have q4 : y.k = x.k := of_decide_eq_true p4
              have hfin := s6 hB hy q4
              rw [← hfin] at e1
              repeat' first | (refine isLs rfl ?_; refine kI rfl (by kernel_rfl) rfl (ln (T := gT) (i := k) (xs := out) (z := z6 y x) rfl rfl rfl rfl rfl q1) rfl ?_) | refine zN ?_ | refine zA ?_ | refine zR [12] ?_ | (refine isA ?_; refine zd rfl ?_) | (refine isL ?_; refine zV rfl (by kernel_rfl) rfl rfl ?_) | (refine zc rfl ?_; refine zU rfl (by kernel_rfl) rfl rfl ?_) | (refine xH (x := .tmp 56) ?_; refine zb rfl (yR (t := gT) (z := x) rfl rfl rfl rfl (Int.natCast_nonneg i) hx) rfl ?_) | (refine xG (x := .tmp 56) rfl ?_; refine zY rfl (by kernel_rfl) rfl (yR (t := gT) (z := x) rfl rfl rfl rfl (Int.natCast_nonneg i) hx) rfl ?_) | (refine xH ?_; refine zb rfl (tk (t := gT) (xs := out) (j := (k : Int)) rfl rfl rfl rfl rfl (Int.natCast_nonneg _) (by omega)) rfl ?_) | (refine xG rfl ?_; refine zY rfl (by kernel_rfl) rfl (tk (t := gT) (xs := out) (j := (k : Int)) rfl rfl rfl rfl rfl (Int.natCast_nonneg _) (by omega)) rfl ?_) | (refine nN (x := .tmp 54) ?_; refine zb rfl (mu (T := gT) (xs := out) (i := k) (z := y) rfl rfl rfl hy) rfl ?_) | (refine mv (x := .tmp 54) rfl ?_; refine zY rfl (by kernel_rfl) rfl (mu (T := gT) (xs := out) (i := k) (z := y) rfl rfl rfl hy) rfl ?_) | (refine zo 100 ?_; refine zb rfl (zT rfl (w5 y x) (.cons (.same rfl) (.cons (.same rfl) .nil)) rfl) rfl ?_) | (refine zp 100 rfl ?_; refine zY rfl (by kernel_rfl) rfl (zT rfl (w5 y x) (.cons (.same rfl) (.cons (.same rfl) .nil)) rfl) rfl ?_) | refine zC ?_ | refine zD _ rfl (by kernel_rfl) ?_ | refine zW rfl ?_ | refine zX rfl ?_ | refine zE ?_ | with_reducible refine zM ?_ | refine zJ ?_ | refine zK ?_ | (with_reducible first | refine zO ?_ | refine zP ?_ | refine zG ?_ | refine zI ?_ | refine zH ?_) | refine zQ ?_
              refine ⟨⟨i + 1, hlt⟩, by simp only; omega, ?_⟩
              simp only [e1]
              exact xX [0] rfl rfl (by decide) (.cons rfl rfl rfl rfl (zf (zg _ _)) .nil) (by repeat' first | exact zn | refine zk ?_ ?_ | exact zy | exact le_refl rfl | exact yB rfl | exact z8 rfl rfl | exact z8 rfl (by simp) | exact wL (by omega) (by omega))
            · have q4 : y.k ≠ x.k := of_decide_eq_false p4
              have hfin := u4 hk hB (fun z hz => by rw [hy] at hz; cases hz; omega)
              have hkl : k ≤ i := by omega
              repeat' first | refine zN ?_ | refine zA ?_ | (refine isA ?_; refine zd rfl ?_) | (refine isL ?_; refine zV rfl (by kernel_rfl) rfl rfl ?_) | (refine zc rfl ?_; refine zU rfl (by kernel_rfl) rfl rfl ?_) | refine zC ?_ | refine zD _ rfl (by kernel_rfl) ?_ | refine zW rfl ?_ | refine zX rfl ?_ | refine zE ?_ | with_reducible refine zM ?_ | refine zJ ?_ | refine zK ?_ | (with_reducible first | refine zO ?_ | refine zP ?_ | refine zG ?_ | refine zI ?_ | refine zH ?_) | refine zQ ?_
              refine qX (fun H => H[0]? = some (gR out)) 10 rfl ?_
              refine xM 5 rfl rfl (by kernel_rfl) rfl (fun _ => rfl) rfl ?_
              refine xM 6 rfl rfl (by kernel_rfl) rfl (fun _ => rfl) rfl ?_
              refine vw 7 rfl rfl (by kernel_rfl) rfl (fun H hG => yf (l := (k : Int)) (h := (out.length : Int)) rfl rfl hG (Nat.zero_le _) rfl (.yes _ rfl) (.no _) (by omega) (by omega) (by omega)) rfl ?_
              refine xM 0 rfl rfl (by kernel_rfl) rfl (fun _ => rfl) rfl ?_
              refine xM 1 rfl rfl (by kernel_rfl) rfl (fun _ => rfl) rfl ?_
              refine vw 2 rfl rfl (by kernel_rfl) rfl (fun _ _ => yR (t := gT) (z := x) rfl rfl rfl rfl (Int.natCast_nonneg i) hx) rfl ?_
              refine xM 3 rfl rfl (by kernel_rfl) rfl (fun _ => rfl) rfl ?_
              refine ur 4 (by kernel_rfl) ?_
              refine kQ rfl rfl rfl rfl rfl ?_
              refine ur 8 (by kernel_rfl) ?_
              refine kq rfl rfl (xJ (t := gT) (xs := [x]) (ys := out.drop k) rfl rfl rfl rfl (ve rfl hk (by simp) (by simp)) (by simp; omega) rfl) rfl rfl ?_
              refine xM 9 rfl rfl (by kernel_rfl) rfl (fun _ => rfl) rfl ?_
              refine ub (by kernel_rfl) ?_
              repeat' first | refine zN ?_ | refine zA ?_ | refine zR [] ?_ | (refine isA ?_; refine zd rfl ?_) | (refine isL ?_; refine zV rfl (by kernel_rfl) rfl rfl ?_) | (refine zc rfl ?_; refine zU rfl (by kernel_rfl) rfl rfl ?_) | (refine isAx ?_; refine zb rfl (yf (l := (0 : Int)) (h := (k : Int)) rfl rfl rfl (Nat.zero_le _) rfl (.no 0) (.yes _ rfl) (Int.le_refl 0) (Int.natCast_nonneg k) (by omega)) rfl ?_) | (refine isLx rfl ?_; refine zY rfl (by kernel_rfl) rfl (yf (l := (0 : Int)) (h := (k : Int)) rfl rfl rfl (Nat.zero_le _) rfl (.no 0) (.yes _ rfl) (Int.le_refl 0) (Int.natCast_nonneg k) (by omega)) rfl ?_) | (refine v6 ?_; refine zb rfl (xJ (t := gT) (xs := []) (ys := out.take k) rfl rfl rfl rfl (xQ rfl hk (by simp) (by simp)) (by simp; omega) rfl) rfl ?_) | (refine vz rfl ?_; refine zY rfl (by kernel_rfl) rfl (xJ (t := gT) (xs := []) (ys := out.take k) rfl rfl rfl rfl (xQ rfl hk (by simp) (by simp)) (by simp; omega) rfl) rfl ?_) | (refine v6 ?_; refine zb rfl (xJ (t := gT) (xs := [] ++ out.take k) (ys := [x] ++ out.drop k) rfl rfl rfl rfl (wS rfl) (by simp; omega) rfl) rfl ?_) | (refine vz rfl ?_; refine zY rfl (by kernel_rfl) rfl (xJ (t := gT) (xs := [] ++ out.take k) (ys := [x] ++ out.drop k) rfl rfl rfl rfl (wS rfl) (by simp; omega) rfl) rfl ?_) | refine zC ?_ | refine zD _ rfl (by kernel_rfl) ?_ | refine zW rfl ?_ | refine zX rfl ?_ | refine zE ?_ | with_reducible refine zM ?_ | refine zJ ?_ | refine zK ?_ | (with_reducible first | refine zO ?_ | refine zP ?_ | refine zG ?_ | refine zI ?_ | refine zH ?_) | refine zQ ?_
              refine ⟨⟨i + 1, hlt⟩, by simp only; omega, ?_⟩
              exact xX [5] rfl rfl (by decide) (.cons rfl rfl rfl rfl (nK (show gT.flat ([] ++ out.take k ++ ([x] ++ out.drop k)) = gT.flat (yD (gs.take (i + 1))) by rw [e1, ← hfin]; rfl) (zg _ _)) .nil) (by
                repeat' first | exact zn | refine zk ?_ ?_ | exact zy | exact le_refl rfl | exact z8 rfl (show ([] ++ out.take k ++ ([x] ++ out.drop k)).length = (yD (gs.take (i + 1))).length by rw [e1, ← hfin]; rfl) | exact z8 rfl (show (yD (gs.take (i + 1))).length = ([] ++ out.take k ++ ([x] ++ out.drop k)).length by rw [e1, ← hfin]; rfl) | exact wL hlt (by omega))
        · have q1 : ¬ k < out.length := by simpa using p1
          have hfin := u4 hk hB (fun z hz => absurd (List.getElem?_eq_some_iff.1 hz).1 q1)
          have hkl : k ≤ i := by omega
          repeat' first | refine zN ?_ | refine zA ?_ | refine zR [] ?_ | (refine isA ?_; refine zd rfl ?_) | (refine isL ?_; refine zV rfl (by kernel_rfl) rfl rfl ?_) | (refine zc rfl ?_; refine zU rfl (by kernel_rfl) rfl rfl ?_) | refine zC ?_ | refine zD _ rfl (by kernel_rfl) ?_ | refine zW rfl ?_ | refine zX rfl ?_ | refine zE ?_ | with_reducible refine zM ?_ | refine zJ ?_ | refine zK ?_ | (with_reducible first | refine zO ?_ | refine zP ?_ | refine zG ?_ | refine zI ?_ | refine zH ?_) | refine zQ ?_
          refine xa rfl rfl rfl rfl (fun p3 => absurd (by simpa using p3) q1) (fun p3 => ?_)
          repeat' first | refine zN ?_ | refine zA ?_ | (refine isA ?_; refine zd rfl ?_) | (refine isL ?_; refine zV rfl (by kernel_rfl) rfl rfl ?_) | (refine zc rfl ?_; refine zU rfl (by kernel_rfl) rfl rfl ?_) | refine zC ?_ | refine zD _ rfl (by kernel_rfl) ?_ | refine zW rfl ?_ | refine zX rfl ?_ | refine zE ?_ | with_reducible refine zM ?_ | refine zJ ?_ | refine zK ?_ | (with_reducible first | refine zO ?_ | refine zP ?_ | refine zG ?_ | refine zI ?_ | refine zH ?_) | refine zQ ?_
          refine qX (fun H => H[0]? = some (gR out)) 10 rfl ?_
          refine xM 5 rfl rfl (by kernel_rfl) rfl (fun _ => rfl) rfl ?_
          refine xM 6 rfl rfl (by kernel_rfl) rfl (fun _ => rfl) rfl ?_
          refine vw 7 rfl rfl (by kernel_rfl) rfl (fun H hG => yf (l := (k : Int)) (h := (out.length : Int)) rfl rfl hG (Nat.zero_le _) rfl (.yes _ rfl) (.no _) (by omega) (by omega) (by omega)) rfl ?_
          refine xM 0 rfl rfl (by kernel_rfl) rfl (fun _ => rfl) rfl ?_
          refine xM 1 rfl rfl (by kernel_rfl) rfl (fun _ => rfl) rfl ?_
          refine vw 2 rfl rfl (by kernel_rfl) rfl (fun _ _ => yR (t := gT) (z := x) rfl rfl rfl rfl (Int.natCast_nonneg i) hx) rfl ?_
          refine xM 3 rfl rfl (by kernel_rfl) rfl (fun _ => rfl) rfl ?_
          refine ur 4 (by kernel_rfl) ?_
          refine kQ rfl rfl rfl rfl rfl ?_
          refine ur 8 (by kernel_rfl) ?_
          refine kq rfl rfl (xJ (t := gT) (xs := [x]) (ys := out.drop k) rfl rfl rfl rfl (ve rfl hk (by simp) (by simp)) (by simp; omega) rfl) rfl rfl ?_
          refine xM 9 rfl rfl (by kernel_rfl) rfl (fun _ => rfl) rfl ?_
          refine ub (by kernel_rfl) ?_
          repeat' first | refine zN ?_ | refine zA ?_ | refine zR [] ?_ | (refine isA ?_; refine zd rfl ?_) | (refine isL ?_; refine zV rfl (by kernel_rfl) rfl rfl ?_) | (refine zc rfl ?_; refine zU rfl (by kernel_rfl) rfl rfl ?_) | (refine isAx ?_; refine zb rfl (yf (l := (0 : Int)) (h := (k : Int)) rfl rfl rfl (Nat.zero_le _) rfl (.no 0) (.yes _ rfl) (Int.le_refl 0) (Int.natCast_nonneg k) (by omega)) rfl ?_) | (refine isLx rfl ?_; refine zY rfl (by kernel_rfl) rfl (yf (l := (0 : Int)) (h := (k : Int)) rfl rfl rfl (Nat.zero_le _) rfl (.no 0) (.yes _ rfl) (Int.le_refl 0) (Int.natCast_nonneg k) (by omega)) rfl ?_) | (refine v6 ?_; refine zb rfl (xJ (t := gT) (xs := []) (ys := out.take k) rfl rfl rfl rfl (xQ rfl hk (by simp) (by simp)) (by simp; omega) rfl) rfl ?_) | (refine vz rfl ?_; refine zY rfl (by kernel_rfl) rfl (xJ (t := gT) (xs := []) (ys := out.take k) rfl rfl rfl rfl (xQ rfl hk (by simp) (by simp)) (by simp; omega) rfl) rfl ?_) | (refine v6 ?_; refine zb rfl (xJ (t := gT) (xs := [] ++ out.take k) (ys := [x] ++ out.drop k) rfl rfl rfl rfl (wS rfl) (by simp; omega) rfl) rfl ?_) | (refine vz rfl ?_; refine zY rfl (by kernel_rfl) rfl (xJ (t := gT) (xs := [] ++ out.take k) (ys := [x] ++ out.drop k) rfl rfl rfl rfl (wS rfl) (by simp; omega) rfl) rfl ?_) | refine zC ?_ | refine zD _ rfl (by kernel_rfl) ?_ | refine zW rfl ?_ | refine zX rfl ?_ | refine zE ?_ | with_reducible refine zM ?_ | refine zJ ?_ | refine zK ?_ | (with_reducible first | refine zO ?_ | refine zP ?_ | refine zG ?_ | refine zI ?_ | refine zH ?_) | refine zQ ?_
          refine ⟨⟨i + 1, hlt⟩, by simp only; omega, ?_⟩
          exact xX [5] rfl rfl (by decide) (.cons rfl rfl rfl rfl (nK (show gT.flat ([] ++ out.take k ++ ([x] ++ out.drop k)) = gT.flat (yD (gs.take (i + 1))) by rw [e1, ← hfin]; rfl) (zg _ _)) .nil) (by
            repeat' first | exact zn | refine zk ?_ ?_ | exact zy | exact le_refl rfl | exact z8 rfl (show ([] ++ out.take k ++ ([x] ++ out.drop k)).length = (yD (gs.take (i + 1))).length by rw [e1, ← hfin]; rfl) | exact z8 rfl (show (yD (gs.take (i + 1))).length = ([] ++ out.take k ++ ([x] ++ out.drop k)).length by rw [e1, ← hfin]; rfl) | exact wL hlt (by omega))
    · have hge : i = gs.length := by
        have : ¬ ((i : Int) < gs.length) := by simpa using h
        omega
      subst hge
      have e2 : yD (gs.take gs.length) = yD gs := by rw [List.take_length]
      repeat' first | refine zN ?_ | refine zA ?_ | refine zR [] ?_ | (refine isA ?_; refine zd rfl ?_) | (refine isL ?_; refine zV rfl (by kernel_rfl) rfl rfl ?_) | (refine zc rfl ?_; refine zU rfl (by kernel_rfl) rfl rfl ?_) | exact m7 (ty := gT) rfl rfl rfl rfl (by simp only [e2]) e2 (u9 _) | refine zC ?_ | refine zD _ rfl (by kernel_rfl) ?_ | refine zW rfl ?_ | refine zX rfl ?_ | refine zE ?_ | with_reducible refine zM ?_ | refine zJ ?_ | refine zK ?_ | (with_reducible first | refine zO ?_ | refine zP ?_ | refine zG ?_ | refine zI ?_ | refine zH ?_) | refine zQ ?_
end Go.Proofs.Ytkcicbigpbdjpaa.Ab.Gq
namespace Go.Proofs.Ytkcicbigpbdjpaa.Ab.Gq
open Go.RowKit
def yr (rs : List Rw) : List Gr := ux (rs.map ofR)
theorem sq (gs : List Gr) : (ux gs).length ≤ gs.length := by rw [xR]; exact v7 gs
theorem wv (rs : List Rw) : (yr rs).length ≤ rs.length := by
  have := sq (rs.map ofR)
  rwa [List.length_map] at this
theorem mD (rs : List Rw) (hl : rs.length ≤ 100000000) : zi Go.Proofs.Try.prog 86 [rwL rs] [] (.sl 0 0 (yr rs).length) [gR (yr rs)] false := by
  have cm := tx (rs.map ofR) (by rw [List.length_map]; exact hl)
  rw [← xR] at cm
  refine zj [2] Go.Proofs.Try.func86 rfl rfl ?_
  simp only [Go.Proofs.Try.ntmps86, List.length_cons, List.length_nil, Nat.reduceAdd, Nat.reduceSub, List.replicate_succ, List.replicate_zero, List.cons_append, List.nil_append]
  repeat' first | refine zN ?_ | refine zA ?_ | refine zR [] ?_ | (refine isA ?_; refine zd rfl ?_) | (refine isL ?_; refine zV rfl (by kernel_rfl) rfl rfl ?_) | (refine zc rfl ?_; refine zU rfl (by kernel_rfl) rfl rfl ?_) | refine zC ?_ | refine zD _ rfl (by kernel_rfl) ?_ | refine zW rfl ?_ | refine zX rfl ?_ | refine zE ?_ | with_reducible refine zM ?_ | refine zJ ?_ | refine zK ?_ | (with_reducible first | refine zO ?_ | refine zP ?_ | refine zG ?_ | refine zI ?_ | refine zH ?_) | refine zQ ?_
  refine yV (α := { p : Nat × List Gr // p.1 ≤ rs.length ∧ p.2 = (rs.take p.1).map ofR }) (fun p => ⟨[rwL rs, .any, .any, .sl 0 0 p.1.2.length, I p.1.1, .any, .any, .any, .any, .any, .any, .any, .any, .any, .any, .any, .any, .any, .any, .any, .any, .any], [gR p.1.2], 0⟩) (fun p => rs.length - p.1.1) ⟨(0, []), Nat.zero_le _, rfl⟩ ?_ ?_
  · exact xX [0] rfl rfl (by decide) (.cons rfl rfl rfl rfl (yC rfl) .nil) (by repeat' first | exact zn | refine zk ?_ ?_ | exact zy | exact le_refl rfl | exact z8 rfl rfl | exact yB rfl)
  · rintro ⟨⟨i, t⟩, hi, ht⟩
    simp only at hi ht
    have htl : t.length ≤ 100000000 := by rw [ht]; simp; omega
    repeat' first | refine zN ?_ | refine zA ?_ | refine zR [] ?_ | (refine isA ?_; refine zd rfl ?_) | (refine isL ?_; refine zV rfl (by kernel_rfl) rfl rfl ?_) | (refine zc rfl ?_; refine zU rfl (by kernel_rfl) rfl rfl ?_) | refine zC ?_ | refine zD _ rfl (by kernel_rfl) ?_ | refine zW rfl ?_ | refine zX rfl ?_ | refine zE ?_ | with_reducible refine zM ?_ | refine zJ ?_ | refine zK ?_ | (with_reducible first | refine zO ?_ | refine zP ?_ | refine zG ?_ | refine zI ?_ | refine zH ?_) | refine zQ ?_
    refine zm rfl (fun h => ?_) (fun h => ?_)
    · have hlt : i < rs.length := by simpa using h
      obtain ⟨z, hz⟩ : ∃ z, rs[i]? = some z := ⟨_, List.getElem?_eq_getElem hlt⟩
      repeat' first | (refine isA ?_; refine zb rfl (yh rfl rfl rfl rfl rfl) rfl ?_) | refine zN ?_ | refine zA ?_ | refine zR [] ?_ | (refine isA ?_; refine zd rfl ?_) | (refine isL ?_; refine zV rfl (by kernel_rfl) rfl rfl ?_) | (refine zc rfl ?_; refine zU rfl (by kernel_rfl) rfl rfl ?_) | (refine xH ?_; refine zb rfl (yR (t := rwT) (z := z) rfl rfl rfl rfl (Int.natCast_nonneg i) hz) rfl ?_) | (refine xG rfl ?_; refine zY rfl (by kernel_rfl) rfl (yR (t := rwT) (z := z) rfl rfl rfl rfl (Int.natCast_nonneg i) hz) rfl ?_) | (refine zo 103 ?_; refine zb rfl (zT rfl (x4 z) (.cons (.same rfl) .nil) rfl) rfl ?_) | (refine zp 103 rfl ?_; refine zY rfl (by kernel_rfl) rfl (zT rfl (x4 z) (.cons (.same rfl) .nil) rfl) rfl ?_) | (refine v6 ?_; refine zb rfl (xJ (t := gT) (xs := t) (ys := [ofR z]) rfl rfl rfl rfl (.lst _ _) (by simp; omega) rfl) rfl ?_) | (refine vz rfl ?_; refine zY rfl (by kernel_rfl) rfl (xJ (t := gT) (xs := t) (ys := [ofR z]) rfl rfl rfl rfl (.lst _ _) (by simp; omega) rfl) rfl ?_) | refine zC ?_ | refine zD _ rfl (by kernel_rfl) ?_ | refine zW rfl ?_ | refine zX rfl ?_ | refine zE ?_ | with_reducible refine zM ?_ | refine zJ ?_ | refine zK ?_ | (with_reducible first | refine zO ?_ | refine zP ?_ | refine zG ?_ | refine zI ?_ | refine zH ?_) | refine zQ ?_
      refine ⟨⟨(i + 1, t ++ [ofR z]), hlt, by rw [List.take_add_one, hz, ht]; simp⟩, by simp only; omega, ?_⟩
      exact xX [1] rfl rfl (by decide) (.cons rfl rfl rfl rfl (zf (zg _ _)) .nil) (by repeat' first | exact zn | refine zk ?_ ?_ | exact zy | exact le_refl rfl | exact yB rfl | exact z8 rfl rfl | exact z8 rfl (by simp) | exact wL (by omega) (by omega))
    · have hge : i = rs.length := by
        have : ¬ ((i : Int) < rs.length) := by simpa using h
        omega
      subst hge
      rw [List.take_length] at ht
      subst ht
      repeat' first | refine zN ?_ | refine zA ?_ | refine zR [] ?_ | (refine isA ?_; refine zd rfl ?_) | (refine isL ?_; refine zV rfl (by kernel_rfl) rfl rfl ?_) | (refine zc rfl ?_; refine zU rfl (by kernel_rfl) rfl rfl ?_) | (refine zo 80 ?_; refine zb rfl (yH rfl cm (.cons (xP (n := 0) rfl) .nil) (fun q hq => by simp at hq; subst hq; exact zg _ _) rfl rfl) rfl ?_) | (refine zp 80 rfl ?_; refine zY rfl (by kernel_rfl) rfl (yH rfl cm (.cons (xP (n := 0) rfl) .nil) (fun q hq => by simp at hq; subst hq; exact zg _ _) rfl rfl) rfl ?_) | exact m7 (ty := gT) rfl rfl rfl rfl rfl rfl (u9 _) | refine zC ?_ | refine zD _ rfl (by kernel_rfl) ?_ | refine zW rfl ?_ | refine zX rfl ?_ | refine zE ?_ | with_reducible refine zM ?_ | refine zJ ?_ | refine zK ?_ | (with_reducible first | refine zO ?_ | refine zP ?_ | refine zG ?_ | refine zI ?_ | refine zH ?_) | refine zQ ?_
theorem sV (rs : List Rw) (hl : rs.length ≤ 100000000) : zi Go.Proofs.Try.prog 87 [rwL rs] [] (.sl 0 0 (yr rs).length) [gR (yr rs)] false := by
  have cm := uK (rs.map ofR) (by rw [List.length_map]; exact hl)
  refine zj [2] Go.Proofs.Try.func87 rfl rfl ?_
  simp only [Go.Proofs.Try.ntmps87, List.length_cons, List.length_nil, Nat.reduceAdd, Nat.reduceSub, List.replicate_succ, List.replicate_zero, List.cons_append, List.nil_append]
  repeat' first | refine zN ?_ | refine zA ?_ | refine zR [] ?_ | (refine isA ?_; refine zd rfl ?_) | (refine isL ?_; refine zV rfl (by kernel_rfl) rfl rfl ?_) | (refine zc rfl ?_; refine zU rfl (by kernel_rfl) rfl rfl ?_) | refine zC ?_ | refine zD _ rfl (by kernel_rfl) ?_ | refine zW rfl ?_ | refine zX rfl ?_ | refine zE ?_ | with_reducible refine zM ?_ | refine zJ ?_ | refine zK ?_ | (with_reducible first | refine zO ?_ | refine zP ?_ | refine zG ?_ | refine zI ?_ | refine zH ?_) | refine zQ ?_
  refine yV (α := { p : Nat × List Gr // p.1 ≤ rs.length ∧ p.2 = (rs.take p.1).map ofR }) (fun p => ⟨[.any, .any, .any, .sl 0 0 p.1.2.length, .any, .any, .any, rwL rs, I rs.length, I p.1.1, .any, .any, .any, .any, .any, .any, .any, .any, .any, .any, .any], [gR p.1.2], 0⟩) (fun p => rs.length - p.1.1) ⟨(0, []), Nat.zero_le _, rfl⟩ ?_ ?_
  · exact xX [0] rfl rfl (by decide) (.cons rfl rfl rfl rfl (yC rfl) .nil) (by repeat' first | exact zn | refine zk ?_ ?_ | exact zy | exact le_refl rfl | exact z8 rfl rfl | exact yB rfl)
  · rintro ⟨⟨i, t⟩, hi, ht⟩
    simp only at hi ht
    have htl : t.length ≤ 100000000 := by rw [ht]; simp; omega
    repeat' first | refine zN ?_ | refine zA ?_ | refine zR [] ?_ | (refine isA ?_; refine zd rfl ?_) | (refine isL ?_; refine zV rfl (by kernel_rfl) rfl rfl ?_) | (refine zc rfl ?_; refine zU rfl (by kernel_rfl) rfl rfl ?_) | refine zC ?_ | refine zD _ rfl (by kernel_rfl) ?_ | refine zW rfl ?_ | refine zX rfl ?_ | refine zE ?_ | with_reducible refine zM ?_ | refine zJ ?_ | refine zK ?_ | (with_reducible first | refine zO ?_ | refine zP ?_ | refine zG ?_ | refine zI ?_ | refine zH ?_) | refine zQ ?_
    refine zm rfl (fun h => ?_) (fun h => ?_)
    · have hlt : i < rs.length := by simpa using h
      obtain ⟨z, hz⟩ : ∃ z, rs[i]? = some z := ⟨_, List.getElem?_eq_getElem hlt⟩
      repeat' first | (refine isA ?_; refine zb rfl (yh rfl rfl rfl rfl rfl) rfl ?_) | refine zN ?_ | refine zA ?_ | refine zR [] ?_ | (refine isA ?_; refine zd rfl ?_) | (refine isL ?_; refine zV rfl (by kernel_rfl) rfl rfl ?_) | (refine zc rfl ?_; refine zU rfl (by kernel_rfl) rfl rfl ?_) | (refine xH ?_; refine zb rfl (yR (t := rwT) (z := z) rfl rfl rfl rfl (Int.natCast_nonneg i) hz) rfl ?_) | (refine xG rfl ?_; refine zY rfl (by kernel_rfl) rfl (yR (t := rwT) (z := z) rfl rfl rfl rfl (Int.natCast_nonneg i) hz) rfl ?_) | (refine zo 102 ?_; refine zb rfl (zT rfl (tG z) (.cons (.same rfl) .nil) rfl) rfl ?_) | (refine zp 102 rfl ?_; refine zY rfl (by kernel_rfl) rfl (zT rfl (tG z) (.cons (.same rfl) .nil) rfl) rfl ?_) | (refine v6 ?_; refine zb rfl (xJ (t := gT) (xs := t) (ys := [ofR z]) rfl rfl rfl rfl (.lst _ _) (by simp; omega) rfl) rfl ?_) | (refine vz rfl ?_; refine zY rfl (by kernel_rfl) rfl (xJ (t := gT) (xs := t) (ys := [ofR z]) rfl rfl rfl rfl (.lst _ _) (by simp; omega) rfl) rfl ?_) | refine zC ?_ | refine zD _ rfl (by kernel_rfl) ?_ | refine zW rfl ?_ | refine zX rfl ?_ | refine zE ?_ | with_reducible refine zM ?_ | refine zJ ?_ | refine zK ?_ | (with_reducible first | refine zO ?_ | refine zP ?_ | refine zG ?_ | refine zI ?_ | refine zH ?_) | refine zQ ?_
      refine ⟨⟨(i + 1, t ++ [ofR z]), hlt, by rw [List.take_add_one, hz, ht]; simp⟩, by simp only; omega, ?_⟩
      exact xX [2] rfl rfl (by decide) (.cons rfl rfl rfl rfl (zf (zg _ _)) .nil) (by repeat' first | exact zn | refine zk ?_ ?_ | exact zy | exact le_refl rfl | exact yB rfl | exact z8 rfl rfl | exact z8 rfl (by simp) | exact wL (by omega) (by omega))
    · have hge : i = rs.length := by
        have : ¬ ((i : Int) < rs.length) := by simpa using h
        omega
      subst hge
      rw [List.take_length] at ht
      subst ht
      repeat' first | refine zN ?_ | refine zA ?_ | refine zR [] ?_ | (refine isA ?_; refine zd rfl ?_) | (refine isL ?_; refine zV rfl (by kernel_rfl) rfl rfl ?_) | (refine zc rfl ?_; refine zU rfl (by kernel_rfl) rfl rfl ?_) | (refine zo 82 ?_; refine zb rfl (yH rfl cm (.cons (xP (n := 0) rfl) .nil) (fun q hq => by simp at hq; subst hq; exact zg _ _) rfl rfl) rfl ?_) | (refine zp 82 rfl ?_; refine zY rfl (by kernel_rfl) rfl (yH rfl cm (.cons (xP (n := 0) rfl) .nil) (fun q hq => by simp at hq; subst hq; exact zg _ _) rfl rfl) rfl ?_) | exact m7 (ty := gT) rfl rfl rfl rfl rfl rfl (u9 _) | refine zC ?_ | refine zD _ rfl (by kernel_rfl) ?_ | refine zW rfl ?_ | refine zX rfl ?_ | refine zE ?_ | with_reducible refine zM ?_ | refine zJ ?_ | refine zK ?_ | (with_reducible first | refine zO ?_ | refine zP ?_ | refine zG ?_ | refine zI ?_ | refine zH ?_) | refine zQ ?_
end Go.Proofs.Ytkcicbigpbdjpaa.Ab.Gq
namespace Go.Proofs.Ytkcicbigpbdjpaa.Ab
open Go.RowKit
def xu (n : Int) : ByteArray := ByteArray.empty.push (UInt8.ofNat n.toNat)
theorem yj {P : Program} {o : Oper} {ρ : Operand → V} {H : List Reg} {s d e : TypeId} {x : Operand} {n : Int} (hs : P.underlying s = some (.slice e)) (he : P.underlying e = some (.int .u8)) (hd : P.underlying d = some .string) (ho : o.op = .convert s d x) (hx : Src H (ρ x) 1 [.k (.int .u8 n)]) : zh P o ρ H (.k (.string (xu n))) H := zl fun A φ a w hok hh => by
  have h1 := hh x (by simp [ho, Op.operands])
  obtain ⟨ad, c, e1, h2⟩ := tT hx hok h1
  rcases h2 with h2 | ⟨b, q, rfl, h2⟩
  · cases h2
  · obtain ⟨ys, k1, k2, k3⟩ := yM (P := P) h2
    have hy : ys = ([n].map (Value.int .u8)).toArray := by
      simp only [zZ, Rel] at k3
      obtain ⟨⟨y, y1, y2⟩, _⟩ := k3
      subst y2
      match ys, k2, y1 with
      | ⟨[z]⟩, _, y1 =>
        simp at y1
        simp [y1]
    rw [hy] at k1
    have k4 := run_bytesToString (P := P) w ⟨b, q, none⟩ 1 c [n] k1
    refine ⟨.string (xu n), ?_, by simp [Rel]⟩
    have k5 := run_convert_bytes_string w s d e (some ⟨b, q, none⟩) 1 c hs he hd
    rw [k4] at k5
    simp [execOp, ho, e1, k5, xu]
end Go.Proofs.Ytkcicbigpbdjpaa.Ab
namespace Go.Proofs.Ytkcicbigpbdjpaa.Ab
open Go.RowKit
section
variable {P : Program} {o : Oper} {ρ : Operand → V} {H : List Reg} {α : Type} {T : Ty α}
end
section
variable {P : Program} {ops : Array Oper} {ds : List Nat} {k : Nat} {Q : Exit → St → Prop} {S : St}
theorem isLbs {d : Option Tmp} {t : TypeId} {n : Nat} {els : Array (Nat × Operand)} {ty : TypeId} {p : String} {a : Array Edge} {g : Option (Nat × Bool)} (ho : ops[k]? = some ⟨d, .buildSlice t n els, ty, p, a, g⟩) (h : ALex P ops ds k Q S) : ALex P ops ds k Q S := h
end
end Go.Proofs.Ytkcicbigpbdjpaa.Ab
namespace Go.Proofs.Ytkcicbigpbdjpaa.Ab
open Go.RowKit
abbrev S' (s : ByteArray) : V := .k (.string s)
abbrev U64 (n : Int) : V := .k (.int .u64 n)
def xO (n : Nat) : ByteArray := if n < 10 then xu (48 + n) else xO (n / 10) ++ xu (48 + (n % 10 : Nat))
termination_by n
theorem tC {n : Nat} (h : n < 10) : xO n = xu (48 + n) := by rw [xO, if_pos h]
theorem sR {n : Nat} (h : 10 ≤ n) : xO n = xO (n / 10) ++ xu (48 + (n % 10 : Nat)) := by rw [xO, if_neg (by omega)]
theorem x5 (n : Int) : (xu n).size = 1 := rfl
theorem uG : ∀ (k n : Nat), n < 10 ^ (k + 1) → (xO n).size ≤ k + 1
  | k, n, h => by
    rcases Nat.lt_or_ge n 10 with h1 | h1
    · rw [tC h1, x5]; omega
    · match k, h with
      | 0, h => simp at h; omega
      | k + 1, h =>
        rw [sR h1, ByteArray.size_append, x5]
        have := uG k (n / 10) (by rw [Nat.pow_succ] at h; omega)
        omega
theorem ue (n : Nat) (hn : n < 18446744073709551616) : zi Go.Proofs.Try.prog 168 [U64 n] [] (S' (xO n)) [] false := by
  induction n using Nat.strongRecOn with
  | _ n ih =>
    rcases Nat.lt_or_ge n 10 with h1 | h1
    · rw [tC h1]
      refine zj [2] Go.Proofs.Try.func168 rfl rfl ?_
      simp only [Go.Proofs.Try.ntmps168, List.length_cons, List.length_nil, Nat.reduceAdd, Nat.reduceSub, List.replicate_succ, List.replicate_zero, List.cons_append, List.nil_append]
      repeat' first | (refine isA ?_; refine zb rfl (yh rfl rfl rfl rfl rfl) rfl ?_) | refine zN ?_ | refine zA ?_ | refine zR [] ?_ | (refine isA ?_; refine zd rfl ?_) | (refine isL ?_; refine zV rfl (by kernel_rfl) rfl rfl ?_) | (refine zc rfl ?_; refine zU rfl (by kernel_rfl) rfl rfl ?_) | refine zC ?_ | refine zD _ rfl (by kernel_rfl) ?_ | refine zW rfl ?_ | refine zX rfl ?_ | refine zE ?_ | with_reducible refine zM ?_ | refine zJ ?_ | refine zK ?_ | (with_reducible first | refine zO ?_ | refine zP ?_ | refine zG ?_ | refine zI ?_ | refine zH ?_) | refine zQ ?_
      refine zm rfl (fun _ => ?_) (fun h => absurd (of_decide_eq_false h) (by omega))
      have w1 : IntKind.u8.wrap (IntKind.u64.wrap (48 + (n : Int))) = 48 + n := by
        have e1 : IntKind.u64.wrap (48 + (n : Int)) = 48 + n := by simp [IntKind.wrap, IntKind.signed, IntKind.bits]; omega
        rw [e1]; simp [IntKind.wrap, IntKind.signed, IntKind.bits]; omega
      repeat' first | (refine isA ?_; refine zb rfl (yh rfl rfl rfl rfl rfl) rfl ?_) | refine zN ?_ | refine zA ?_ | refine zR [] ?_ | (refine isA ?_; refine zd rfl ?_) | (refine isL ?_; refine zV rfl (by kernel_rfl) rfl rfl ?_) | (refine zc rfl ?_; refine zU rfl (by kernel_rfl) rfl rfl ?_) | refine zb rfl (yj (n := IntKind.u8.wrap (IntKind.u64.wrap (48 + (n : Int)))) rfl rfl rfl rfl (.lst _ _)) rfl ?_ | refine zY rfl (by kernel_rfl) rfl (yj (n := IntKind.u8.wrap (IntKind.u64.wrap (48 + (n : Int)))) rfl rfl rfl rfl (.lst _ _)) rfl ?_ | exact xN rfl rfl (by rw [w1]) | refine zC ?_ | refine zD _ rfl (by kernel_rfl) ?_ | refine zW rfl ?_ | refine zX rfl ?_ | refine zE ?_ | with_reducible refine zM ?_ | refine zJ ?_ | refine zK ?_ | (with_reducible first | refine zO ?_ | refine zP ?_ | refine zG ?_ | refine zI ?_ | refine zH ?_) | refine zQ ?_
    · rw [sR h1]
      have e1 : IntKind.u64.wrap ((n : Int).tdiv 10) = ((n / 10 : Nat) : Int) := by
        rw [show (n : Int).tdiv 10 = ((n / 10 : Nat) : Int) from rfl]
        simp [IntKind.wrap, IntKind.signed, IntKind.bits]; omega
      have i1 : zi Go.Proofs.Try.prog 168 [U64 (IntKind.u64.wrap ((n : Int).tdiv 10))] [] (S' (xO (n / 10))) [] false := by
        rw [e1]
        exact ih (n / 10) (by omega) (by omega)
      have sz := uG 19 (n / 10) (by omega)
      have w1 : IntKind.u8.wrap (IntKind.u64.wrap (48 + (n : Int).tmod 10)) = 48 + ((n % 10 : Nat) : Int) := by
        rw [show (n : Int).tmod 10 = ((n % 10 : Nat) : Int) from rfl]
        have e1 : IntKind.u64.wrap (48 + ((n % 10 : Nat) : Int)) = 48 + ((n % 10 : Nat) : Int) := by simp [IntKind.wrap, IntKind.signed, IntKind.bits]; omega
        rw [e1]; simp [IntKind.wrap, IntKind.signed, IntKind.bits]; omega
      refine zj [2] Go.Proofs.Try.func168 rfl rfl ?_
      simp only [Go.Proofs.Try.ntmps168, List.length_cons, List.length_nil, Nat.reduceAdd, Nat.reduceSub, List.replicate_succ, List.replicate_zero, List.cons_append, List.nil_append]
      repeat' first | refine zN ?_ | refine zA ?_ | refine zR [] ?_ | (refine isA ?_; refine zd rfl ?_) | (refine isL ?_; refine zV rfl (by kernel_rfl) rfl rfl ?_) | (refine zc rfl ?_; refine zU rfl (by kernel_rfl) rfl rfl ?_) | refine zC ?_ | refine zD _ rfl (by kernel_rfl) ?_ | refine zW rfl ?_ | refine zX rfl ?_ | refine zE ?_ | with_reducible refine zM ?_ | refine zJ ?_ | refine zK ?_ | (with_reducible first | refine zO ?_ | refine zP ?_ | refine zG ?_ | refine zI ?_ | refine zH ?_) | refine zQ ?_
      refine zm rfl (fun h => absurd (of_decide_eq_true h) (by omega)) (fun _ => ?_)
      repeat' first | (refine isLbs rfl ?_; refine zY rfl (by kernel_rfl) rfl (yh rfl rfl rfl rfl rfl) rfl ?_) | refine zN ?_ | refine zA ?_ | refine zR [] ?_ | (refine isA ?_; refine zd rfl ?_) | (refine isL ?_; refine zV rfl (by kernel_rfl) rfl rfl ?_) | (refine zc rfl ?_; refine zU rfl (by kernel_rfl) rfl rfl ?_) | (refine zo 168 ?_; refine zb rfl (zT rfl i1 (.cons (.same rfl) .nil) rfl) rfl ?_) | (refine zp 168 rfl ?_; refine zY rfl (by kernel_rfl) rfl (zT rfl i1 (.cons (.same rfl) .nil) rfl) rfl ?_) | refine zb rfl (yj (n := IntKind.u8.wrap (IntKind.u64.wrap (48 + (n : Int).tmod 10))) rfl rfl rfl rfl (.lst _ _)) rfl ?_ | refine zY rfl (by kernel_rfl) rfl (yj (n := IntKind.u8.wrap (IntKind.u64.wrap (48 + (n : Int).tmod 10))) rfl rfl rfl rfl (.lst _ _)) rfl ?_ | refine zb rfl (zt rfl rfl rfl (by rw [x5]; omega)) rfl ?_ | refine zY rfl (by kernel_rfl) rfl (zt rfl rfl rfl (by rw [x5]; omega)) rfl ?_ | exact xN rfl rfl (by rw [w1]) | refine zC ?_ | refine zD _ rfl (by kernel_rfl) ?_ | refine zW rfl ?_ | refine zX rfl ?_ | refine zE ?_ | with_reducible refine zM ?_ | refine zJ ?_ | refine zK ?_ | (with_reducible first | refine zO ?_ | refine zP ?_ | refine zG ?_ | refine zI ?_ | refine zH ?_) | refine zQ ?_
end Go.Proofs.Ytkcicbigpbdjpaa.Ab
namespace Go.Proofs.Ytkcicbigpbdjpaa.Ab
open Go.RowKit
abbrev n7 : ByteArray := ⟨#[45]⟩
def yG (n : Int) : ByteArray := cond (decide (n < 0)) (n7 ++ xO n.natAbs) (xO n.natAbs)
theorem n5 {n : Nat} (h : n < 100000000000000000000) : (xO n).size ≤ 20 := uG 19 n h
theorem uL (n : Int) (h0 : -9223372036854775808 ≤ n) (h1 : n < 9223372036854775808) : zi Go.Proofs.Try.prog 162 [I n] [] (S' (yG n)) [] false := by
  rcases Int.lt_or_le n 0 with hn | hn
  · have e1 : IntKind.u64.wrap (0 - IntKind.u64.wrap n) = ((n.natAbs : Nat) : Int) := by
      simp [IntKind.wrap, IntKind.signed, IntKind.bits]; omega
    have i1 : zi Go.Proofs.Try.prog 168 [U64 (IntKind.u64.wrap (0 - IntKind.u64.wrap n))] [] (S' (xO n.natAbs)) [] false := by
      rw [e1]
      exact ue _ (by omega)
    have sz := n5 (n := n.natAbs) (by omega)
    have hD : yG n = n7 ++ xO n.natAbs := by rw [yG, decide_eq_true hn]; rfl
    rw [hD]
    refine zj [2] Go.Proofs.Try.func162 rfl rfl ?_
    simp only [Go.Proofs.Try.ntmps162, List.length_cons, List.length_nil, Nat.reduceAdd, Nat.reduceSub, List.replicate_succ, List.replicate_zero, List.cons_append, List.nil_append]
    repeat' first | refine zN ?_ | refine zA ?_ | refine zR [] ?_ | (refine isA ?_; refine zd rfl ?_) | (refine isL ?_; refine zV rfl (by kernel_rfl) rfl rfl ?_) | (refine zc rfl ?_; refine zU rfl (by kernel_rfl) rfl rfl ?_) | refine zC ?_ | refine zD _ rfl (by kernel_rfl) ?_ | refine zW rfl ?_ | refine zX rfl ?_ | refine zE ?_ | with_reducible refine zM ?_ | refine zJ ?_ | refine zK ?_ | (with_reducible first | refine zO ?_ | refine zP ?_ | refine zG ?_ | refine zI ?_ | refine zH ?_) | refine zQ ?_
    refine zm rfl (fun _ => ?_) (fun h => absurd (of_decide_eq_false h) (by omega))
    repeat' first | refine zN ?_ | refine zA ?_ | refine zR [] ?_ | (refine isA ?_; refine zd rfl ?_) | (refine isL ?_; refine zV rfl (by kernel_rfl) rfl rfl ?_) | (refine zc rfl ?_; refine zU rfl (by kernel_rfl) rfl rfl ?_) | (refine zo 168 ?_; refine zb rfl (zT rfl i1 (.cons (.same rfl) .nil) rfl) rfl ?_) | (refine zp 168 rfl ?_; refine zY rfl (by kernel_rfl) rfl (zT rfl i1 (.cons (.same rfl) .nil) rfl) rfl ?_) | refine zb rfl (zt rfl rfl rfl (by show 1 + _ ≤ _; omega)) rfl ?_ | refine zY rfl (by kernel_rfl) rfl (zt rfl rfl rfl (by show 1 + _ ≤ _; omega)) rfl ?_ | exact xN rfl rfl rfl | refine zC ?_ | refine zD _ rfl (by kernel_rfl) ?_ | refine zW rfl ?_ | refine zX rfl ?_ | refine zE ?_ | with_reducible refine zM ?_ | refine zJ ?_ | refine zK ?_ | (with_reducible first | refine zO ?_ | refine zP ?_ | refine zG ?_ | refine zI ?_ | refine zH ?_) | refine zQ ?_
  · have e1 : IntKind.u64.wrap n = ((n.natAbs : Nat) : Int) := by
      simp [IntKind.wrap, IntKind.signed, IntKind.bits]; omega
    have i1 : zi Go.Proofs.Try.prog 168 [U64 (IntKind.u64.wrap n)] [] (S' (xO n.natAbs)) [] false := by
      rw [e1]
      exact ue _ (by omega)
    have hD : yG n = xO n.natAbs := by rw [yG, decide_eq_false (by omega)]; rfl
    rw [hD]
    refine zj [2] Go.Proofs.Try.func162 rfl rfl ?_
    simp only [Go.Proofs.Try.ntmps162, List.length_cons, List.length_nil, Nat.reduceAdd, Nat.reduceSub, List.replicate_succ, List.replicate_zero, List.cons_append, List.nil_append]
    repeat' first | refine zN ?_ | refine zA ?_ | refine zR [] ?_ | (refine isA ?_; refine zd rfl ?_) | (refine isL ?_; refine zV rfl (by kernel_rfl) rfl rfl ?_) | (refine zc rfl ?_; refine zU rfl (by kernel_rfl) rfl rfl ?_) | refine zC ?_ | refine zD _ rfl (by kernel_rfl) ?_ | refine zW rfl ?_ | refine zX rfl ?_ | refine zE ?_ | with_reducible refine zM ?_ | refine zJ ?_ | refine zK ?_ | (with_reducible first | refine zO ?_ | refine zP ?_ | refine zG ?_ | refine zI ?_ | refine zH ?_) | refine zQ ?_
    refine zm rfl (fun h => absurd (of_decide_eq_true h) (by omega)) (fun _ => ?_)
    repeat' first | refine zN ?_ | refine zA ?_ | refine zR [] ?_ | (refine isA ?_; refine zd rfl ?_) | (refine isL ?_; refine zV rfl (by kernel_rfl) rfl rfl ?_) | (refine zc rfl ?_; refine zU rfl (by kernel_rfl) rfl rfl ?_) | (refine zo 168 ?_; refine zb rfl (zT rfl i1 (.cons (.same rfl) .nil) rfl) rfl ?_) | (refine zp 168 rfl ?_; refine zY rfl (by kernel_rfl) rfl (zT rfl i1 (.cons (.same rfl) .nil) rfl) rfl ?_) | exact xN rfl rfl rfl | refine zC ?_ | refine zD _ rfl (by kernel_rfl) ?_ | refine zW rfl ?_ | refine zX rfl ?_ | refine zE ?_ | with_reducible refine zM ?_ | refine zJ ?_ | refine zK ?_ | (with_reducible first | refine zO ?_ | refine zP ?_ | refine zG ?_ | refine zI ?_ | refine zH ?_) | refine zQ ?_
def tD (q : Nat) : ByteArray := if q = 0 then ByteArray.empty else xO q
theorem n0 {q : Nat} (h : q ≠ 0) : tD q = tD (q / 10) ++ xu (48 + (q % 10 : Nat)) := by
  rw [tD, if_neg h]
  rcases Nat.lt_or_ge q 10 with h1 | h1
  · rw [tC h1, tD, if_pos (by omega), ByteArray.empty_append, Nat.mod_eq_of_lt h1]
  · rw [sR h1, tD, if_neg (by omega)]
theorem uJ (n : Int) (h0 : -9223372036854775808 ≤ n) (h1 : n < 9223372036854775808) : zi Go.Proofs.Try.prog 151 [I n] [] (S' (yG n)) [] false := by
  have sz := n5 (n := n.natAbs) (by omega)
  by_cases hz : n = 0
  · subst hz
    have hZ : yG 0 = xu 48 := by
      show xO 0 = _
      rw [tC (by decide)]; rfl
    refine zj [2] Go.Proofs.Try.func151 rfl rfl ?_
    simp only [Go.Proofs.Try.ntmps151, List.length_cons, List.length_nil, Nat.reduceAdd, Nat.reduceSub, List.replicate_succ, List.replicate_zero, List.cons_append, List.nil_append]
    repeat' first | refine zN ?_ | refine zA ?_ | refine zR [] ?_ | (refine isA ?_; refine zd rfl ?_) | (refine isL ?_; refine zV rfl (by kernel_rfl) rfl rfl ?_) | (refine zc rfl ?_; refine zU rfl (by kernel_rfl) rfl rfl ?_) | exact xN rfl rfl (by rw [hZ]; rfl) | refine zC ?_ | refine zD _ rfl (by kernel_rfl) ?_ | refine zW rfl ?_ | refine zX rfl ?_ | refine zE ?_ | with_reducible refine zM ?_ | refine zJ ?_ | refine zK ?_ | (with_reducible first | refine zO ?_ | refine zP ?_ | refine zG ?_ | refine zI ?_ | refine zH ?_) | refine zQ ?_
  · refine zj [2] Go.Proofs.Try.func151 rfl rfl ?_
    simp only [Go.Proofs.Try.ntmps151, List.length_cons, List.length_nil, Nat.reduceAdd, Nat.reduceSub, List.replicate_succ, List.replicate_zero, List.cons_append, List.nil_append]
    repeat' first | refine zN ?_ | refine zA ?_ | refine zR [] ?_ | (refine isA ?_; refine zd rfl ?_) | (refine isL ?_; refine zV rfl (by kernel_rfl) rfl rfl ?_) | (refine zc rfl ?_; refine zU rfl (by kernel_rfl) rfl rfl ?_) | refine zC ?_ | refine zD _ rfl (by kernel_rfl) ?_ | refine zW rfl ?_ | refine zX rfl ?_ | refine zE ?_ | with_reducible refine zM ?_ | refine zJ ?_ | refine zK ?_ | (with_reducible first | refine zO ?_ | refine zP ?_ | refine zG ?_ | refine zI ?_ | refine zH ?_) | refine zQ ?_
    refine zm rfl (fun h => absurd (of_decide_eq_true h) hz) (fun _ => ?_)
    repeat' first | refine zN ?_ | refine zA ?_ | refine zR [] ?_ | (refine isA ?_; refine zd rfl ?_) | (refine isL ?_; refine zV rfl (by kernel_rfl) rfl rfl ?_) | (refine zc rfl ?_; refine zU rfl (by kernel_rfl) rfl rfl ?_) | refine zC ?_ | refine zD _ rfl (by kernel_rfl) ?_ | refine zW rfl ?_ | refine zX rfl ?_ | refine zE ?_ | with_reducible refine zM ?_ | refine zJ ?_ | refine zK ?_ | (with_reducible first | refine zO ?_ | refine zP ?_ | refine zG ?_ | refine zI ?_ | refine zH ?_) | refine zQ ?_
    refine yV (α := { p : Int × ByteArray // ((0 ≤ n → 0 ≤ p.1) ∧ (n < 0 → p.1 ≤ 0)) ∧ p.1.natAbs ≤ n.natAbs ∧ tD p.1.natAbs ++ p.2 = xO n.natAbs }) (fun p => ⟨[I p.1.1, .any, .any, S' p.1.2, B (decide (n < 0)), .any, .any, .any, .any, .any, .any, .any, .any, .any, .any, .any, .any, .any, .any, .any, .any, .any, .any, .any, .any, .any, .any, .any, .any, .any, .any], [], 0⟩) (fun p => p.1.1.natAbs) ⟨(n, ByteArray.empty), ⟨fun h => h, fun h => by simp only; omega⟩, Nat.le_refl _, by rw [tD, if_neg (by simp only; omega), ByteArray.append_empty]⟩ ?_ ?_
    · exact xW rfl (by repeat' first | exact EqS.nil | refine EqS.any ?_ | refine EqS.same rfl ?_)
    · rintro ⟨⟨m, out⟩, ⟨s0, s1⟩, sm, hq⟩
      simp only at s0 s1 sm hq
      repeat' first | refine zN ?_ | refine zA ?_ | refine zR [] ?_ | (refine isA ?_; refine zd rfl ?_) | (refine isL ?_; refine zV rfl (by kernel_rfl) rfl rfl ?_) | (refine zc rfl ?_; refine zU rfl (by kernel_rfl) rfl rfl ?_) | refine zC ?_ | refine zD _ rfl (by kernel_rfl) ?_ | refine zW rfl ?_ | refine zX rfl ?_ | refine zE ?_ | with_reducible refine zM ?_ | refine zJ ?_ | refine zK ?_ | (with_reducible first | refine zO ?_ | refine zP ?_ | refine zG ?_ | refine zI ?_ | refine zH ?_) | refine zQ ?_
      refine zm rfl (fun h => ?_) (fun h => ?_)
      · have hm : m ≠ 0 := by simpa using h
        have hmn : m.natAbs ≠ 0 := by omega
        have hst := n0 hmn
        have hsz : out.size ≤ 20 := by
          have := congrArg ByteArray.size hq
          rw [ByteArray.size_append] at this
          omega
        have hd : (m.tdiv 10).natAbs = m.natAbs / 10 := by rw [Int.natAbs_tdiv]; rfl
        have hq2 : tD (m.tdiv 10).natAbs ++ (xu (48 + (m.natAbs % 10 : Nat)) ++ out) = xO n.natAbs := by
          rw [hd, ← ByteArray.append_assoc, ← hst]; exact hq
        have hs0 : 0 ≤ n → 0 ≤ m.tdiv 10 := fun h => Int.tdiv_nonneg (s0 h) (by decide)
        have hs1 : n < 0 → m.tdiv 10 ≤ 0 := fun h => by
          have h3 := s1 h
          have h4 : 0 ≤ (-m).tdiv 10 := Int.tdiv_nonneg (by omega) (by decide)
          rw [Int.neg_tdiv] at h4
          omega
        have hdm : (m.tmod 10).natAbs = m.natAbs % 10 := by rw [Int.natAbs_tmod]; rfl
        have wt : m.tdiv 10 = IntKind.i64.wrap (m.tdiv 10) := by rw [IntKind.wrap_i64]; omega
        have hlt9 : m.natAbs / 10 < m.natAbs := by omega
        repeat' first | refine zN ?_ | refine zA ?_ | refine zR [] ?_ | (refine isA ?_; refine zd rfl ?_) | (refine isL ?_; refine zV rfl (by kernel_rfl) rfl rfl ?_) | (refine zc rfl ?_; refine zU rfl (by kernel_rfl) rfl rfl ?_) | refine zC ?_ | refine zD _ rfl (by kernel_rfl) ?_ | refine zW rfl ?_ | refine zX rfl ?_ | refine zE ?_ | with_reducible refine zM ?_ | refine zJ ?_ | refine zK ?_ | (with_reducible first | refine zO ?_ | refine zP ?_ | refine zG ?_ | refine zI ?_ | refine zH ?_) | refine zQ ?_
        refine zm rfl (fun h2 => ?_) (fun h2 => ?_)
        · have hneg := of_decide_eq_true h2
          simp only at hneg
          have w1 : IntKind.u8.wrap (IntKind.i64.wrap (48 + IntKind.i64.wrap (0 - m.tmod 10))) = 48 + ((m.natAbs % 10 : Nat) : Int) := by
            generalize m.tmod 10 = d at hdm hneg
            have e1 : IntKind.i64.wrap (0 - d) = -d := by rw [IntKind.wrap_i64]; omega
            have e2 : IntKind.i64.wrap (48 + -d) = 48 - d := by rw [IntKind.wrap_i64]; omega
            rw [e1, e2]
            simp [IntKind.wrap, IntKind.signed, IntKind.bits]; omega
          repeat' first | (refine isA ?_; refine zb rfl (yh rfl rfl rfl rfl rfl) rfl ?_) | refine zN ?_ | refine zA ?_ | refine zR [] ?_ | (refine isA ?_; refine zd rfl ?_) | (refine isL ?_; refine zV rfl (by kernel_rfl) rfl rfl ?_) | (refine zc rfl ?_; refine zU rfl (by kernel_rfl) rfl rfl ?_) | refine zb rfl (yj (n := IntKind.u8.wrap (IntKind.i64.wrap (48 + IntKind.i64.wrap (0 - m.tmod 10)))) rfl rfl rfl rfl (.lst _ _)) rfl ?_ | refine zY rfl (by kernel_rfl) rfl (yj (n := IntKind.u8.wrap (IntKind.i64.wrap (48 + IntKind.i64.wrap (0 - m.tmod 10)))) rfl rfl rfl rfl (.lst _ _)) rfl ?_ | refine zb rfl (zt rfl rfl rfl (show 1 + out.size ≤ 9223372036854775807 by omega)) rfl ?_ | refine zY rfl (by kernel_rfl) rfl (zt rfl rfl rfl (show 1 + out.size ≤ 9223372036854775807 by omega)) rfl ?_ | refine zC ?_ | refine zD _ rfl (by kernel_rfl) ?_ | refine zW rfl ?_ | refine zX rfl ?_ | refine zE ?_ | with_reducible refine zM ?_ | refine zJ ?_ | refine zK ?_ | (with_reducible first | refine zO ?_ | refine zP ?_ | refine zG ?_ | refine zI ?_ | refine zH ?_) | refine zQ ?_
          rw [w1]
          refine ⟨⟨(m.tdiv 10, xu (48 + (m.natAbs % 10 : Nat)) ++ out), ⟨hs0, hs1⟩, by simp only; omega, hq2⟩, by simp only; omega, ?_⟩
          exact xW rfl (by repeat' first | exact EqS.nil | refine EqS.any ?_ | refine EqS.same rfl ?_ | refine EqS.same (congrArg I wt) ?_ | refine EqS.same (congrArg I wt.symm) ?_)
        · have hpos := of_decide_eq_false h2
          simp only at hpos
          have w1 : IntKind.u8.wrap (IntKind.i64.wrap (48 + m.tmod 10)) = 48 + ((m.natAbs % 10 : Nat) : Int) := by
            generalize m.tmod 10 = d at hdm hpos
            have e2 : IntKind.i64.wrap (48 + d) = 48 + d := by rw [IntKind.wrap_i64]; omega
            rw [e2]
            simp [IntKind.wrap, IntKind.signed, IntKind.bits]; omega
          repeat' first | (refine isA ?_; refine zb rfl (yh rfl rfl rfl rfl rfl) rfl ?_) | refine zN ?_ | refine zA ?_ | refine zR [] ?_ | (refine isA ?_; refine zd rfl ?_) | (refine isL ?_; refine zV rfl (by kernel_rfl) rfl rfl ?_) | (refine zc rfl ?_; refine zU rfl (by kernel_rfl) rfl rfl ?_) | refine zb rfl (yj (n := IntKind.u8.wrap (IntKind.i64.wrap (48 + m.tmod 10))) rfl rfl rfl rfl (.lst _ _)) rfl ?_ | refine zY rfl (by kernel_rfl) rfl (yj (n := IntKind.u8.wrap (IntKind.i64.wrap (48 + m.tmod 10))) rfl rfl rfl rfl (.lst _ _)) rfl ?_ | refine zb rfl (zt rfl rfl rfl (show 1 + out.size ≤ 9223372036854775807 by omega)) rfl ?_ | refine zY rfl (by kernel_rfl) rfl (zt rfl rfl rfl (show 1 + out.size ≤ 9223372036854775807 by omega)) rfl ?_ | refine zC ?_ | refine zD _ rfl (by kernel_rfl) ?_ | refine zW rfl ?_ | refine zX rfl ?_ | refine zE ?_ | with_reducible refine zM ?_ | refine zJ ?_ | refine zK ?_ | (with_reducible first | refine zO ?_ | refine zP ?_ | refine zG ?_ | refine zI ?_ | refine zH ?_) | refine zQ ?_
          rw [w1]
          refine ⟨⟨(m.tdiv 10, xu (48 + (m.natAbs % 10 : Nat)) ++ out), ⟨hs0, hs1⟩, by simp only; omega, hq2⟩, by simp only; omega, ?_⟩
          exact xW rfl (by repeat' first | exact EqS.nil | refine EqS.any ?_ | refine EqS.same rfl ?_ | refine EqS.same (congrArg I wt) ?_ | refine EqS.same (congrArg I wt.symm) ?_)
      · have hm : m = 0 := by simpa using h
        subst hm
        have hq3 : out = xO n.natAbs := by
          have h0 : tD (Int.natAbs 0) = ByteArray.empty := if_pos rfl
          rw [h0, ByteArray.empty_append] at hq
          exact hq
        subst hq3
        rcases Int.lt_or_le n 0 with hn | hn
        · have hD : yG n = n7 ++ xO n.natAbs := by rw [yG, decide_eq_true hn]; rfl
          rw [hD, decide_eq_true hn]
          repeat' first | refine zN ?_ | refine zA ?_ | refine zR [] ?_ | (refine isA ?_; refine zd rfl ?_) | (refine isL ?_; refine zV rfl (by kernel_rfl) rfl rfl ?_) | (refine zc rfl ?_; refine zU rfl (by kernel_rfl) rfl rfl ?_) | refine zb rfl (zt rfl rfl rfl (show 1 + (xO n.natAbs).size ≤ 9223372036854775807 by omega)) rfl ?_ | refine zY rfl (by kernel_rfl) rfl (zt rfl rfl rfl (show 1 + (xO n.natAbs).size ≤ 9223372036854775807 by omega)) rfl ?_ | exact xN rfl rfl rfl | refine zC ?_ | refine zD _ rfl (by kernel_rfl) ?_ | refine zW rfl ?_ | refine zX rfl ?_ | refine zE ?_ | with_reducible refine zM ?_ | refine zJ ?_ | refine zK ?_ | (with_reducible first | refine zO ?_ | refine zP ?_ | refine zG ?_ | refine zI ?_ | refine zH ?_) | refine zQ ?_
        · have hD : yG n = xO n.natAbs := by rw [yG, decide_eq_false (by omega)]; rfl
          rw [hD, decide_eq_false (by omega)]
          repeat' first | refine zN ?_ | refine zA ?_ | refine zR [] ?_ | (refine isA ?_; refine zd rfl ?_) | (refine isL ?_; refine zV rfl (by kernel_rfl) rfl rfl ?_) | (refine zc rfl ?_; refine zU rfl (by kernel_rfl) rfl rfl ?_) | exact xN rfl rfl rfl | refine zC ?_ | refine zD _ rfl (by kernel_rfl) ?_ | refine zW rfl ?_ | refine zX rfl ?_ | refine zE ?_ | with_reducible refine zM ?_ | refine zJ ?_ | refine zK ?_ | (with_reducible first | refine zO ?_ | refine zP ?_ | refine zG ?_ | refine zI ?_ | refine zH ?_) | refine zQ ?_
end Go.Proofs.Ytkcicbigpbdjpaa.Ab
namespace Go.Proofs.Ytkcicbigpbdjpaa.Ab
open Go.RowKit
abbrev dotS : ByteArray := ⟨#[46]⟩
def fmtR (x : Rw) : ByteArray := cond (vRw x) (yG x.a ++ dotS ++ yG x.b ++ dotS ++ yG x.c) ByteArray.empty
theorem yE (n : Int) (h0 : -9223372036854775808 ≤ n) (h1 : n < 9223372036854775808) : (yG n).size ≤ 21 := by
  have sz := n5 (n := n.natAbs) (by omega)
  unfold yG
  cases decide (n < 0)
  · simp only [cond_false]; omega
  · simp only [cond_true, ByteArray.size_append]
    show 1 + _ ≤ _
    omega
theorem lj {x : Rw} (h : vRw x = true) : (0 ≤ x.a ∧ x.a ≤ 9) ∧ (0 ≤ x.b ∧ x.b ≤ 99) ∧ (0 ≤ x.c ∧ x.c ≤ 3) := by simpa [vRw, inV] using h
end Go.Proofs.Ytkcicbigpbdjpaa.Ab
namespace Go.Proofs.Ytkcicbigpbdjpaa.Ab.Pr
open Go.RowKit
structure Rw where
  l : Go.Proofs.Ytkcicbigpbdjpaa.Ab.Rw
  r : Go.Proofs.Ytkcicbigpbdjpaa.Ab.Rw
  m : Bool
def mI (b : Bool) : Int := cond b 1 0
def rwE (p : Rw) : List V := [I p.l.a, I p.l.b, I p.l.c, I p.r.a, I p.r.b, I p.r.c, B p.m]
def rwT : Ty Rw := ⟨7, rwE, fun _ => rfl, by decide, fun r c hc => by
  simp only [rwE, List.mem_cons, List.not_mem_nil, or_false] at hc
  rcases hc with rfl | rfl | rfl | rfl | rfl | rfl | rfl <;> exact ⟨rfl, rfl⟩⟩
abbrev rwL (xs : List Rw) : V := yW rwT xs
abbrev rwR (xs : List Rw) : Reg := xD rwT 73 xs
theorem w8 (xs : List Rw) (k : Nat) : ((rwT.flat xs).drop (0 * 7)).take ((k - 0) * 7) = rwT.flat (xs.take k) := by
  rw [Nat.zero_mul, List.drop_zero, Nat.sub_zero, show k * 7 = k * rwT.n from rfl, y8]
theorem vN (xs : List Rw) (k : Nat) : ((rwT.flat xs).drop (k * 7)).take ((xs.length - k) * 7) = rwT.flat (xs.drop k) := by
  rw [show k * 7 = k * rwT.n from rfl, xq, show (xs.length - k) * 7 = (xs.length - k) * rwT.n from rfl, y8, List.take_of_length_le (by simp)]
def rwN (x : Rw) : List Int := [x.l.a, x.l.b, x.l.c, mI x.m, x.r.a, x.r.b, x.r.c]
def xr (x y : Rw) : Int := vP (rwN x) (rwN y)
theorem qW : ∀ xs ys : List Int, vP ys xs = - vP xs ys
  | [], [] => rfl
  | [], y :: ys => rfl
  | x :: xs, [] => rfl
  | x :: xs, y :: ys => by
    rw [vP, vP]
    rcases Int.lt_trichotomy x y with h | h | h
    · rw [decide_eq_true h, decide_eq_false (show ¬ y < x by omega)]; rfl
    · rw [decide_eq_false (show ¬ x < y by omega), decide_eq_false (show ¬ y < x by omega)]; exact qW xs ys
    · rw [decide_eq_true h, decide_eq_false (show ¬ x < y by omega)]; rfl
theorem t6 : ∀ {xs ys zs : List Int}, xs.length = ys.length → ys.length = zs.length → vP xs ys ≤ 0 → vP ys zs ≤ 0 → vP xs zs ≤ 0
  | [], [], [], _, _, _, _ => by simp [vP]
  | [], [], z :: zs, _, h, _, _ => by simp at h
  | [], y :: ys, zs, h, _, _, _ => by simp at h
  | x :: xs, [], zs, h, _, _, _ => by simp at h
  | x :: xs, y :: ys, [], _, h, _, _ => by simp at h
  | x :: xs, y :: ys, z :: zs, h1, h2, e1, e2 => by
    rw [vP] at e1 e2 ⊢
    rcases Int.lt_trichotomy x y with k | k | k
    · rcases Int.lt_trichotomy y z with j | j | j
      · rw [decide_eq_true (show x < z by omega)]; show (-1 : Int) ≤ 0; decide
      · rw [decide_eq_true (show x < z by omega)]; show (-1 : Int) ≤ 0; decide
      · rw [decide_eq_true j, decide_eq_false (show ¬ y < z by omega)] at e2; exact absurd (show (1 : Int) ≤ 0 from e2) (by decide)
    · subst k
      rw [decide_eq_false (Int.lt_irrefl x)] at e1
      rcases Int.lt_trichotomy x z with j | j | j
      · rw [decide_eq_true j]; show (-1 : Int) ≤ 0; decide
      · subst j
        rw [decide_eq_false (Int.lt_irrefl x)] at e2 ⊢
        exact t6 (by simpa using h1) (by simpa using h2) e1 e2
      · rw [decide_eq_true j, decide_eq_false (show ¬ x < z by omega)] at e2; exact absurd (show (1 : Int) ≤ 0 from e2) (by decide)
    · rw [decide_eq_true k, decide_eq_false (show ¬ x < y by omega)] at e1; exact absurd (show (1 : Int) ≤ 0 from e1) (by decide)
def leW (x y : Rw) : Prop := xr x y ≤ 0
theorem n9 (x y : Rw) : xr y x = - xr x y := qW _ _
theorem vH {x y z : Rw} (h : leW x y) (k : leW y z) : leW x z := t6 (xs := rwN x) (ys := rwN y) (zs := rwN z) rfl rfl h k
theorem vI (x y : Rw) : leW x y ∨ leW y x := by
  have := n9 x y
  unfold leW
  omega
theorem uz {x y : Rw} (h : ¬ leW x y) : leW y x := (vI x y).resolve_left h
def Srt (xs : List Rw) : Prop := xs.Pairwise leW
def xy (x : Rw) : List Rw → List Rw
  | [] => [x]
  | y :: ys => cond (decide (xr y x ≤ 0)) (y :: xy x ys) (x :: y :: ys)
def mi (xs : List Rw) : List Rw := xs.foldl (fun o x => xy x o) []
theorem yq (x : Rw) : ∀ ys : List Rw, (xy x ys).Perm (x :: ys)
  | [] => .refl _
  | y :: ys => by
    rw [xy]
    cases decide (xr y x ≤ 0) with
    | true => exact ((yq x ys).cons y).trans (.swap _ _ _)
    | false => exact .refl _
theorem wy (x : Rw) : ∀ {ys : List Rw}, Srt ys → Srt (xy x ys)
  | [], _ => List.pairwise_singleton _ _
  | y :: ys, h => by
    have h' := List.pairwise_cons.1 h
    rw [xy]
    cases hd : decide (xr y x ≤ 0) with
    | true =>
      refine List.pairwise_cons.2 ⟨fun z hz => ?_, wy x h'.2⟩
      rcases List.mem_cons.1 ((yq x ys).mem_iff.1 hz) with rfl | hz
      · exact (show xr y _ ≤ 0 from of_decide_eq_true hd)
      · exact h'.1 z hz
    | false =>
      have hle : leW x y := uz (show ¬ xr y x ≤ 0 from of_decide_eq_false hd)
      refine List.pairwise_cons.2 ⟨fun z hz => ?_, h⟩
      rcases List.mem_cons.1 hz with rfl | hz
      · exact hle
      · exact vH hle (h'.1 z hz)
theorem xz : ∀ (xs o : List Rw), Srt o → Srt (xs.foldl (fun o x => xy x o) o) ∧ (xs.foldl (fun o x => xy x o) o).Perm (o ++ xs)
  | [], o, h => ⟨h, by simp⟩
  | x :: xs, o, h => by
    obtain ⟨q1, q2⟩ := xz xs (xy x o) (wy x h)
    refine ⟨q1, q2.trans ?_⟩
    refine ((yq x o).append_right xs).trans ?_
    exact List.perm_middle.symm
end Go.Proofs.Ytkcicbigpbdjpaa.Ab.Pr
namespace Go.Proofs.Ytkcicbigpbdjpaa.Ab.Pr
open Go.RowKit
end Go.Proofs.Ytkcicbigpbdjpaa.Ab.Pr
namespace Go.Proofs.Ytkcicbigpbdjpaa.Ab.Pr
open Go.RowKit
theorem ve {H : List Reg} {h k off m : Nat} {xs : List Rw} (hH : H[h]? = some (rwR xs)) (hk : k ≤ xs.length) (ho : off = k) (hm : m = xs.length - k) : Src H (.sl h off m) (xs.drop k).length (rwT.flat (xs.drop k)) := by
  subst ho hm
  have q := Src.sl (H := H) (h := h) (off := off) (m := xs.length - off) hH (Nat.zero_le _) (by show (off + (xs.length - off)) * 7 ≤ (rwT.flat xs).length; rw [zr]; show _ ≤ xs.length * 7; omega)
  have e : ((rwR xs).cells.drop (off * (rwR xs).esz)).take ((xs.length - off) * (rwR xs).esz) = rwT.flat (xs.drop off) := vN xs off
  rw [e] at q
  rw [List.length_drop]
  exact q
theorem xQ {H : List Reg} {h k off m : Nat} {xs : List Rw} (hH : H[h]? = some (rwR xs)) (hk : k ≤ xs.length) (ho : off = 0) (hm : m = k) : Src H (.sl h off m) (xs.take k).length (rwT.flat (xs.take k)) := by
  subst ho hm
  have q := Src.sl (H := H) (h := h) (off := 0) (m := m) hH (Nat.zero_le _) (by show (0 + m) * 7 ≤ (rwT.flat xs).length; rw [zr]; show _ ≤ xs.length * 7; omega)
  have e : ((rwR xs).cells.drop (0 * (rwR xs).esz)).take (m * (rwR xs).esz) = rwT.flat (xs.take m) := w8 xs m
  rw [e] at q
  rw [List.length_take, Nat.min_eq_left hk]
  exact q
theorem wS {H : List Reg} {h : Nat} {xs : List Rw} (hH : H[h]? = some (rwR xs)) : Src H (.sl h 0 xs.length) xs.length (rwT.flat xs) := by
  have q := xQ (k := xs.length) hH (Nat.le_refl _) rfl rfl
  rw [List.take_length] at q
  exact q
end Go.Proofs.Ytkcicbigpbdjpaa.Ab.Pr
namespace Go.Proofs.Ytkcicbigpbdjpaa.Ab
open Go.RowKit
def sC : Ty ByteArray := ⟨1, fun s => [.k (.string s)], fun _ => rfl, by decide, fun r c hc => by
  simp only [List.mem_cons, List.not_mem_nil, or_false] at hc
  subst hc
  exact ⟨rfl, rfl⟩⟩
def jnF (sep : ByteArray) (xs : List ByteArray) : Nat → ByteArray
  | 0 => ByteArray.empty
  | i + 1 => cond (decide ((0 : Int) < i)) (jnF sep xs i ++ sep) (jnF sep xs i) ++ (xs[i]?).getD ByteArray.empty
theorem u2 {sep : ByteArray} {xs : List ByteArray} {m : Nat} (hs : sep.size ≤ m) (hx : ∀ x ∈ xs, x.size ≤ m) : ∀ i, i ≤ xs.length → (jnF sep xs i).size ≤ 2 * m * i
  | 0, _ => Nat.zero_le _
  | i + 1, h => by
    have h1 := u2 hs hx i (by omega)
    obtain ⟨z, hz⟩ : ∃ z, xs[i]? = some z := ⟨_, List.getElem?_eq_getElem (by omega)⟩
    have h2 := hx z (List.mem_of_getElem? hz)
    rw [jnF, hz, Nat.mul_add, Nat.mul_one]
    cases decide ((0 : Int) < i) <;> simp only [cond_true, cond_false, Option.getD_some, ByteArray.size_append] <;> omega
theorem mJ (sep : ByteArray) (xs : List ByteArray) (hl : xs.length ≤ 10000) (hs : sep.size ≤ 1000) (hx : ∀ x ∈ xs, x.size ≤ 1000) : zi Go.Proofs.Try.prog 120 [yW sC xs, S' sep] [] (S' (jnF sep xs xs.length)) [] false := by
  have hsz := u2 hs hx
  refine zj [4] Go.Proofs.Try.func120 rfl rfl ?_
  simp only [Go.Proofs.Try.ntmps120, List.length_cons, List.length_nil, Nat.reduceAdd, Nat.reduceSub, List.replicate_succ, List.replicate_zero, List.cons_append, List.nil_append]
  repeat' first | refine zN ?_ | refine zA ?_ | refine zR [] ?_ | (refine isA ?_; refine zd rfl ?_) | (refine isL ?_; refine zV rfl (by kernel_rfl) rfl rfl ?_) | (refine zc rfl ?_; refine zU rfl (by kernel_rfl) rfl rfl ?_) | refine zC ?_ | refine zD _ rfl (by kernel_rfl) ?_ | refine zW rfl ?_ | refine zX rfl ?_ | refine zE ?_ | with_reducible refine zM ?_ | refine zJ ?_ | refine zK ?_ | (with_reducible first | refine zO ?_ | refine zP ?_ | refine zG ?_ | refine zI ?_ | refine zH ?_) | refine zQ ?_
  refine yV (α := { i : Nat // i ≤ xs.length }) (fun i => ⟨[.any, S' sep, .any, .any, .any, S' (jnF sep xs i.1), .any, .any, yW sC xs, I xs.length, I i.1, .any, .any, .any, .any, .any, .any, .any, .any, .any, .any, .any, .any, .any, .any], [], 0⟩) (fun i => xs.length - i.1) ⟨0, Nat.zero_le _⟩ ?_ ?_
  · exact xW rfl (by repeat' first | exact EqS.nil | refine EqS.any ?_ | refine EqS.same rfl ?_)
  · rintro ⟨i, hi⟩
    have hz1 := hsz i hi
    repeat' first | refine zN ?_ | refine zA ?_ | refine zR [] ?_ | (refine isA ?_; refine zd rfl ?_) | (refine isL ?_; refine zV rfl (by kernel_rfl) rfl rfl ?_) | (refine zc rfl ?_; refine zU rfl (by kernel_rfl) rfl rfl ?_) | refine zC ?_ | refine zD _ rfl (by kernel_rfl) ?_ | refine zW rfl ?_ | refine zX rfl ?_ | refine zE ?_ | with_reducible refine zM ?_ | refine zJ ?_ | refine zK ?_ | (with_reducible first | refine zO ?_ | refine zP ?_ | refine zG ?_ | refine zI ?_ | refine zH ?_) | refine zQ ?_
    refine zm rfl (fun h => ?_) (fun h => ?_)
    · have hlt : i < xs.length := by simpa using h
      obtain ⟨z, hz⟩ : ∃ z, xs[i]? = some z := ⟨_, List.getElem?_eq_getElem hlt⟩
      repeat' first | refine zN ?_ | refine zA ?_ | refine zR [] ?_ | (refine isA ?_; refine zd rfl ?_) | (refine isL ?_; refine zV rfl (by kernel_rfl) rfl rfl ?_) | (refine zc rfl ?_; refine zU rfl (by kernel_rfl) rfl rfl ?_) | (refine xH ?_; refine zb rfl (yR (t := sC) (z := z) rfl rfl rfl rfl (Int.natCast_nonneg i) hz) rfl ?_) | (refine xG rfl ?_; refine zY rfl (by kernel_rfl) rfl (yR (t := sC) (z := z) rfl rfl rfl rfl (Int.natCast_nonneg i) hz) rfl ?_) | refine zC ?_ | refine zD _ rfl (by kernel_rfl) ?_ | refine zW rfl ?_ | refine zX rfl ?_ | refine zE ?_ | with_reducible refine zM ?_ | refine zJ ?_ | refine zK ?_ | (with_reducible first | refine zO ?_ | refine zP ?_ | refine zG ?_ | refine zI ?_ | refine zH ?_) | refine zQ ?_
      have hzs := hx z (List.mem_of_getElem? hz)
      have hj : jnF sep xs (i + 1) = cond (decide ((0 : Int) < i)) (jnF sep xs i ++ sep) (jnF sep xs i) ++ z := by rw [jnF, hz]; rfl
      refine zm rfl (fun h1 => ?_) (fun h1 => ?_)
      · rw [h1] at hj
        repeat' first | refine zN ?_ | refine zA ?_ | refine zR [] ?_ | (refine isA ?_; refine zd rfl ?_) | (refine isL ?_; refine zV rfl (by kernel_rfl) rfl rfl ?_) | (refine zc rfl ?_; refine zU rfl (by kernel_rfl) rfl rfl ?_) | refine zb rfl (zt (a := jnF sep xs i) (b := sep) rfl rfl rfl (show (jnF sep xs i).size + sep.size ≤ 9223372036854775807 by omega)) rfl ?_ | refine zY rfl (by kernel_rfl) rfl (zt (a := jnF sep xs i) (b := sep) rfl rfl rfl (show (jnF sep xs i).size + sep.size ≤ 9223372036854775807 by omega)) rfl ?_ | refine zb rfl (zt (a := jnF sep xs i ++ sep) (b := z) rfl rfl rfl (show (jnF sep xs i ++ sep).size + z.size ≤ 9223372036854775807 by rw [ByteArray.size_append]; omega)) rfl ?_ | refine zY rfl (by kernel_rfl) rfl (zt (a := jnF sep xs i ++ sep) (b := z) rfl rfl rfl (show (jnF sep xs i ++ sep).size + z.size ≤ 9223372036854775807 by rw [ByteArray.size_append]; omega)) rfl ?_ | refine zC ?_ | refine zD _ rfl (by kernel_rfl) ?_ | refine zW rfl ?_ | refine zX rfl ?_ | refine zE ?_ | with_reducible refine zM ?_ | refine zJ ?_ | refine zK ?_ | (with_reducible first | refine zO ?_ | refine zP ?_ | refine zG ?_ | refine zI ?_ | refine zH ?_) | refine zQ ?_
        refine ⟨⟨i + 1, hlt⟩, by simp only; omega, ?_⟩
        exact xW rfl (by repeat' first | exact EqS.nil | refine EqS.any ?_ | refine EqS.same rfl ?_ | refine EqS.same (u6 hlt (by omega)) ?_ | refine EqS.same (congrArg (fun s => V.k (.string s)) hj) ?_ | refine EqS.same (congrArg (fun s => V.k (.string s)) hj.symm) ?_)
      · rw [h1] at hj
        repeat' first | refine zN ?_ | refine zA ?_ | refine zR [] ?_ | (refine isA ?_; refine zd rfl ?_) | (refine isL ?_; refine zV rfl (by kernel_rfl) rfl rfl ?_) | (refine zc rfl ?_; refine zU rfl (by kernel_rfl) rfl rfl ?_) | refine zb rfl (zt (a := jnF sep xs i) (b := z) rfl rfl rfl (show (jnF sep xs i).size + z.size ≤ 9223372036854775807 by omega)) rfl ?_ | refine zY rfl (by kernel_rfl) rfl (zt (a := jnF sep xs i) (b := z) rfl rfl rfl (show (jnF sep xs i).size + z.size ≤ 9223372036854775807 by omega)) rfl ?_ | refine zC ?_ | refine zD _ rfl (by kernel_rfl) ?_ | refine zW rfl ?_ | refine zX rfl ?_ | refine zE ?_ | with_reducible refine zM ?_ | refine zJ ?_ | refine zK ?_ | (with_reducible first | refine zO ?_ | refine zP ?_ | refine zG ?_ | refine zI ?_ | refine zH ?_) | refine zQ ?_
        refine ⟨⟨i + 1, hlt⟩, by simp only; omega, ?_⟩
        exact xW rfl (by repeat' first | exact EqS.nil | refine EqS.any ?_ | refine EqS.same rfl ?_ | refine EqS.same (u6 hlt (by omega)) ?_ | refine EqS.same (congrArg (fun s => V.k (.string s)) hj) ?_ | refine EqS.same (congrArg (fun s => V.k (.string s)) hj.symm) ?_)
    · have hge : i = xs.length := by
        have : ¬ ((i : Int) < xs.length) := by simpa using h
        omega
      subst hge
      repeat' first | refine zN ?_ | refine zA ?_ | refine zR [] ?_ | (refine isA ?_; refine zd rfl ?_) | (refine isL ?_; refine zV rfl (by kernel_rfl) rfl rfl ?_) | (refine zc rfl ?_; refine zU rfl (by kernel_rfl) rfl rfl ?_) | exact xN rfl rfl rfl | refine zC ?_ | refine zD _ rfl (by kernel_rfl) ?_ | refine zW rfl ?_ | refine zX rfl ?_ | refine zE ?_ | with_reducible refine zM ?_ | refine zJ ?_ | refine zK ?_ | (with_reducible first | refine zO ?_ | refine zP ?_ | refine zG ?_ | refine zI ?_ | refine zH ?_) | refine zQ ?_
end Go.Proofs.Ytkcicbigpbdjpaa.Ab
