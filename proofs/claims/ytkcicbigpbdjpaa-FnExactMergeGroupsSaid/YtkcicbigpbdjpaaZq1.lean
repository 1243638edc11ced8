/- What the row FnExactMergeGroups leans on, part 2: a walk over abstract values, and contracts proved with it. -/
import Derived.WalkKit
import Derived.Laws.Rows
import Derived.RowKit
import Derived.OrdersHeld
import Derived.Deep.RegionHeld3
import Derived.Deep.Draws
import Derived.BigCall
import Derived.KernelRfl
import Derived.Deep.Slices
import Derived.ChangeArms
import Derived.ChangeShapes
import Derived.WideShapes
import Derived.Laws.StructEq
import Derived.Lib.Overlaps
import Derived.Test.YtkcicbigpbdjpaaProg
import Derived.MapKept
import Derived.Carry
import Derived.Shelf.SlSortCmp.WholeK
import Derived.Test.YtkcicbigpbdjpaaZq0
set_option linter.unusedVariables false
set_option linter.unusedSimpArgs false
set_option maxRecDepth 20000
set_option maxHeartbeats 8000000
namespace Go.Proofs.Ytkcicbigpbdjpaa.Ab
open Go.RowKit
section
variable {C : Cx} {A A' : Nat → Prop} {φ φ' : List Hd} {H : List Reg} {w w' : World} {P : Program} {o : Oper} {ρ : Operand → V} {ops : Array Oper} {rest : List Oper} {Q : Exit → St → Prop} {S T : St}
mutual
inductive Nz (k : Nat) : V → V → Prop where
  | same (v : V) : Nz k v v
  | nil : Nz k (.k (.slice none 0 0)) (.sl k 0 0)
  | agg {cs ds : List V} (h : NzS k cs ds) : Nz k (.agg cs) (.agg ds)
  | tup {cs ds : List V} (h : NzS k cs ds) : Nz k (.tup cs) (.tup ds)
inductive NzS (k : Nat) : List V → List V → Prop where
  | rest (cs : List V) : NzS k cs cs
  | cons {c d : V} {cs ds : List V} (h : Nz k c d) (hs : NzS k cs ds) : NzS k (c :: cs) (d :: ds)
end
theorem NzS.length {k : Nat} : ∀ {cs ds : List V}, NzS k cs ds → ds.length = cs.length
  | _, _, .rest _ => rfl
  | _, _, .cons h hs => by simp [NzS.length hs]
inductive NzR (k : Nat) : List Reg → List Reg → Prop where
  | rest (H : List Reg) : NzR k H H
  | cons {r : Reg} {cs : List V} {H K : List Reg} (h : NzS k r.cells cs) (hs : NzR k H K) : NzR k (r :: H) ({ r with cells := cs } :: K)
theorem NzR.get {k : Nat} : ∀ {H K : List Reg}, NzR k H K → K.length = H.length ∧ ∀ (i : Nat) (r' : Reg), K[i]? = some r' → ∃ r, H[i]? = some r ∧ r'.mode = r.mode ∧ r'.esz = r.esz ∧ r'.e = r.e ∧ NzS k r.cells r'.cells
  | _, _, .rest H => ⟨rfl, fun i r h => ⟨r, h, rfl, rfl, rfl, .rest _⟩⟩
  | _, _, .cons h hs => by
    obtain ⟨e1, e2⟩ := hs.get
    refine ⟨by simp [e1], fun i r' hi => ?_⟩
    cases i with
    | zero => simp at hi; subst hi; exact ⟨_, rfl, rfl, rfl, rfl, h⟩
    | succ i => simp only [List.getElem?_cons_succ] at hi ⊢; exact e2 i r' hi
mutual
theorem Nz.rel {k : Nat} {hd : Hd} (hφ : φ[k]? = some hd) (hb : hd.blk = none) (hc : hd.cap = 0) : ∀ {v v' : V} {x : Value}, Nz k v v' → Rel A w φ v x → Rel A w φ v' x
  | _, _, x, .same v, h => h
  | _, _, x, .nil, h => by
    rw [Rel] at h
    rw [Rel]
    exact ⟨hd, hφ, Or.inl ⟨by rw [h, hb, hc]; rfl, by omega⟩⟩
  | _, _, x, .agg hs, h => by
    rw [Rel] at h ⊢
    obtain ⟨xs, e1, e2, h1⟩ := h
    exact ⟨xs, e1, e2.trans (NzS.length hs).symm, NzS.rels hφ hb hc hs h1⟩
  | _, _, x, .tup hs, h => by
    rw [Rel] at h ⊢
    obtain ⟨xs, e1, e2, h1⟩ := h
    exact ⟨xs, e1, e2.trans (NzS.length hs).symm, NzS.rels hφ hb hc hs h1⟩
theorem NzS.rels {k : Nat} {hd : Hd} (hφ : φ[k]? = some hd) (hb : hd.blk = none) (hc : hd.cap = 0) : ∀ {cs ds : List V} {g : Nat → Option Value}, NzS k cs ds → zG A w φ cs g → zG A w φ ds g
  | _, _, g, .rest _, h => h
  | _, _, g, .cons h hs, hr => by
    rw [zG] at hr ⊢
    obtain ⟨⟨y, h1, h2⟩, h3⟩ := hr
    exact ⟨⟨y, h1, Nz.rel hφ hb hc h h2⟩, NzS.rels hφ hb hc hs h3⟩
end
mutual
inductive Vw (H : List Reg) : V → V → Prop where
  | same (v : V) : Vw H v v
  | pur {v v' : V} (h : Pur false H v v') : Vw H v v'
  | agg {cs ds : List V} (h : VwS H cs ds) : Vw H (.agg cs) (.agg ds)
  | tup {cs ds : List V} (h : VwS H cs ds) : Vw H (.tup cs) (.tup ds)
inductive VwS (H : List Reg) : List V → List V → Prop where
  | rest (cs : List V) : VwS H cs cs
  | cons {c d : V} {cs ds : List V} (h : Vw H c d) (hs : VwS H cs ds) : VwS H (c :: cs) (d :: ds)
end
theorem VwS.length : ∀ {cs ds : List V}, VwS H cs ds → ds.length = cs.length
  | _, _, .rest _ => rfl
  | _, _, .cons h hs => by simp [VwS.length hs]
theorem VwS.all {f : V → V} (hf : ∀ c, Vw H c (f c)) : ∀ cs : List V, VwS H cs (cs.map f)
  | [] => .rest _
  | c :: cs => .cons (hf c) (VwS.all hf cs)
mutual
theorem Vw.rel (hok : HeapOk A w φ H) : ∀ {v v' : V} {x : Value}, Vw H v v' → Rel A w φ v x → Rel A w φ v' x
  | _, _, x, .same _, h => h
  | _, _, x, .pur hp, h => yr (Pur.noH hp) (Pur.rel hok (fun b hb => hb) (fun h => by cases h) hp h)
  | _, _, x, .agg hs, h => by
    rw [Rel] at h ⊢
    obtain ⟨xs, e1, e2, h1⟩ := h
    exact ⟨xs, e1, e2.trans (VwS.length hs).symm, VwS.rels hok hs h1⟩
  | _, _, x, .tup hs, h => by
    rw [Rel] at h ⊢
    obtain ⟨xs, e1, e2, h1⟩ := h
    exact ⟨xs, e1, e2.trans (VwS.length hs).symm, VwS.rels hok hs h1⟩
theorem VwS.rels (hok : HeapOk A w φ H) : ∀ {cs ds : List V} {g : Nat → Option Value}, VwS H cs ds → zG A w φ cs g → zG A w φ ds g
  | _, _, g, .rest _, h => h
  | _, _, g, .cons h hs, hr => by
    rw [zG] at hr ⊢
    obtain ⟨⟨y, h1, h2⟩, h3⟩ := hr
    exact ⟨⟨y, h1, Vw.rel hok h h2⟩, VwS.rels hok hs h3⟩
end
inductive VwR (H : List Reg) : List Reg → List Reg → Prop where
  | rest (L : List Reg) : VwR H L L
  | cons {r : Reg} {cs : List V} {L K : List Reg} (h : VwS H r.cells cs) (hs : VwR H L K) : VwR H (r :: L) ({ r with cells := cs } :: K)
theorem VwR.get {G : List Reg} : ∀ {H K : List Reg}, VwR G H K → K.length = H.length ∧ ∀ (i : Nat) (r' : Reg), K[i]? = some r' → ∃ r, H[i]? = some r ∧ r'.mode = r.mode ∧ r'.esz = r.esz ∧ r'.e = r.e ∧ VwS G r.cells r'.cells
  | _, _, .rest H => ⟨rfl, fun i r h => ⟨r, h, rfl, rfl, rfl, .rest _⟩⟩
  | _, _, .cons h hs => by
    obtain ⟨e1, e2⟩ := hs.get
    refine ⟨by simp [e1], fun i r' hi => ?_⟩
    cases i with
    | zero => simp at hi; subst hi; exact ⟨_, rfl, rfl, rfl, rfl, h⟩
    | succ i => simp only [List.getElem?_cons_succ] at hi ⊢; exact e2 i r' hi
end
end Go.Proofs.Ytkcicbigpbdjpaa.Ab
namespace Go.Proofs.Ytkcicbigpbdjpaa.Ab
open Go.RowKit
def bkI (hs : List Nat) (n i : Nat) : Nat := (hs[i]?).getD (n + (i - hs.length))
mutual
inductive Bk (hs : List Nat) (n : Nat) : V → V → Prop where
  | same {v : V} (h : noH v = true) : Bk hs n v v
  | sl {i h off m : Nat} (h1 : bkI hs n i = h) : Bk hs n (.sl i off m) (.sl h off m)
  | ptr {i h off : Nat} (h1 : bkI hs n i = h) : Bk hs n (.ptr i off) (.ptr h off)
  | agg {cs ds : List V} (h : BkS hs n cs ds) : Bk hs n (.agg cs) (.agg ds)
  | tup {cs ds : List V} (h : BkS hs n cs ds) : Bk hs n (.tup cs) (.tup ds)
inductive BkS (hs : List Nat) (n : Nat) : List V → List V → Prop where
  | rest {cs : List V} (h : NoH cs) : BkS hs n cs cs
  | cons {c d : V} {cs ds : List V} (h : Bk hs n c d) (ht : BkS hs n cs ds) : BkS hs n (c :: cs) (d :: ds)
end
theorem BkS.nil {hs : List Nat} {n : Nat} : BkS hs n [] [] := .rest fun c hc => by cases hc
theorem BkS.length {hs : List Nat} {n : Nat} : ∀ {cs ds : List V}, BkS hs n cs ds → ds.length = cs.length
  | _, _, .rest _ => rfl
  | _, _, .cons h ht => by simp [BkS.length ht]
theorem BkS.map {α : Type} {hs : List Nat} {n : Nat} {f g : α → V} : ∀ (l : List α), (∀ x ∈ l, Bk hs n (f x) (g x)) → BkS hs n (l.map f) (l.map g)
  | [], _ => .nil
  | x :: l, h => .cons (h x (List.mem_cons_self ..)) (BkS.map l fun y hy => h y (List.mem_cons_of_mem _ hy))
section
variable {A : Nat → Prop} {w : World} {φ φ' : List Hd} {hs : List Nat} {n : Nat}
mutual
theorem Bk.rel (hg : ∀ (i : Nat) hd, φ'[i]? = some hd → φ[bkI hs n i]? = some hd) : ∀ {v v' : V} {x : Value}, Bk hs n v v' → Rel A w φ' v x → Rel A w φ v' x
  | v, _, x, .same h, hr => yr h hr
  | _, _, x, .sl h1, hr => by
    rw [Rel] at hr ⊢
    obtain ⟨hd, h2, h3⟩ := hr
    exact ⟨hd, h1 ▸ hg _ _ h2, h3⟩
  | _, _, x, .ptr h1, hr => by
    rw [Rel] at hr ⊢
    obtain ⟨hd, b, h2, h3⟩ := hr
    exact ⟨hd, b, h1 ▸ hg _ _ h2, h3⟩
  | .agg cs, .agg ds, x, .agg h, hr => by
    rw [Rel] at hr ⊢
    obtain ⟨xs, e1, e2, h2⟩ := hr
    exact ⟨xs, e1, e2.trans (BkS.length h).symm, BkS.rels hg h h2⟩
  | .tup cs, .tup ds, x, .tup h, hr => by
    rw [Rel] at hr ⊢
    obtain ⟨xs, e1, e2, h2⟩ := hr
    exact ⟨xs, e1, e2.trans (BkS.length h).symm, BkS.rels hg h h2⟩
theorem BkS.rels (hg : ∀ (i : Nat) hd, φ'[i]? = some hd → φ[bkI hs n i]? = some hd) : ∀ {cs ds : List V} {g : Nat → Option Value}, BkS hs n cs ds → zG A w φ' cs g → zG A w φ ds g
  | _, _, g, .rest h, hr => yX h hr
  | c :: cs, _, g, .cons h ht, hr => by
    rw [zG] at hr ⊢
    obtain ⟨⟨y, h1, h2⟩, h3⟩ := hr
    exact ⟨⟨y, h1, Bk.rel hg h h2⟩, BkS.rels hg ht h3⟩
end
end
theorem wo {hs : List Nat} : ∀ {cs : List V}, NoH cs → PassS hs cs cs
  | [], _ => .nil
  | c :: cs, h => .cons (.same (h c (List.mem_cons_self ..))) (wo fun d hd => h d (List.mem_cons_of_mem _ hd))
inductive BkR (hs : List Nat) (n : Nat) : List Reg → List Reg → Prop where
  | nil : BkR hs n [] []
  | cons {R : Reg} {cs : List V} {K K2 : List Reg} (h : BkS hs n R.cells cs) (ht : BkR hs n K K2) : BkR hs n (R :: K) ({ R with cells := cs } :: K2)
theorem BkR.get {hs : List Nat} {n : Nat} : ∀ {K K2 : List Reg}, BkR hs n K K2 → K2.length = K.length ∧ ∀ (i : Nat) (r : Reg), K2[i]? = some r → ∃ R, K[i]? = some R ∧ r.mode = R.mode ∧ r.esz = R.esz ∧ r.e = R.e ∧ BkS hs n R.cells r.cells
  | _, _, .nil => ⟨rfl, fun i r h => by simp at h⟩
  | _, _, .cons h ht => by
    obtain ⟨e1, e2⟩ := ht.get
    refine ⟨by simp [e1], fun i r hi => ?_⟩
    cases i with
    | zero => simp at hi; subst hi; exact ⟨_, rfl, rfl, rfl, rfl, h⟩
    | succ i => simp only [List.getElem?_cons_succ] at hi ⊢; exact e2 i r hi
inductive GiveN (H : List Reg) (hs0 : List Nat) (n : Nat) : List Nat → List Reg → List Reg → List Reg → Prop where
  | nil : GiveN H hs0 n [] [] [] []
  | cons {h : Nat} {R0 R' : Reg} {cs cs2 : List V} {hs : List Nat} {Rs Rs' R2 : List Reg} (hH : H[h]? = some R0) (hm : R0.mode = 0) (hp : PassS hs0 R0.cells cs) (hm' : R'.mode ≠ 1) (hb : BkS hs0 n R'.cells cs2) (ht : GiveN H hs0 n hs Rs Rs' R2) :
      GiveN H hs0 n (h :: hs) ({ R0 with cells := cs } :: Rs) (R' :: Rs') ({ R' with cells := cs2 } :: R2)
theorem GiveN.spec {H : List Reg} {hs0 : List Nat} {n : Nat} : ∀ {hs : List Nat} {Rs Rs' R2 : List Reg}, GiveN H hs0 n hs Rs Rs' R2 → Rs.length = hs.length ∧ Rs'.length = hs.length ∧ R2.length = hs.length ∧ ∀ (i h : Nat), hs[i]? = some h →
    ∃ R0 R R' RR, H[h]? = some R0 ∧ R0.mode = 0 ∧ Rs[i]? = some R ∧ R.mode = 0 ∧ R.esz = R0.esz ∧ R.e = R0.e ∧ PassS hs0 R0.cells R.cells ∧ Rs'[i]? = some R' ∧ R'.mode ≠ 1 ∧ R2[i]? = some RR ∧ RR.mode = R'.mode ∧ RR.esz = R'.esz ∧ RR.e = R'.e ∧ BkS hs0 n R'.cells RR.cells
  | _, _, _, _, .nil => ⟨rfl, rfl, rfl, fun i h hi => by simp at hi⟩
  | _, _, _, _, .cons hH hm hp hm' hb ht => by
    obtain ⟨e1, e2, e3, e4⟩ := ht.spec
    refine ⟨by simp [e1], by simp [e2], by simp [e3], fun i h hi => ?_⟩
    cases i with
    | zero =>
      simp at hi
      subst hi
      exact ⟨_, _, _, _, hH, hm, rfl, hm, rfl, rfl, hp, rfl, hm', rfl, rfl, rfl, rfl, hb⟩
    | succ i =>
      simp only [List.getElem?_cons_succ] at hi ⊢
      exact e4 i h hi
section
variable {P : Program} {o : Oper} {ρ : Operand → V} {H : List Reg}
end
end Go.Proofs.Ytkcicbigpbdjpaa.Ab
namespace Go.Proofs.Ytkcicbigpbdjpaa.Ab
open Go.RowKit
section
variable {P : Program} {o : Oper} {ρ : Operand → V} {H : List Reg} {l : List V}
theorem wq {t t' : TypeId} {x y : Operand} {k : IntKind} {a : Int} (ho : o.op = .binOp .neq t x y t') (hx : ρ x = .k (.int k a)) (hy : ρ y = .k (.int k a)) : zZ P o ρ H (B false) H := by
  have := vH (P := P) (H := H) ho hx hy
  simpa using this
end
section
variable {P : Program} {T : Tab} {ops : Array Oper} {ds d : List Nat} {n : Nat} {Q : Exit → St → Prop} {o : Oper} {l l' : List V} {H K : List Reg} {m : Nat}
end
section
variable {P : Program} {o : Oper} {ρ : Operand → V} {K : List Reg}
theorem vi {α : Type} (T : Ty α) {xs : List α} {i off : Nat} {z : α} {v : V} (hz : xs[i]? = some z) (hv : (T.enc z)[off]? = some v) : (T.flat xs)[i * T.n + off]? = some v := by
  rw [← List.getElem?_drop, wH T hz]
  exact zn hv
theorem qJ {α : Type} {T : Ty α} {t e h i off : Nat} {x : Operand} {xs : List α} {z : α} {v : V} [ht : Sc P t] (ho : o.op = .load t x) (hx : ρ x = .ptr h (i * T.n + off)) (hH : K[h]? = some (yf T e xs)) (hz : xs[i]? = some z) (hv : (T.enc z)[off]? = some v) : zZ P o ρ K v K :=
  xR ho hx hH (Nat.zero_le _) (vi T hz hv)
theorem qK {α : Type} {T : Ty α} {t e h i : Nat} {x : Operand} {xs : List α} {z : α} [ht : Ag P t T.n] (ho : o.op = .load t x) (hx : ρ x = .ptr h (i * T.n)) (hH : K[h]? = some (yf T e xs)) (hz : xs[i]? = some z) : zZ P o ρ K (.agg (T.enc z)) K := by
  have hlt := (List.getElem?_eq_some_iff.1 hz).1
  have := y9 (P := P) (o := o) (ρ := ρ) (H := K) (n := T.n) ho hx hH (Nat.zero_le _) (by
    show i * T.n + T.n ≤ (T.flat xs).length
    rw [zi, ← Nat.succ_mul]
    exact Nat.mul_le_mul_right _ hlt)
  have e : ((yf T e xs).cells.drop (i * T.n)).take T.n = T.enc z := by
    show ((T.flat xs).drop (i * T.n)).take T.n = _
    rw [wH T hz, ← T.len z, List.take_left']
    rfl
  rw [e] at this
  exact this
end
theorem GiveN.flat {H : List Reg} {hs0 : List Nat} {n h : Nat} {R R' : Reg} {hs : List Nat} {Rs Rs' R2 : List Reg} (hH : H[h]? = some R) (hm : R.mode = 0) (hm' : R'.mode = 0) (hN : NoH R.cells) (hN' : NoH R'.cells) (ht : GiveN H hs0 n hs Rs Rs' R2) : GiveN H hs0 n (h :: hs) (R :: Rs) (R' :: Rs') (R' :: R2) :=
  .cons (R0 := R) (R' := R') (cs := R.cells) (cs2 := R'.cells) hH hm (wo hN) (by omega) (.rest hN') ht
end Go.Proofs.Ytkcicbigpbdjpaa.Ab
namespace Go.Proofs.Ytkcicbigpbdjpaa.Ab
open Go.RowKit
def shR (k : Nat) (r : Reg) : Reg := { r with cells := x9 k r.cells }
section
variable {A A' : Nat → Prop} {w w' : World} {φ φ' : List Hd} {H : List Reg}
end
section
variable {P : Program} {o : Oper} {ρ : Operand → V} {H : List Reg}
end
section
variable {α : Type} {T : Ty α} {e : TypeId}
def nC (b : Nat) : List (List α) → List V
  | [] => []
  | x :: xs => .sl b 0 x.length :: nC (b + 1) xs
def nR (T : Ty α) (e : TypeId) (rs : List (List α)) : List Reg := rs.map (yf T e)
def lsT (T : Ty α) : Ty (List α) := ⟨1, fun xs => [x2 T xs], fun _ => rfl, by decide, fun r c hc => by
  simp only [List.mem_cons, List.not_mem_nil, or_false] at hc
  subst hc
  exact ⟨rfl, rfl⟩⟩
end
def FlatS (cs : List V) : Prop := ∀ c ∈ cs, (match c with | .k _ | .sl _ _ _ | .ptr _ _ | .any => true | _ => false) = true
section
variable {l : List V} {H : List Reg}
inductive EqS : List V → List V → Prop where
  | nil : EqS [] []
  | any {d : V} {cs ds : List V} (h : EqS cs ds) : EqS (.any :: cs) (d :: ds)
  | same {c d : V} {cs ds : List V} (hc : d = c) (h : EqS cs ds) : EqS (c :: cs) (d :: ds)
theorem EqS.length : ∀ {cs ds : List V}, EqS cs ds → ds.length = cs.length
  | _, _, .nil => rfl
  | _, _, .any h => by simp [EqS.length h]
  | _, _, .same _ h => by simp [EqS.length h]
theorem EqS.rels {A : Nat → Prop} {w : World} {φ : List Hd} : ∀ {cs ds : List V} {g : Nat → Option Value}, EqS cs ds → zG A w φ ds g → zG A w φ cs g
  | _, _, g, .nil, h => h
  | _, _, g, .any hs, h => by
    rw [zG] at h ⊢
    obtain ⟨⟨y, h1, h2⟩, h3⟩ := h
    exact ⟨⟨y, h1, by simp [Rel]⟩, EqS.rels hs h3⟩
  | _, _, g, .same hc hs, h => by
    subst hc
    rw [zG] at h ⊢
    obtain ⟨h1, h3⟩ := h
    exact ⟨h1, EqS.rels hs h3⟩
theorem tW {l' : List V} {H H' : List Reg} {m : Nat} (hH : H' = H) (ht : EqS l' l) : Sub ⟨l', H', m⟩ ⟨l, H, m⟩ := fun C φ a w hI => by
  subst hH
  obtain ⟨hm0, ⟨A, hA, hr⟩, hs, hd⟩ := hI
  exact ⟨φ, hm0, ⟨A, hA, EqS.rels ht hr⟩, hs.trans (EqS.length ht), hd⟩
end
section
variable {P : Program} {o : Oper} {ρ : Operand → V} {H : List Reg}
end
end Go.Proofs.Ytkcicbigpbdjpaa.Ab
namespace Go.Proofs.Ytkcicbigpbdjpaa.Ab
open Go.RowKit
section
variable {α : Type} {T : Ty α} {e : TypeId}
end
section
variable {P : Program} {o : Oper} {ρ : Operand → V} {H : List Reg}
end
end Go.Proofs.Ytkcicbigpbdjpaa.Ab
namespace Go.Proofs.Ytkcicbigpbdjpaa.Ab
theorem sc2 : Sc Go.Proofs.Try.prog 2 := zy Go.Proofs.Try.underlying2 rfl (by kernel_rfl)
instance : Sc Go.Proofs.Try.prog 2 := sc2
theorem ze2 : Ze Go.Proofs.Try.prog 2 [.int .i64 (0)] := zh (z := .int .i64 (0)) (by kernel_rfl) rfl
instance : Ze Go.Proofs.Try.prog 2 [.int .i64 (0)] := ze2
theorem ik2 : Ik Go.Proofs.Try.prog 2 .i64 := ⟨Go.Proofs.Try.underlying2⟩
instance : Ik Go.Proofs.Try.prog 2 .i64 := ik2
theorem sc3 : Sc Go.Proofs.Try.prog 3 := zy Go.Proofs.Try.underlying3 rfl (by kernel_rfl)
instance : Sc Go.Proofs.Try.prog 3 := sc3
theorem ze3 : Ze Go.Proofs.Try.prog 3 [.int .i64 (0)] := zh (z := .int .i64 (0)) (by kernel_rfl) rfl
instance : Ze Go.Proofs.Try.prog 3 [.int .i64 (0)] := ze3
theorem ik3 : Ik Go.Proofs.Try.prog 3 .i64 := ⟨Go.Proofs.Try.underlying3⟩
instance : Ik Go.Proofs.Try.prog 3 .i64 := ik3
theorem sc4 : Sc Go.Proofs.Try.prog 4 := zy Go.Proofs.Try.underlying4 rfl (by kernel_rfl)
instance : Sc Go.Proofs.Try.prog 4 := sc4
theorem ze4 : Ze Go.Proofs.Try.prog 4 [.bool false] := zh (z := .bool false) (by kernel_rfl) rfl
instance : Ze Go.Proofs.Try.prog 4 [.bool false] := ze4
theorem bl4 : Go.Proofs.Try.prog.underlying 4 = some .bool := Go.Proofs.Try.underlying4
theorem sc5 : Sc Go.Proofs.Try.prog 5 := zy Go.Proofs.Try.underlying5 rfl (by kernel_rfl)
instance : Sc Go.Proofs.Try.prog 5 := sc5
theorem ze5 : Ze Go.Proofs.Try.prog 5 [.int .u8 (0)] := zh (z := .int .u8 (0)) (by kernel_rfl) rfl
instance : Ze Go.Proofs.Try.prog 5 [.int .u8 (0)] := ze5
theorem ik5 : Ik Go.Proofs.Try.prog 5 .u8 := ⟨Go.Proofs.Try.underlying5⟩
instance : Ik Go.Proofs.Try.prog 5 .u8 := ik5
theorem sc9 : Sc Go.Proofs.Try.prog 9 := zy Go.Proofs.Try.underlying9 rfl (by kernel_rfl)
instance : Sc Go.Proofs.Try.prog 9 := sc9
theorem ze9 : Ze Go.Proofs.Try.prog 9 [.string .empty] := zh (z := .string .empty) (by kernel_rfl) rfl
instance : Ze Go.Proofs.Try.prog 9 [.string .empty] := ze9
theorem str9 : Str Go.Proofs.Try.prog 9 := ⟨Go.Proofs.Try.underlying9⟩
instance : Str Go.Proofs.Try.prog 9 := str9
theorem sc12 : Sc Go.Proofs.Try.prog 12 := zy Go.Proofs.Try.underlying12 rfl (by kernel_rfl)
instance : Sc Go.Proofs.Try.prog 12 := sc12
theorem ze12 : Ze Go.Proofs.Try.prog 12 [.int .u64 (0)] := zh (z := .int .u64 (0)) (by kernel_rfl) rfl
instance : Ze Go.Proofs.Try.prog 12 [.int .u64 (0)] := ze12
theorem ik12 : Ik Go.Proofs.Try.prog 12 .u64 := ⟨Go.Proofs.Try.underlying12⟩
instance : Ik Go.Proofs.Try.prog 12 .u64 := ik12
theorem ag13 : Ag Go.Proofs.Try.prog 13 2 := ya Go.Proofs.Try.underlying13 (by kernel_rfl)
instance : Ag Go.Proofs.Try.prog 13 2 := ag13
theorem so : Fd Go.Proofs.Try.prog 13 0 0 1 false := zd Go.Proofs.Try.underlying13 (off := 0) (ft := 9) rfl Go.Proofs.Try.underlying9 (n := 1) (by kernel_rfl) rfl (by decide)
instance : Fd Go.Proofs.Try.prog 13 0 0 1 false := so
theorem sn : Fd Go.Proofs.Try.prog 13 1 1 1 false := zd Go.Proofs.Try.underlying13 (off := 1) (ft := 12) rfl Go.Proofs.Try.underlying12 (n := 1) (by kernel_rfl) rfl (by decide)
instance : Fd Go.Proofs.Try.prog 13 1 1 1 false := sn
theorem pl13 : Pl Go.Proofs.Try.prog 13 [(0, 1), (1, 1)] := yY Go.Proofs.Try.underlying13 (by kernel_rfl)
instance : Pl Go.Proofs.Try.prog 13 [(0, 1), (1, 1)] := pl13
theorem ze13 : Ze Go.Proofs.Try.prog 13 [.string .empty, .int .u64 (0)] := zh (z := .agg #[.string .empty, .int .u64 (0)]) (by kernel_rfl) rfl
instance : Ze Go.Proofs.Try.prog 13 [.string .empty, .int .u64 (0)] := ze13
theorem sc21 : Sc Go.Proofs.Try.prog 21 := zy Go.Proofs.Try.underlying21 rfl (by kernel_rfl)
instance : Sc Go.Proofs.Try.prog 21 := sc21
theorem ze21 : Ze Go.Proofs.Try.prog 21 [.int .i32 (0)] := zh (z := .int .i32 (0)) (by kernel_rfl) rfl
instance : Ze Go.Proofs.Try.prog 21 [.int .i32 (0)] := ze21
theorem ik21 : Ik Go.Proofs.Try.prog 21 .i32 := ⟨Go.Proofs.Try.underlying21⟩
instance : Ik Go.Proofs.Try.prog 21 .i32 := ik21
theorem sc22 : Sc Go.Proofs.Try.prog 22 := zy Go.Proofs.Try.underlying22 rfl (by kernel_rfl)
instance : Sc Go.Proofs.Try.prog 22 := sc22
theorem ze22 : Ze Go.Proofs.Try.prog 22 [.slice none 0 0] := zh (z := .slice none 0 0) (by kernel_rfl) rfl
instance : Ze Go.Proofs.Try.prog 22 [.slice none 0 0] := ze22
theorem sl22 : Sl Go.Proofs.Try.prog 22 5 1 1 := xA (z := .int .u8 (0)) Go.Proofs.Try.underlying22 (by kernel_rfl) rfl (by decide)
instance : Sl Go.Proofs.Try.prog 22 5 1 1 := sl22
theorem sc24 : Sc Go.Proofs.Try.prog 24 := zy Go.Proofs.Try.underlying24 rfl (by kernel_rfl)
instance : Sc Go.Proofs.Try.prog 24 := sc24
theorem ze24 : Ze Go.Proofs.Try.prog 24 [.slice none 0 0] := zh (z := .slice none 0 0) (by kernel_rfl) rfl
instance : Ze Go.Proofs.Try.prog 24 [.slice none 0 0] := ze24
theorem sl24 : Sl Go.Proofs.Try.prog 24 71 3 24 := xA (z := .agg #[.int .i64 (0), .int .i64 (0), .int .i64 (0)]) Go.Proofs.Try.underlying24 (by kernel_rfl) rfl (by decide)
instance : Sl Go.Proofs.Try.prog 24 71 3 24 := sl24
theorem sc27 : Sc Go.Proofs.Try.prog 27 := zy Go.Proofs.Try.underlying27 rfl (by kernel_rfl)
instance : Sc Go.Proofs.Try.prog 27 := sc27
theorem ze27 : Ze Go.Proofs.Try.prog 27 [.slice none 0 0] := zh (z := .slice none 0 0) (by kernel_rfl) rfl
instance : Ze Go.Proofs.Try.prog 27 [.slice none 0 0] := ze27
theorem sl27 : Sl Go.Proofs.Try.prog 27 39 1 24 := xA (z := .agg #[.slice none 0 0]) Go.Proofs.Try.underlying27 (by kernel_rfl) rfl (by decide)
instance : Sl Go.Proofs.Try.prog 27 39 1 24 := sl27
theorem ag38 : Ag Go.Proofs.Try.prog 38 1 := ya Go.Proofs.Try.underlying38 (by kernel_rfl)
instance : Ag Go.Proofs.Try.prog 38 1 := ag38
theorem sm : Fd Go.Proofs.Try.prog 38 0 0 1 false := zd Go.Proofs.Try.underlying38 (off := 0) (ft := 24) rfl Go.Proofs.Try.underlying24 (n := 1) (by kernel_rfl) rfl (by decide)
instance : Fd Go.Proofs.Try.prog 38 0 0 1 false := sm
theorem pl38 : Pl Go.Proofs.Try.prog 38 [(0, 1)] := yY Go.Proofs.Try.underlying38 (by kernel_rfl)
instance : Pl Go.Proofs.Try.prog 38 [(0, 1)] := pl38
theorem ze38 : Ze Go.Proofs.Try.prog 38 [.slice none 0 0] := zh (z := .agg #[.slice none 0 0]) (by kernel_rfl) rfl
instance : Ze Go.Proofs.Try.prog 38 [.slice none 0 0] := ze38
theorem ag39 : Ag Go.Proofs.Try.prog 39 1 := ya Go.Proofs.Try.underlying39 (by kernel_rfl)
instance : Ag Go.Proofs.Try.prog 39 1 := ag39
theorem sk : Fd Go.Proofs.Try.prog 39 0 0 1 false := zd Go.Proofs.Try.underlying39 (off := 0) (ft := 24) rfl Go.Proofs.Try.underlying24 (n := 1) (by kernel_rfl) rfl (by decide)
instance : Fd Go.Proofs.Try.prog 39 0 0 1 false := sk
theorem pl39 : Pl Go.Proofs.Try.prog 39 [(0, 1)] := yY Go.Proofs.Try.underlying39 (by kernel_rfl)
instance : Pl Go.Proofs.Try.prog 39 [(0, 1)] := pl39
theorem ze39 : Ze Go.Proofs.Try.prog 39 [.slice none 0 0] := zh (z := .agg #[.slice none 0 0]) (by kernel_rfl) rfl
instance : Ze Go.Proofs.Try.prog 39 [.slice none 0 0] := ze39
theorem sc40 : Sc Go.Proofs.Try.prog 40 := zy Go.Proofs.Try.underlying40 rfl (by kernel_rfl)
instance : Sc Go.Proofs.Try.prog 40 := sc40
theorem ze40 : Ze Go.Proofs.Try.prog 40 [.slice none 0 0] := zh (z := .slice none 0 0) (by kernel_rfl) rfl
instance : Ze Go.Proofs.Try.prog 40 [.slice none 0 0] := ze40
theorem sl40 : Sl Go.Proofs.Try.prog 40 118 3 24 := xA (z := .agg #[.int .i64 (0), .int .i64 (0), .int .i64 (0)]) Go.Proofs.Try.underlying40 (by kernel_rfl) rfl (by decide)
instance : Sl Go.Proofs.Try.prog 40 118 3 24 := sl40
theorem sc46 : Sc Go.Proofs.Try.prog 46 := zy Go.Proofs.Try.underlying46 rfl (by kernel_rfl)
instance : Sc Go.Proofs.Try.prog 46 := sc46
theorem ze46 : Ze Go.Proofs.Try.prog 46 [.slice none 0 0] := zh (z := .slice none 0 0) (by kernel_rfl) rfl
instance : Ze Go.Proofs.Try.prog 46 [.slice none 0 0] := ze46
theorem sl46 : Sl Go.Proofs.Try.prog 46 123 1 24 := xA (z := .agg #[.slice none 0 0]) Go.Proofs.Try.underlying46 (by kernel_rfl) rfl (by decide)
instance : Sl Go.Proofs.Try.prog 46 123 1 24 := sl46
theorem sc61 : Sc Go.Proofs.Try.prog 61 := zy Go.Proofs.Try.underlying61 rfl (by kernel_rfl)
instance : Sc Go.Proofs.Try.prog 61 := sc61
theorem ze61 : Ze Go.Proofs.Try.prog 61 [.slice none 0 0] := zh (z := .slice none 0 0) (by kernel_rfl) rfl
instance : Ze Go.Proofs.Try.prog 61 [.slice none 0 0] := ze61
theorem sl61 : Sl Go.Proofs.Try.prog 61 131 7 56 := xA (z := .agg #[.int .i64 (0), .int .i64 (0), .int .i64 (0), .int .i64 (0), .int .i64 (0), .int .i64 (0), .bool false]) Go.Proofs.Try.underlying61 (by kernel_rfl) rfl (by decide)
instance : Sl Go.Proofs.Try.prog 61 131 7 56 := sl61
theorem sc64 : Sc Go.Proofs.Try.prog 64 := zy Go.Proofs.Try.underlying64 rfl (by kernel_rfl)
instance : Sc Go.Proofs.Try.prog 64 := sc64
theorem ze64 : Ze Go.Proofs.Try.prog 64 [.slice none 0 0] := zh (z := .slice none 0 0) (by kernel_rfl) rfl
instance : Ze Go.Proofs.Try.prog 64 [.slice none 0 0] := ze64
theorem sl64 : Sl Go.Proofs.Try.prog 64 73 7 56 := xA (z := .agg #[.int .i64 (0), .int .i64 (0), .int .i64 (0), .int .i64 (0), .int .i64 (0), .int .i64 (0), .bool false]) Go.Proofs.Try.underlying64 (by kernel_rfl) rfl (by decide)
instance : Sl Go.Proofs.Try.prog 64 73 7 56 := sl64
theorem ag70 : Ag Go.Proofs.Try.prog 70 3 := ya Go.Proofs.Try.underlying70 (by kernel_rfl)
instance : Ag Go.Proofs.Try.prog 70 3 := ag70
theorem sj : Fd Go.Proofs.Try.prog 70 0 0 1 false := zd Go.Proofs.Try.underlying70 (off := 0) (ft := 3) rfl Go.Proofs.Try.underlying3 (n := 1) (by kernel_rfl) rfl (by decide)
instance : Fd Go.Proofs.Try.prog 70 0 0 1 false := sj
theorem si : Fd Go.Proofs.Try.prog 70 1 1 1 false := zd Go.Proofs.Try.underlying70 (off := 1) (ft := 3) rfl Go.Proofs.Try.underlying3 (n := 1) (by kernel_rfl) rfl (by decide)
instance : Fd Go.Proofs.Try.prog 70 1 1 1 false := si
theorem sh : Fd Go.Proofs.Try.prog 70 2 2 1 false := zd Go.Proofs.Try.underlying70 (off := 2) (ft := 3) rfl Go.Proofs.Try.underlying3 (n := 1) (by kernel_rfl) rfl (by decide)
instance : Fd Go.Proofs.Try.prog 70 2 2 1 false := sh
theorem pl70 : Pl Go.Proofs.Try.prog 70 [(0, 1), (1, 1), (2, 1)] := yY Go.Proofs.Try.underlying70 (by kernel_rfl)
instance : Pl Go.Proofs.Try.prog 70 [(0, 1), (1, 1), (2, 1)] := pl70
theorem ze70 : Ze Go.Proofs.Try.prog 70 [.int .i64 (0), .int .i64 (0), .int .i64 (0)] := zh (z := .agg #[.int .i64 (0), .int .i64 (0), .int .i64 (0)]) (by kernel_rfl) rfl
instance : Ze Go.Proofs.Try.prog 70 [.int .i64 (0), .int .i64 (0), .int .i64 (0)] := ze70
theorem ag71 : Ag Go.Proofs.Try.prog 71 3 := ya Go.Proofs.Try.underlying71 (by kernel_rfl)
instance : Ag Go.Proofs.Try.prog 71 3 := ag71
theorem sg : Fd Go.Proofs.Try.prog 71 0 0 1 false := zd Go.Proofs.Try.underlying71 (off := 0) (ft := 3) rfl Go.Proofs.Try.underlying3 (n := 1) (by kernel_rfl) rfl (by decide)
instance : Fd Go.Proofs.Try.prog 71 0 0 1 false := sg
theorem sf : Fd Go.Proofs.Try.prog 71 1 1 1 false := zd Go.Proofs.Try.underlying71 (off := 1) (ft := 3) rfl Go.Proofs.Try.underlying3 (n := 1) (by kernel_rfl) rfl (by decide)
instance : Fd Go.Proofs.Try.prog 71 1 1 1 false := sf
theorem se : Fd Go.Proofs.Try.prog 71 2 2 1 false := zd Go.Proofs.Try.underlying71 (off := 2) (ft := 3) rfl Go.Proofs.Try.underlying3 (n := 1) (by kernel_rfl) rfl (by decide)
instance : Fd Go.Proofs.Try.prog 71 2 2 1 false := se
theorem pl71 : Pl Go.Proofs.Try.prog 71 [(0, 1), (1, 1), (2, 1)] := yY Go.Proofs.Try.underlying71 (by kernel_rfl)
instance : Pl Go.Proofs.Try.prog 71 [(0, 1), (1, 1), (2, 1)] := pl71
theorem ze71 : Ze Go.Proofs.Try.prog 71 [.int .i64 (0), .int .i64 (0), .int .i64 (0)] := zh (z := .agg #[.int .i64 (0), .int .i64 (0), .int .i64 (0)]) (by kernel_rfl) rfl
instance : Ze Go.Proofs.Try.prog 71 [.int .i64 (0), .int .i64 (0), .int .i64 (0)] := ze71
theorem ag72 : Ag Go.Proofs.Try.prog 72 7 := ya Go.Proofs.Try.underlying72 (by kernel_rfl)
instance : Ag Go.Proofs.Try.prog 72 7 := ag72
theorem sd : Fd Go.Proofs.Try.prog 72 0 0 3 true := zd Go.Proofs.Try.underlying72 (off := 0) (ft := 71) rfl Go.Proofs.Try.underlying71 (n := 3) (by kernel_rfl) rfl (by decide)
instance : Fd Go.Proofs.Try.prog 72 0 0 3 true := sd
theorem sb : Fd Go.Proofs.Try.prog 72 1 3 3 true := zd Go.Proofs.Try.underlying72 (off := 3) (ft := 71) rfl Go.Proofs.Try.underlying71 (n := 3) (by kernel_rfl) rfl (by decide)
instance : Fd Go.Proofs.Try.prog 72 1 3 3 true := sb
theorem sa : Fd Go.Proofs.Try.prog 72 2 6 1 false := zd Go.Proofs.Try.underlying72 (off := 6) (ft := 4) rfl Go.Proofs.Try.underlying4 (n := 1) (by kernel_rfl) rfl (by decide)
instance : Fd Go.Proofs.Try.prog 72 2 6 1 false := sa
theorem pl72 : Pl Go.Proofs.Try.prog 72 [(0, 3), (3, 3), (6, 1)] := yY Go.Proofs.Try.underlying72 (by kernel_rfl)
instance : Pl Go.Proofs.Try.prog 72 [(0, 3), (3, 3), (6, 1)] := pl72
theorem ze72 : Ze Go.Proofs.Try.prog 72 [.int .i64 (0), .int .i64 (0), .int .i64 (0), .int .i64 (0), .int .i64 (0), .int .i64 (0), .bool false] := zh (z := .agg #[.int .i64 (0), .int .i64 (0), .int .i64 (0), .int .i64 (0), .int .i64 (0), .int .i64 (0), .bool false]) (by kernel_rfl) rfl
instance : Ze Go.Proofs.Try.prog 72 [.int .i64 (0), .int .i64 (0), .int .i64 (0), .int .i64 (0), .int .i64 (0), .int .i64 (0), .bool false] := ze72
theorem ag73 : Ag Go.Proofs.Try.prog 73 7 := ya Go.Proofs.Try.underlying73 (by kernel_rfl)
instance : Ag Go.Proofs.Try.prog 73 7 := ag73
theorem sZ : Fd Go.Proofs.Try.prog 73 0 0 3 true := zd Go.Proofs.Try.underlying73 (off := 0) (ft := 71) rfl Go.Proofs.Try.underlying71 (n := 3) (by kernel_rfl) rfl (by decide)
instance : Fd Go.Proofs.Try.prog 73 0 0 3 true := sZ
theorem sY : Fd Go.Proofs.Try.prog 73 1 3 3 true := zd Go.Proofs.Try.underlying73 (off := 3) (ft := 71) rfl Go.Proofs.Try.underlying71 (n := 3) (by kernel_rfl) rfl (by decide)
instance : Fd Go.Proofs.Try.prog 73 1 3 3 true := sY
theorem sX : Fd Go.Proofs.Try.prog 73 2 6 1 false := zd Go.Proofs.Try.underlying73 (off := 6) (ft := 4) rfl Go.Proofs.Try.underlying4 (n := 1) (by kernel_rfl) rfl (by decide)
instance : Fd Go.Proofs.Try.prog 73 2 6 1 false := sX
theorem pl73 : Pl Go.Proofs.Try.prog 73 [(0, 3), (3, 3), (6, 1)] := yY Go.Proofs.Try.underlying73 (by kernel_rfl)
instance : Pl Go.Proofs.Try.prog 73 [(0, 3), (3, 3), (6, 1)] := pl73
theorem ze73 : Ze Go.Proofs.Try.prog 73 [.int .i64 (0), .int .i64 (0), .int .i64 (0), .int .i64 (0), .int .i64 (0), .int .i64 (0), .bool false] := zh (z := .agg #[.int .i64 (0), .int .i64 (0), .int .i64 (0), .int .i64 (0), .int .i64 (0), .int .i64 (0), .bool false]) (by kernel_rfl) rfl
instance : Ze Go.Proofs.Try.prog 73 [.int .i64 (0), .int .i64 (0), .int .i64 (0), .int .i64 (0), .int .i64 (0), .int .i64 (0), .bool false] := ze73
theorem sc82 : Sc Go.Proofs.Try.prog 82 := zy Go.Proofs.Try.underlying82 rfl (by kernel_rfl)
instance : Sc Go.Proofs.Try.prog 82 := sc82
theorem ze82 : Ze Go.Proofs.Try.prog 82 [.slice none 0 0] := zh (z := .slice none 0 0) (by kernel_rfl) rfl
instance : Ze Go.Proofs.Try.prog 82 [.slice none 0 0] := ze82
theorem sl82 : Sl Go.Proofs.Try.prog 82 139 5 40 := xA (z := .agg #[.int .i64 (0), .int .i64 (0), .int .i64 (0), .int .i64 (0), .int .i64 (0)]) Go.Proofs.Try.underlying82 (by kernel_rfl) rfl (by decide)
instance : Sl Go.Proofs.Try.prog 82 139 5 40 := sl82
theorem sc84 : Sc Go.Proofs.Try.prog 84 := zy Go.Proofs.Try.underlying84 rfl (by kernel_rfl)
instance : Sc Go.Proofs.Try.prog 84 := sc84
theorem ze84 : Ze Go.Proofs.Try.prog 84 [.slice none 0 0] := zh (z := .slice none 0 0) (by kernel_rfl) rfl
instance : Ze Go.Proofs.Try.prog 84 [.slice none 0 0] := ze84
theorem sl84 : Sl Go.Proofs.Try.prog 84 95 5 40 := xA (z := .agg #[.int .i64 (0), .int .i64 (0), .int .i64 (0), .int .i64 (0), .int .i64 (0)]) Go.Proofs.Try.underlying84 (by kernel_rfl) rfl (by decide)
instance : Sl Go.Proofs.Try.prog 84 95 5 40 := sl84
theorem ag94 : Ag Go.Proofs.Try.prog 94 5 := ya Go.Proofs.Try.underlying94 (by kernel_rfl)
instance : Ag Go.Proofs.Try.prog 94 5 := ag94
theorem sW : Fd Go.Proofs.Try.prog 94 0 0 1 false := zd Go.Proofs.Try.underlying94 (off := 0) (ft := 3) rfl Go.Proofs.Try.underlying3 (n := 1) (by kernel_rfl) rfl (by decide)
instance : Fd Go.Proofs.Try.prog 94 0 0 1 false := sW
theorem sV : Fd Go.Proofs.Try.prog 94 1 1 1 false := zd Go.Proofs.Try.underlying94 (off := 1) (ft := 3) rfl Go.Proofs.Try.underlying3 (n := 1) (by kernel_rfl) rfl (by decide)
instance : Fd Go.Proofs.Try.prog 94 1 1 1 false := sV
theorem sU : Fd Go.Proofs.Try.prog 94 2 2 1 false := zd Go.Proofs.Try.underlying94 (off := 2) (ft := 3) rfl Go.Proofs.Try.underlying3 (n := 1) (by kernel_rfl) rfl (by decide)
instance : Fd Go.Proofs.Try.prog 94 2 2 1 false := sU
theorem sT : Fd Go.Proofs.Try.prog 94 3 3 1 false := zd Go.Proofs.Try.underlying94 (off := 3) (ft := 3) rfl Go.Proofs.Try.underlying3 (n := 1) (by kernel_rfl) rfl (by decide)
instance : Fd Go.Proofs.Try.prog 94 3 3 1 false := sT
theorem sS : Fd Go.Proofs.Try.prog 94 4 4 1 false := zd Go.Proofs.Try.underlying94 (off := 4) (ft := 3) rfl Go.Proofs.Try.underlying3 (n := 1) (by kernel_rfl) rfl (by decide)
instance : Fd Go.Proofs.Try.prog 94 4 4 1 false := sS
theorem pl94 : Pl Go.Proofs.Try.prog 94 [(0, 1), (1, 1), (2, 1), (3, 1), (4, 1)] := yY Go.Proofs.Try.underlying94 (by kernel_rfl)
instance : Pl Go.Proofs.Try.prog 94 [(0, 1), (1, 1), (2, 1), (3, 1), (4, 1)] := pl94
theorem ze94 : Ze Go.Proofs.Try.prog 94 [.int .i64 (0), .int .i64 (0), .int .i64 (0), .int .i64 (0), .int .i64 (0)] := zh (z := .agg #[.int .i64 (0), .int .i64 (0), .int .i64 (0), .int .i64 (0), .int .i64 (0)]) (by kernel_rfl) rfl
instance : Ze Go.Proofs.Try.prog 94 [.int .i64 (0), .int .i64 (0), .int .i64 (0), .int .i64 (0), .int .i64 (0)] := ze94
theorem ag95 : Ag Go.Proofs.Try.prog 95 5 := ya Go.Proofs.Try.underlying95 (by kernel_rfl)
instance : Ag Go.Proofs.Try.prog 95 5 := ag95
theorem sR : Fd Go.Proofs.Try.prog 95 0 0 1 false := zd Go.Proofs.Try.underlying95 (off := 0) (ft := 3) rfl Go.Proofs.Try.underlying3 (n := 1) (by kernel_rfl) rfl (by decide)
instance : Fd Go.Proofs.Try.prog 95 0 0 1 false := sR
theorem sQ : Fd Go.Proofs.Try.prog 95 1 1 1 false := zd Go.Proofs.Try.underlying95 (off := 1) (ft := 3) rfl Go.Proofs.Try.underlying3 (n := 1) (by kernel_rfl) rfl (by decide)
instance : Fd Go.Proofs.Try.prog 95 1 1 1 false := sQ
theorem sP : Fd Go.Proofs.Try.prog 95 2 2 1 false := zd Go.Proofs.Try.underlying95 (off := 2) (ft := 3) rfl Go.Proofs.Try.underlying3 (n := 1) (by kernel_rfl) rfl (by decide)
instance : Fd Go.Proofs.Try.prog 95 2 2 1 false := sP
theorem sO : Fd Go.Proofs.Try.prog 95 3 3 1 false := zd Go.Proofs.Try.underlying95 (off := 3) (ft := 3) rfl Go.Proofs.Try.underlying3 (n := 1) (by kernel_rfl) rfl (by decide)
instance : Fd Go.Proofs.Try.prog 95 3 3 1 false := sO
theorem sN : Fd Go.Proofs.Try.prog 95 4 4 1 false := zd Go.Proofs.Try.underlying95 (off := 4) (ft := 3) rfl Go.Proofs.Try.underlying3 (n := 1) (by kernel_rfl) rfl (by decide)
instance : Fd Go.Proofs.Try.prog 95 4 4 1 false := sN
theorem pl95 : Pl Go.Proofs.Try.prog 95 [(0, 1), (1, 1), (2, 1), (3, 1), (4, 1)] := yY Go.Proofs.Try.underlying95 (by kernel_rfl)
instance : Pl Go.Proofs.Try.prog 95 [(0, 1), (1, 1), (2, 1), (3, 1), (4, 1)] := pl95
theorem ze95 : Ze Go.Proofs.Try.prog 95 [.int .i64 (0), .int .i64 (0), .int .i64 (0), .int .i64 (0), .int .i64 (0)] := zh (z := .agg #[.int .i64 (0), .int .i64 (0), .int .i64 (0), .int .i64 (0), .int .i64 (0)]) (by kernel_rfl) rfl
instance : Ze Go.Proofs.Try.prog 95 [.int .i64 (0), .int .i64 (0), .int .i64 (0), .int .i64 (0), .int .i64 (0)] := ze95
theorem pF : Sc Go.Proofs.Try.prog 104 := zy Go.Proofs.Try.underlying104 rfl (by kernel_rfl)
instance : Sc Go.Proofs.Try.prog 104 := pF
theorem qr : Ze Go.Proofs.Try.prog 104 [.pointer none] := zh (z := .pointer none) (by kernel_rfl) rfl
instance : Ze Go.Proofs.Try.prog 104 [.pointer none] := qr
theorem pE : Sc Go.Proofs.Try.prog 114 := zy Go.Proofs.Try.underlying114 rfl (by kernel_rfl)
instance : Sc Go.Proofs.Try.prog 114 := pE
theorem qq : Ze Go.Proofs.Try.prog 114 [.slice none 0 0] := zh (z := .slice none 0 0) (by kernel_rfl) rfl
instance : Ze Go.Proofs.Try.prog 114 [.slice none 0 0] := qq
theorem qu : Sl Go.Proofs.Try.prog 114 9 1 16 := xA (z := .string .empty) Go.Proofs.Try.underlying114 (by kernel_rfl) rfl (by decide)
instance : Sl Go.Proofs.Try.prog 114 9 1 16 := qu
theorem pc : Ag Go.Proofs.Try.prog 118 3 := ya Go.Proofs.Try.underlying118 (by kernel_rfl)
instance : Ag Go.Proofs.Try.prog 118 3 := pc
theorem un : Fd Go.Proofs.Try.prog 118 0 0 1 false := zd Go.Proofs.Try.underlying118 (off := 0) (ft := 3) rfl Go.Proofs.Try.underlying3 (n := 1) (by kernel_rfl) rfl (by decide)
instance : Fd Go.Proofs.Try.prog 118 0 0 1 false := un
theorem um : Fd Go.Proofs.Try.prog 118 1 1 1 false := zd Go.Proofs.Try.underlying118 (off := 1) (ft := 3) rfl Go.Proofs.Try.underlying3 (n := 1) (by kernel_rfl) rfl (by decide)
instance : Fd Go.Proofs.Try.prog 118 1 1 1 false := um
theorem ul : Fd Go.Proofs.Try.prog 118 2 2 1 false := zd Go.Proofs.Try.underlying118 (off := 2) (ft := 3) rfl Go.Proofs.Try.underlying3 (n := 1) (by kernel_rfl) rfl (by decide)
instance : Fd Go.Proofs.Try.prog 118 2 2 1 false := ul
theorem pN : Pl Go.Proofs.Try.prog 118 [(0, 1), (1, 1), (2, 1)] := yY Go.Proofs.Try.underlying118 (by kernel_rfl)
instance : Pl Go.Proofs.Try.prog 118 [(0, 1), (1, 1), (2, 1)] := pN
theorem qp : Ze Go.Proofs.Try.prog 118 [.int .i64 (0), .int .i64 (0), .int .i64 (0)] := zh (z := .agg #[.int .i64 (0), .int .i64 (0), .int .i64 (0)]) (by kernel_rfl) rfl
instance : Ze Go.Proofs.Try.prog 118 [.int .i64 (0), .int .i64 (0), .int .i64 (0)] := qp
theorem pb : Ag Go.Proofs.Try.prog 122 1 := ya Go.Proofs.Try.underlying122 (by kernel_rfl)
instance : Ag Go.Proofs.Try.prog 122 1 := pb
theorem uk : Fd Go.Proofs.Try.prog 122 0 0 1 false := zd Go.Proofs.Try.underlying122 (off := 0) (ft := 40) rfl Go.Proofs.Try.underlying40 (n := 1) (by kernel_rfl) rfl (by decide)
instance : Fd Go.Proofs.Try.prog 122 0 0 1 false := uk
theorem pM : Pl Go.Proofs.Try.prog 122 [(0, 1)] := yY Go.Proofs.Try.underlying122 (by kernel_rfl)
instance : Pl Go.Proofs.Try.prog 122 [(0, 1)] := pM
theorem qo : Ze Go.Proofs.Try.prog 122 [.slice none 0 0] := zh (z := .agg #[.slice none 0 0]) (by kernel_rfl) rfl
instance : Ze Go.Proofs.Try.prog 122 [.slice none 0 0] := qo
theorem pa : Ag Go.Proofs.Try.prog 123 1 := ya Go.Proofs.Try.underlying123 (by kernel_rfl)
instance : Ag Go.Proofs.Try.prog 123 1 := pa
theorem uj : Fd Go.Proofs.Try.prog 123 0 0 1 false := zd Go.Proofs.Try.underlying123 (off := 0) (ft := 40) rfl Go.Proofs.Try.underlying40 (n := 1) (by kernel_rfl) rfl (by decide)
instance : Fd Go.Proofs.Try.prog 123 0 0 1 false := uj
theorem pL : Pl Go.Proofs.Try.prog 123 [(0, 1)] := yY Go.Proofs.Try.underlying123 (by kernel_rfl)
instance : Pl Go.Proofs.Try.prog 123 [(0, 1)] := pL
theorem qn : Ze Go.Proofs.Try.prog 123 [.slice none 0 0] := zh (z := .agg #[.slice none 0 0]) (by kernel_rfl) rfl
instance : Ze Go.Proofs.Try.prog 123 [.slice none 0 0] := qn
theorem pD : Sc Go.Proofs.Try.prog 127 := zy Go.Proofs.Try.underlying127 rfl (by kernel_rfl)
instance : Sc Go.Proofs.Try.prog 127 := pD
theorem qm : Ze Go.Proofs.Try.prog 127 [.slice none 0 0] := zh (z := .slice none 0 0) (by kernel_rfl) rfl
instance : Ze Go.Proofs.Try.prog 127 [.slice none 0 0] := qm
theorem qt : Sl Go.Proofs.Try.prog 127 3 1 8 := xA (z := .int .i64 (0)) Go.Proofs.Try.underlying127 (by kernel_rfl) rfl (by decide)
instance : Sl Go.Proofs.Try.prog 127 3 1 8 := qt
theorem pZ : Ag Go.Proofs.Try.prog 130 7 := ya Go.Proofs.Try.underlying130 (by kernel_rfl)
instance : Ag Go.Proofs.Try.prog 130 7 := pZ
theorem ui : Fd Go.Proofs.Try.prog 130 0 0 3 true := zd Go.Proofs.Try.underlying130 (off := 0) (ft := 118) rfl Go.Proofs.Try.underlying118 (n := 3) (by kernel_rfl) rfl (by decide)
instance : Fd Go.Proofs.Try.prog 130 0 0 3 true := ui
theorem uh : Fd Go.Proofs.Try.prog 130 1 3 3 true := zd Go.Proofs.Try.underlying130 (off := 3) (ft := 118) rfl Go.Proofs.Try.underlying118 (n := 3) (by kernel_rfl) rfl (by decide)
instance : Fd Go.Proofs.Try.prog 130 1 3 3 true := uh
theorem ug : Fd Go.Proofs.Try.prog 130 2 6 1 false := zd Go.Proofs.Try.underlying130 (off := 6) (ft := 4) rfl Go.Proofs.Try.underlying4 (n := 1) (by kernel_rfl) rfl (by decide)
instance : Fd Go.Proofs.Try.prog 130 2 6 1 false := ug
theorem pK : Pl Go.Proofs.Try.prog 130 [(0, 3), (3, 3), (6, 1)] := yY Go.Proofs.Try.underlying130 (by kernel_rfl)
instance : Pl Go.Proofs.Try.prog 130 [(0, 3), (3, 3), (6, 1)] := pK
theorem ql : Ze Go.Proofs.Try.prog 130 [.int .i64 (0), .int .i64 (0), .int .i64 (0), .int .i64 (0), .int .i64 (0), .int .i64 (0), .bool false] := zh (z := .agg #[.int .i64 (0), .int .i64 (0), .int .i64 (0), .int .i64 (0), .int .i64 (0), .int .i64 (0), .bool false]) (by kernel_rfl) rfl
instance : Ze Go.Proofs.Try.prog 130 [.int .i64 (0), .int .i64 (0), .int .i64 (0), .int .i64 (0), .int .i64 (0), .int .i64 (0), .bool false] := ql
theorem pY : Ag Go.Proofs.Try.prog 131 7 := ya Go.Proofs.Try.underlying131 (by kernel_rfl)
instance : Ag Go.Proofs.Try.prog 131 7 := pY
theorem uf : Fd Go.Proofs.Try.prog 131 0 0 3 true := zd Go.Proofs.Try.underlying131 (off := 0) (ft := 118) rfl Go.Proofs.Try.underlying118 (n := 3) (by kernel_rfl) rfl (by decide)
instance : Fd Go.Proofs.Try.prog 131 0 0 3 true := uf
theorem ue : Fd Go.Proofs.Try.prog 131 1 3 3 true := zd Go.Proofs.Try.underlying131 (off := 3) (ft := 118) rfl Go.Proofs.Try.underlying118 (n := 3) (by kernel_rfl) rfl (by decide)
instance : Fd Go.Proofs.Try.prog 131 1 3 3 true := ue
theorem ud : Fd Go.Proofs.Try.prog 131 2 6 1 false := zd Go.Proofs.Try.underlying131 (off := 6) (ft := 4) rfl Go.Proofs.Try.underlying4 (n := 1) (by kernel_rfl) rfl (by decide)
instance : Fd Go.Proofs.Try.prog 131 2 6 1 false := ud
theorem pJ : Pl Go.Proofs.Try.prog 131 [(0, 3), (3, 3), (6, 1)] := yY Go.Proofs.Try.underlying131 (by kernel_rfl)
instance : Pl Go.Proofs.Try.prog 131 [(0, 3), (3, 3), (6, 1)] := pJ
theorem qk : Ze Go.Proofs.Try.prog 131 [.int .i64 (0), .int .i64 (0), .int .i64 (0), .int .i64 (0), .int .i64 (0), .int .i64 (0), .bool false] := zh (z := .agg #[.int .i64 (0), .int .i64 (0), .int .i64 (0), .int .i64 (0), .int .i64 (0), .int .i64 (0), .bool false]) (by kernel_rfl) rfl
instance : Ze Go.Proofs.Try.prog 131 [.int .i64 (0), .int .i64 (0), .int .i64 (0), .int .i64 (0), .int .i64 (0), .int .i64 (0), .bool false] := qk
theorem pX : Ag Go.Proofs.Try.prog 139 5 := ya Go.Proofs.Try.underlying139 (by kernel_rfl)
instance : Ag Go.Proofs.Try.prog 139 5 := pX
theorem uc : Fd Go.Proofs.Try.prog 139 0 0 1 false := zd Go.Proofs.Try.underlying139 (off := 0) (ft := 3) rfl Go.Proofs.Try.underlying3 (n := 1) (by kernel_rfl) rfl (by decide)
instance : Fd Go.Proofs.Try.prog 139 0 0 1 false := uc
theorem ub : Fd Go.Proofs.Try.prog 139 1 1 1 false := zd Go.Proofs.Try.underlying139 (off := 1) (ft := 3) rfl Go.Proofs.Try.underlying3 (n := 1) (by kernel_rfl) rfl (by decide)
instance : Fd Go.Proofs.Try.prog 139 1 1 1 false := ub
theorem ua : Fd Go.Proofs.Try.prog 139 2 2 1 false := zd Go.Proofs.Try.underlying139 (off := 2) (ft := 3) rfl Go.Proofs.Try.underlying3 (n := 1) (by kernel_rfl) rfl (by decide)
instance : Fd Go.Proofs.Try.prog 139 2 2 1 false := ua
theorem uZ : Fd Go.Proofs.Try.prog 139 3 3 1 false := zd Go.Proofs.Try.underlying139 (off := 3) (ft := 3) rfl Go.Proofs.Try.underlying3 (n := 1) (by kernel_rfl) rfl (by decide)
instance : Fd Go.Proofs.Try.prog 139 3 3 1 false := uZ
theorem uY : Fd Go.Proofs.Try.prog 139 4 4 1 false := zd Go.Proofs.Try.underlying139 (off := 4) (ft := 3) rfl Go.Proofs.Try.underlying3 (n := 1) (by kernel_rfl) rfl (by decide)
instance : Fd Go.Proofs.Try.prog 139 4 4 1 false := uY
theorem pI : Pl Go.Proofs.Try.prog 139 [(0, 1), (1, 1), (2, 1), (3, 1), (4, 1)] := yY Go.Proofs.Try.underlying139 (by kernel_rfl)
instance : Pl Go.Proofs.Try.prog 139 [(0, 1), (1, 1), (2, 1), (3, 1), (4, 1)] := pI
theorem qj : Ze Go.Proofs.Try.prog 139 [.int .i64 (0), .int .i64 (0), .int .i64 (0), .int .i64 (0), .int .i64 (0)] := zh (z := .agg #[.int .i64 (0), .int .i64 (0), .int .i64 (0), .int .i64 (0), .int .i64 (0)]) (by kernel_rfl) rfl
instance : Ze Go.Proofs.Try.prog 139 [.int .i64 (0), .int .i64 (0), .int .i64 (0), .int .i64 (0), .int .i64 (0)] := qj
theorem pW : Ag Go.Proofs.Try.prog 153 3 := ya Go.Proofs.Try.underlying153 (by kernel_rfl)
instance : Ag Go.Proofs.Try.prog 153 3 := pW
theorem uX : Fd Go.Proofs.Try.prog 153 0 0 1 false := zd Go.Proofs.Try.underlying153 (off := 0) (ft := 22) rfl Go.Proofs.Try.underlying22 (n := 1) (by kernel_rfl) rfl (by decide)
instance : Fd Go.Proofs.Try.prog 153 0 0 1 false := uX
theorem uW : Fd Go.Proofs.Try.prog 153 1 1 1 false := zd Go.Proofs.Try.underlying153 (off := 1) (ft := 3) rfl Go.Proofs.Try.underlying3 (n := 1) (by kernel_rfl) rfl (by decide)
instance : Fd Go.Proofs.Try.prog 153 1 1 1 false := uW
theorem uV : Fd Go.Proofs.Try.prog 153 2 2 1 false := zd Go.Proofs.Try.underlying153 (off := 2) (ft := 3) rfl Go.Proofs.Try.underlying3 (n := 1) (by kernel_rfl) rfl (by decide)
instance : Fd Go.Proofs.Try.prog 153 2 2 1 false := uV
theorem pH : Pl Go.Proofs.Try.prog 153 [(0, 1), (1, 1), (2, 1)] := yY Go.Proofs.Try.underlying153 (by kernel_rfl)
instance : Pl Go.Proofs.Try.prog 153 [(0, 1), (1, 1), (2, 1)] := pH
theorem qi : Ze Go.Proofs.Try.prog 153 [.slice none 0 0, .int .i64 (0), .int .i64 (0)] := zh (z := .agg #[.slice none 0 0, .int .i64 (0), .int .i64 (0)]) (by kernel_rfl) rfl
instance : Ze Go.Proofs.Try.prog 153 [.slice none 0 0, .int .i64 (0), .int .i64 (0)] := qi
theorem pV : Ag Go.Proofs.Try.prog 154 3 := ya Go.Proofs.Try.underlying154 (by kernel_rfl)
instance : Ag Go.Proofs.Try.prog 154 3 := pV
theorem uU : Fd Go.Proofs.Try.prog 154 0 0 1 false := zd Go.Proofs.Try.underlying154 (off := 0) (ft := 22) rfl Go.Proofs.Try.underlying22 (n := 1) (by kernel_rfl) rfl (by decide)
instance : Fd Go.Proofs.Try.prog 154 0 0 1 false := uU
theorem uT : Fd Go.Proofs.Try.prog 154 1 1 1 false := zd Go.Proofs.Try.underlying154 (off := 1) (ft := 3) rfl Go.Proofs.Try.underlying3 (n := 1) (by kernel_rfl) rfl (by decide)
instance : Fd Go.Proofs.Try.prog 154 1 1 1 false := uT
theorem uS : Fd Go.Proofs.Try.prog 154 2 2 1 false := zd Go.Proofs.Try.underlying154 (off := 2) (ft := 3) rfl Go.Proofs.Try.underlying3 (n := 1) (by kernel_rfl) rfl (by decide)
instance : Fd Go.Proofs.Try.prog 154 2 2 1 false := uS
theorem pG : Pl Go.Proofs.Try.prog 154 [(0, 1), (1, 1), (2, 1)] := yY Go.Proofs.Try.underlying154 (by kernel_rfl)
instance : Pl Go.Proofs.Try.prog 154 [(0, 1), (1, 1), (2, 1)] := pG
theorem qh : Ze Go.Proofs.Try.prog 154 [.slice none 0 0, .int .i64 (0), .int .i64 (0)] := zh (z := .agg #[.slice none 0 0, .int .i64 (0), .int .i64 (0)]) (by kernel_rfl) rfl
instance : Ze Go.Proofs.Try.prog 154 [.slice none 0 0, .int .i64 (0), .int .i64 (0)] := qh
theorem pC : Sc Go.Proofs.Try.prog 159 := zy Go.Proofs.Try.underlying159 rfl (by kernel_rfl)
instance : Sc Go.Proofs.Try.prog 159 := pC
theorem qg : Ze Go.Proofs.Try.prog 159 [.int .u64 (0)] := zh (z := .int .u64 (0)) (by kernel_rfl) rfl
instance : Ze Go.Proofs.Try.prog 159 [.int .u64 (0)] := qg
theorem pT : Ik Go.Proofs.Try.prog 159 .u64 := ⟨Go.Proofs.Try.underlying159⟩
instance : Ik Go.Proofs.Try.prog 159 .u64 := pT
theorem pB : Sc Go.Proofs.Try.prog 164 := zy Go.Proofs.Try.underlying164 rfl (by kernel_rfl)
instance : Sc Go.Proofs.Try.prog 164 := pB
theorem qf : Ze Go.Proofs.Try.prog 164 [.int .i64 (0)] := zh (z := .int .i64 (0)) (by kernel_rfl) rfl
instance : Ze Go.Proofs.Try.prog 164 [.int .i64 (0)] := qf
theorem pS : Ik Go.Proofs.Try.prog 164 .i64 := ⟨Go.Proofs.Try.underlying164⟩
instance : Ik Go.Proofs.Try.prog 164 .i64 := pS
theorem pA : Sc Go.Proofs.Try.prog 171 := zy Go.Proofs.Try.underlying171 rfl (by kernel_rfl)
instance : Sc Go.Proofs.Try.prog 171 := pA
theorem qe : Ze Go.Proofs.Try.prog 171 [.int .u32 (0)] := zh (z := .int .u32 (0)) (by kernel_rfl) rfl
instance : Ze Go.Proofs.Try.prog 171 [.int .u32 (0)] := qe
theorem pR : Ik Go.Proofs.Try.prog 171 .u32 := ⟨Go.Proofs.Try.underlying171⟩
instance : Ik Go.Proofs.Try.prog 171 .u32 := pR
theorem qz : Sc Go.Proofs.Try.prog 173 := zy Go.Proofs.Try.underlying173 rfl (by kernel_rfl)
instance : Sc Go.Proofs.Try.prog 173 := qz
theorem qd : Ze Go.Proofs.Try.prog 173 [.int .u64 (0)] := zh (z := .int .u64 (0)) (by kernel_rfl) rfl
instance : Ze Go.Proofs.Try.prog 173 [.int .u64 (0)] := qd
theorem pQ : Ik Go.Proofs.Try.prog 173 .u64 := ⟨Go.Proofs.Try.underlying173⟩
instance : Ik Go.Proofs.Try.prog 173 .u64 := pQ
theorem qy : Sc Go.Proofs.Try.prog 174 := zy Go.Proofs.Try.underlying174 rfl (by kernel_rfl)
instance : Sc Go.Proofs.Try.prog 174 := qy
theorem qc : Ze Go.Proofs.Try.prog 174 [.int .u64 (0)] := zh (z := .int .u64 (0)) (by kernel_rfl) rfl
instance : Ze Go.Proofs.Try.prog 174 [.int .u64 (0)] := qc
theorem pP : Ik Go.Proofs.Try.prog 174 .u64 := ⟨Go.Proofs.Try.underlying174⟩
instance : Ik Go.Proofs.Try.prog 174 .u64 := pP
theorem qx : Sc Go.Proofs.Try.prog 178 := zy Go.Proofs.Try.underlying178 rfl (by kernel_rfl)
instance : Sc Go.Proofs.Try.prog 178 := qx
theorem qb : Ze Go.Proofs.Try.prog 178 [.pointer none] := zh (z := .pointer none) (by kernel_rfl) rfl
instance : Ze Go.Proofs.Try.prog 178 [.pointer none] := qb
theorem qw : Sc Go.Proofs.Try.prog 180 := zy Go.Proofs.Try.underlying180 rfl (by kernel_rfl)
instance : Sc Go.Proofs.Try.prog 180 := qw
theorem qa : Ze Go.Proofs.Try.prog 180 [.pointer none] := zh (z := .pointer none) (by kernel_rfl) rfl
instance : Ze Go.Proofs.Try.prog 180 [.pointer none] := qa
theorem qv : Sc Go.Proofs.Try.prog 193 := zy Go.Proofs.Try.underlying193 rfl (by kernel_rfl)
instance : Sc Go.Proofs.Try.prog 193 := qv
theorem qZ : Ze Go.Proofs.Try.prog 193 [.pointer none] := zh (z := .pointer none) (by kernel_rfl) rfl
instance : Ze Go.Proofs.Try.prog 193 [.pointer none] := qZ
def tab : Tab where
  ag := [(13, 2), (38, 1), (39, 1), (70, 3), (71, 3), (72, 7), (73, 7), (94, 5), (95, 5), (118, 3), (122, 1), (123, 1), (130, 7), (131, 7), (139, 5), (153, 3), (154, 3)]
  sc := [2, 3, 4, 5, 9, 12, 21, 22, 24, 27, 40, 46, 61, 64, 82, 84, 104, 114, 127, 159, 164, 171, 173, 174, 178, 180, 193]
  fd := [((13, 0), (0, 1, false)), ((13, 1), (1, 1, false)), ((38, 0), (0, 1, false)), ((39, 0), (0, 1, false)), ((70, 0), (0, 1, false)), ((70, 1), (1, 1, false)), ((70, 2), (2, 1, false)), ((71, 0), (0, 1, false)), ((71, 1), (1, 1, false)), ((71, 2), (2, 1, false)), ((72, 0), (0, 3, true)), ((72, 1), (3, 3, true)), ((72, 2), (6, 1, false)), ((73, 0), (0, 3, true)), ((73, 1), (3, 3, true)), ((73, 2), (6, 1, false)), ((94, 0), (0, 1, false)), ((94, 1), (1, 1, false)), ((94, 2), (2, 1, false)), ((94, 3), (3, 1, false)), ((94, 4), (4, 1, false)), ((95, 0), (0, 1, false)), ((95, 1), (1, 1, false)), ((95, 2), (2, 1, false)), ((95, 3), (3, 1, false)), ((95, 4), (4, 1, false)), ((118, 0), (0, 1, false)), ((118, 1), (1, 1, false)), ((118, 2), (2, 1, false)), ((122, 0), (0, 1, false)), ((123, 0), (0, 1, false)), ((130, 0), (0, 3, true)), ((130, 1), (3, 3, true)), ((130, 2), (6, 1, false)), ((131, 0), (0, 3, true)), ((131, 1), (3, 3, true)), ((131, 2), (6, 1, false)), ((139, 0), (0, 1, false)), ((139, 1), (1, 1, false)), ((139, 2), (2, 1, false)), ((139, 3), (3, 1, false)), ((139, 4), (4, 1, false)), ((153, 0), (0, 1, false)), ((153, 1), (1, 1, false)), ((153, 2), (2, 1, false)), ((154, 0), (0, 1, false)), ((154, 1), (1, 1, false)), ((154, 2), (2, 1, false))]
  ze := [(2, [.int .i64 (0)]), (3, [.int .i64 (0)]), (4, [.bool false]), (5, [.int .u8 (0)]), (9, [.string .empty]), (12, [.int .u64 (0)]), (13, [.string .empty, .int .u64 (0)]), (21, [.int .i32 (0)]), (22, [.slice none 0 0]), (24, [.slice none 0 0]), (27, [.slice none 0 0]), (38, [.slice none 0 0]), (39, [.slice none 0 0]), (40, [.slice none 0 0]), (46, [.slice none 0 0]), (61, [.slice none 0 0]), (64, [.slice none 0 0]), (70, [.int .i64 (0), .int .i64 (0), .int .i64 (0)]), (71, [.int .i64 (0), .int .i64 (0), .int .i64 (0)]), (72, [.int .i64 (0), .int .i64 (0), .int .i64 (0), .int .i64 (0), .int .i64 (0), .int .i64 (0), .bool false]), (73, [.int .i64 (0), .int .i64 (0), .int .i64 (0), .int .i64 (0), .int .i64 (0), .int .i64 (0), .bool false]), (82, [.slice none 0 0]), (84, [.slice none 0 0]), (94, [.int .i64 (0), .int .i64 (0), .int .i64 (0), .int .i64 (0), .int .i64 (0)]), (95, [.int .i64 (0), .int .i64 (0), .int .i64 (0), .int .i64 (0), .int .i64 (0)]), (104, [.pointer none]), (114, [.slice none 0 0]), (118, [.int .i64 (0), .int .i64 (0), .int .i64 (0)]), (122, [.slice none 0 0]), (123, [.slice none 0 0]), (127, [.slice none 0 0]), (130, [.int .i64 (0), .int .i64 (0), .int .i64 (0), .int .i64 (0), .int .i64 (0), .int .i64 (0), .bool false]), (131, [.int .i64 (0), .int .i64 (0), .int .i64 (0), .int .i64 (0), .int .i64 (0), .int .i64 (0), .bool false]), (139, [.int .i64 (0), .int .i64 (0), .int .i64 (0), .int .i64 (0), .int .i64 (0)]), (153, [.slice none 0 0, .int .i64 (0), .int .i64 (0)]), (154, [.slice none 0 0, .int .i64 (0), .int .i64 (0)]), (159, [.int .u64 (0)]), (164, [.int .i64 (0)]), (171, [.int .u32 (0)]), (173, [.int .u64 (0)]), (174, [.int .u64 (0)]), (178, [.pointer none]), (180, [.pointer none]), (193, [.pointer none])]
  pl := [(13, [(0, 1), (1, 1)]), (38, [(0, 1)]), (39, [(0, 1)]), (70, [(0, 1), (1, 1), (2, 1)]), (71, [(0, 1), (1, 1), (2, 1)]), (72, [(0, 3), (3, 3), (6, 1)]), (73, [(0, 3), (3, 3), (6, 1)]), (94, [(0, 1), (1, 1), (2, 1), (3, 1), (4, 1)]), (95, [(0, 1), (1, 1), (2, 1), (3, 1), (4, 1)]), (118, [(0, 1), (1, 1), (2, 1)]), (122, [(0, 1)]), (123, [(0, 1)]), (130, [(0, 3), (3, 3), (6, 1)]), (131, [(0, 3), (3, 3), (6, 1)]), (139, [(0, 1), (1, 1), (2, 1), (3, 1), (4, 1)]), (153, [(0, 1), (1, 1), (2, 1)]), (154, [(0, 1), (1, 1), (2, 1)])]
  sl := [(22, (5, 1, 1)), (24, (71, 3, 24)), (27, (39, 1, 24)), (40, (118, 3, 24)), (46, (123, 1, 24)), (61, (131, 7, 56)), (64, (73, 7, 56)), (82, (139, 5, 40)), (84, (95, 5, 40)), (114, (9, 1, 16)), (127, (3, 1, 8))]
  ik := [(2, .i64), (3, .i64), (5, .u8), (12, .u64), (21, .i32), (159, .u64), (164, .i64), (171, .u32), (173, .u64), (174, .u64)]
  str := [9]
  bl := [4]
instance : TabC Go.Proofs.Try.prog tab := ⟨{ ag := zA ag13 (zA ag38 (zA ag39 (zA ag70 (zA ag71 (zA ag72 (zA ag73 (zA ag94 (zA ag95 (zA pc (zA pb (zA pa (zA pZ (zA pY (zA pX (zA pW (zA pV (yi))))))))))))))))), sc := zA sc2 (zA sc3 (zA sc4 (zA sc5 (zA sc9 (zA sc12 (zA sc21 (zA sc22 (zA sc24 (zA sc27 (zA sc40 (zA sc46 (zA sc61 (zA sc64 (zA sc82 (zA sc84 (zA pF (zA pE (zA pD (zA pC (zA pB (zA pA (zA qz (zA qy (zA qx (zA qw (zA qv (yi))))))))))))))))))))))))))), fd := zA so (zA sn (zA sm (zA sk (zA sj (zA si (zA sh (zA sg (zA sf (zA se (zA sd (zA sb (zA sa (zA sZ (zA sY (zA sX (zA sW (zA sV (zA sU (zA sT (zA sS (zA sR (zA sQ (zA sP (zA sO (zA sN (zA un (zA um (zA ul (zA uk (zA uj (zA ui (zA uh (zA ug (zA uf (zA ue (zA ud (zA uc (zA ub (zA ua (zA uZ (zA uY (zA uX (zA uW (zA uV (zA uU (zA uT (zA uS (yi)))))))))))))))))))))))))))))))))))))))))))))))), ze := zA ze2 (zA ze3 (zA ze4 (zA ze5 (zA ze9 (zA ze12 (zA ze13 (zA ze21 (zA ze22 (zA ze24 (zA ze27 (zA ze38 (zA ze39 (zA ze40 (zA ze46 (zA ze61 (zA ze64 (zA ze70 (zA ze71 (zA ze72 (zA ze73 (zA ze82 (zA ze84 (zA ze94 (zA ze95 (zA qr (zA qq (zA qp (zA qo (zA qn (zA qm (zA ql (zA qk (zA qj (zA qi (zA qh (zA qg (zA qf (zA qe (zA qd (zA qc (zA qb (zA qa (zA qZ (yi)))))))))))))))))))))))))))))))))))))))))))), pl := zA pl13 (zA pl38 (zA pl39 (zA pl70 (zA pl71 (zA pl72 (zA pl73 (zA pl94 (zA pl95 (zA pN (zA pM (zA pL (zA pK (zA pJ (zA pI (zA pH (zA pG (yi))))))))))))))))), sl := zA sl22 (zA sl24 (zA sl27 (zA sl40 (zA sl46 (zA sl61 (zA sl64 (zA sl82 (zA sl84 (zA qu (zA qt (yi))))))))))), ik := zA ik2 (zA ik3 (zA ik5 (zA ik12 (zA ik21 (zA pT (zA pS (zA pR (zA pQ (zA pP (yi)))))))))), str := zA str9 (yi), bl := zA bl4 (yi) }, by kernel_rfl⟩
instance : Ent Go.Proofs.Try.prog 3 := zB Go.Proofs.Try.func3 rfl (by decide)
instance : Ent Go.Proofs.Try.prog 4 := zB Go.Proofs.Try.func4 rfl (by decide)
instance : Ent Go.Proofs.Try.prog 5 := zB Go.Proofs.Try.func5 rfl (by decide)
instance : Ent Go.Proofs.Try.prog 6 := zB Go.Proofs.Try.func6 rfl (by decide)
instance : Ent Go.Proofs.Try.prog 7 := zB Go.Proofs.Try.func7 rfl (by decide)
instance : Ent Go.Proofs.Try.prog 8 := zB Go.Proofs.Try.func8 rfl (by decide)
instance : Ent Go.Proofs.Try.prog 9 := zB Go.Proofs.Try.func9 rfl (by decide)
instance : Ent Go.Proofs.Try.prog 10 := zB Go.Proofs.Try.func10 rfl (by decide)
instance : Ent Go.Proofs.Try.prog 11 := zB Go.Proofs.Try.func11 rfl (by decide)
instance : Ent Go.Proofs.Try.prog 12 := zB Go.Proofs.Try.func12 rfl (by decide)
instance : Ent Go.Proofs.Try.prog 13 := zB Go.Proofs.Try.func13 rfl (by decide)
instance : Ent Go.Proofs.Try.prog 14 := zB Go.Proofs.Try.func14 rfl (by decide)
instance : Ent Go.Proofs.Try.prog 15 := zB Go.Proofs.Try.func15 rfl (by decide)
instance : Ent Go.Proofs.Try.prog 16 := zB Go.Proofs.Try.func16 rfl (by decide)
instance : Ent Go.Proofs.Try.prog 17 := zB Go.Proofs.Try.func17 rfl (by decide)
instance : Ent Go.Proofs.Try.prog 18 := zB Go.Proofs.Try.func18 rfl (by decide)
instance : Ent Go.Proofs.Try.prog 19 := zB Go.Proofs.Try.func19 rfl (by decide)
instance : Ent Go.Proofs.Try.prog 20 := zB Go.Proofs.Try.func20 rfl (by decide)
instance : Ent Go.Proofs.Try.prog 21 := zB Go.Proofs.Try.func21 rfl (by decide)
instance : Ent Go.Proofs.Try.prog 22 := zB Go.Proofs.Try.func22 rfl (by decide)
instance : Ent Go.Proofs.Try.prog 23 := zB Go.Proofs.Try.func23 rfl (by decide)
instance : Ent Go.Proofs.Try.prog 24 := zB Go.Proofs.Try.func24 rfl (by decide)
instance : Ent Go.Proofs.Try.prog 25 := zB Go.Proofs.Try.func25 rfl (by decide)
instance : Ent Go.Proofs.Try.prog 26 := zB Go.Proofs.Try.func26 rfl (by decide)
instance : Ent Go.Proofs.Try.prog 27 := zB Go.Proofs.Try.func27 rfl (by decide)
instance : Ent Go.Proofs.Try.prog 28 := zB Go.Proofs.Try.func28 rfl (by decide)
instance : Ent Go.Proofs.Try.prog 29 := zB Go.Proofs.Try.func29 rfl (by decide)
instance : Ent Go.Proofs.Try.prog 30 := zB Go.Proofs.Try.func30 rfl (by decide)
instance : Ent Go.Proofs.Try.prog 31 := zB Go.Proofs.Try.func31 rfl (by decide)
instance : Ent Go.Proofs.Try.prog 32 := zB Go.Proofs.Try.func32 rfl (by decide)
instance : Ent Go.Proofs.Try.prog 33 := zB Go.Proofs.Try.func33 rfl (by decide)
instance : Ent Go.Proofs.Try.prog 34 := zB Go.Proofs.Try.func34 rfl (by decide)
instance : Ent Go.Proofs.Try.prog 35 := zB Go.Proofs.Try.func35 rfl (by decide)
instance : Ent Go.Proofs.Try.prog 36 := zB Go.Proofs.Try.func36 rfl (by decide)
instance : Ent Go.Proofs.Try.prog 37 := zB Go.Proofs.Try.func37 rfl (by decide)
instance : Ent Go.Proofs.Try.prog 38 := zB Go.Proofs.Try.func38 rfl (by decide)
instance : Ent Go.Proofs.Try.prog 39 := zB Go.Proofs.Try.func39 rfl (by decide)
instance : Ent Go.Proofs.Try.prog 40 := zB Go.Proofs.Try.func40 rfl (by decide)
instance : Ent Go.Proofs.Try.prog 41 := zB Go.Proofs.Try.func41 rfl (by decide)
instance : Ent Go.Proofs.Try.prog 42 := zB Go.Proofs.Try.func42 rfl (by decide)
instance : Ent Go.Proofs.Try.prog 43 := zB Go.Proofs.Try.func43 rfl (by decide)
instance : Ent Go.Proofs.Try.prog 44 := zB Go.Proofs.Try.func44 rfl (by decide)
instance : Ent Go.Proofs.Try.prog 45 := zB Go.Proofs.Try.func45 rfl (by decide)
instance : Ent Go.Proofs.Try.prog 46 := zB Go.Proofs.Try.func46 rfl (by decide)
instance : Ent Go.Proofs.Try.prog 47 := zB Go.Proofs.Try.func47 rfl (by decide)
instance : Ent Go.Proofs.Try.prog 48 := zB Go.Proofs.Try.func48 rfl (by decide)
instance : Ent Go.Proofs.Try.prog 49 := zB Go.Proofs.Try.func49 rfl (by decide)
instance : Ent Go.Proofs.Try.prog 50 := zB Go.Proofs.Try.func50 rfl (by decide)
instance : Ent Go.Proofs.Try.prog 51 := zB Go.Proofs.Try.func51 rfl (by decide)
instance : Ent Go.Proofs.Try.prog 52 := zB Go.Proofs.Try.func52 rfl (by decide)
instance : Ent Go.Proofs.Try.prog 53 := zB Go.Proofs.Try.func53 rfl (by decide)
instance : Ent Go.Proofs.Try.prog 54 := zB Go.Proofs.Try.func54 rfl (by decide)
instance : Ent Go.Proofs.Try.prog 55 := zB Go.Proofs.Try.func55 rfl (by decide)
instance : Ent Go.Proofs.Try.prog 56 := zB Go.Proofs.Try.func56 rfl (by decide)
instance : Ent Go.Proofs.Try.prog 57 := zB Go.Proofs.Try.func57 rfl (by decide)
instance : Ent Go.Proofs.Try.prog 58 := zB Go.Proofs.Try.func58 rfl (by decide)
instance : Ent Go.Proofs.Try.prog 59 := zB Go.Proofs.Try.func59 rfl (by decide)
instance : Ent Go.Proofs.Try.prog 60 := zB Go.Proofs.Try.func60 rfl (by decide)
instance : Ent Go.Proofs.Try.prog 61 := zB Go.Proofs.Try.func61 rfl (by decide)
instance : Ent Go.Proofs.Try.prog 62 := zB Go.Proofs.Try.func62 rfl (by decide)
instance : Ent Go.Proofs.Try.prog 63 := zB Go.Proofs.Try.func63 rfl (by decide)
instance : Ent Go.Proofs.Try.prog 64 := zB Go.Proofs.Try.func64 rfl (by decide)
instance : Ent Go.Proofs.Try.prog 65 := zB Go.Proofs.Try.func65 rfl (by decide)
instance : Ent Go.Proofs.Try.prog 66 := zB Go.Proofs.Try.func66 rfl (by decide)
instance : Ent Go.Proofs.Try.prog 67 := zB Go.Proofs.Try.func67 rfl (by decide)
instance : Ent Go.Proofs.Try.prog 68 := zB Go.Proofs.Try.func68 rfl (by decide)
instance : Ent Go.Proofs.Try.prog 69 := zB Go.Proofs.Try.func69 rfl (by decide)
instance : Ent Go.Proofs.Try.prog 70 := zB Go.Proofs.Try.func70 rfl (by decide)
instance : Ent Go.Proofs.Try.prog 71 := zB Go.Proofs.Try.func71 rfl (by decide)
instance : Ent Go.Proofs.Try.prog 72 := zB Go.Proofs.Try.func72 rfl (by decide)
instance : Ent Go.Proofs.Try.prog 73 := zB Go.Proofs.Try.func73 rfl (by decide)
instance : Ent Go.Proofs.Try.prog 74 := zB Go.Proofs.Try.func74 rfl (by decide)
instance : Ent Go.Proofs.Try.prog 75 := zB Go.Proofs.Try.func75 rfl (by decide)
instance : Ent Go.Proofs.Try.prog 76 := zB Go.Proofs.Try.func76 rfl (by decide)
instance : Ent Go.Proofs.Try.prog 77 := zB Go.Proofs.Try.func77 rfl (by decide)
instance : Ent Go.Proofs.Try.prog 78 := zB Go.Proofs.Try.func78 rfl (by decide)
instance : Ent Go.Proofs.Try.prog 79 := zB Go.Proofs.Try.func79 rfl (by decide)
instance : Ent Go.Proofs.Try.prog 80 := zB Go.Proofs.Try.func80 rfl (by decide)
instance : Ent Go.Proofs.Try.prog 81 := zB Go.Proofs.Try.func81 rfl (by decide)
instance : Ent Go.Proofs.Try.prog 82 := zB Go.Proofs.Try.func82 rfl (by decide)
instance : Ent Go.Proofs.Try.prog 83 := zB Go.Proofs.Try.func83 rfl (by decide)
instance : Ent Go.Proofs.Try.prog 84 := zB Go.Proofs.Try.func84 rfl (by decide)
instance : Ent Go.Proofs.Try.prog 85 := zB Go.Proofs.Try.func85 rfl (by decide)
instance : Ent Go.Proofs.Try.prog 86 := zB Go.Proofs.Try.func86 rfl (by decide)
instance : Ent Go.Proofs.Try.prog 87 := zB Go.Proofs.Try.func87 rfl (by decide)
instance : Ent Go.Proofs.Try.prog 88 := zB Go.Proofs.Try.func88 rfl (by decide)
instance : Ent Go.Proofs.Try.prog 89 := zB Go.Proofs.Try.func89 rfl (by decide)
instance : Ent Go.Proofs.Try.prog 90 := zB Go.Proofs.Try.func90 rfl (by decide)
instance : Ent Go.Proofs.Try.prog 91 := zB Go.Proofs.Try.func91 rfl (by decide)
instance : Ent Go.Proofs.Try.prog 92 := zB Go.Proofs.Try.func92 rfl (by decide)
instance : Ent Go.Proofs.Try.prog 93 := zB Go.Proofs.Try.func93 rfl (by decide)
instance : Ent Go.Proofs.Try.prog 94 := zB Go.Proofs.Try.func94 rfl (by decide)
instance : Ent Go.Proofs.Try.prog 95 := zB Go.Proofs.Try.func95 rfl (by decide)
instance : Ent Go.Proofs.Try.prog 96 := zB Go.Proofs.Try.func96 rfl (by decide)
instance : Ent Go.Proofs.Try.prog 97 := zB Go.Proofs.Try.func97 rfl (by decide)
instance : Ent Go.Proofs.Try.prog 98 := zB Go.Proofs.Try.func98 rfl (by decide)
instance : Ent Go.Proofs.Try.prog 99 := zB Go.Proofs.Try.func99 rfl (by decide)
instance : Ent Go.Proofs.Try.prog 100 := zB Go.Proofs.Try.func100 rfl (by decide)
instance : Ent Go.Proofs.Try.prog 101 := zB Go.Proofs.Try.func101 rfl (by decide)
instance : Ent Go.Proofs.Try.prog 102 := zB Go.Proofs.Try.func102 rfl (by decide)
instance : Ent Go.Proofs.Try.prog 103 := zB Go.Proofs.Try.func103 rfl (by decide)
instance : Ent Go.Proofs.Try.prog 104 := zB Go.Proofs.Try.func104 rfl (by decide)
instance : Ent Go.Proofs.Try.prog 105 := zB Go.Proofs.Try.func105 rfl (by decide)
instance : Ent Go.Proofs.Try.prog 106 := zB Go.Proofs.Try.func106 rfl (by decide)
instance : Ent Go.Proofs.Try.prog 107 := zB Go.Proofs.Try.func107 rfl (by decide)
instance : Ent Go.Proofs.Try.prog 108 := zB Go.Proofs.Try.func108 rfl (by decide)
instance : Ent Go.Proofs.Try.prog 109 := zB Go.Proofs.Try.func109 rfl (by decide)
instance : Ent Go.Proofs.Try.prog 110 := zB Go.Proofs.Try.func110 rfl (by decide)
instance : Ent Go.Proofs.Try.prog 111 := zB Go.Proofs.Try.func111 rfl (by decide)
instance : Ent Go.Proofs.Try.prog 112 := zB Go.Proofs.Try.func112 rfl (by decide)
instance : Ent Go.Proofs.Try.prog 113 := zB Go.Proofs.Try.func113 rfl (by decide)
instance : Ent Go.Proofs.Try.prog 114 := zB Go.Proofs.Try.func114 rfl (by decide)
instance : Ent Go.Proofs.Try.prog 115 := zB Go.Proofs.Try.func115 rfl (by decide)
instance : Ent Go.Proofs.Try.prog 116 := zB Go.Proofs.Try.func116 rfl (by decide)
instance : Ent Go.Proofs.Try.prog 117 := zB Go.Proofs.Try.func117 rfl (by decide)
instance : Ent Go.Proofs.Try.prog 118 := zB Go.Proofs.Try.func118 rfl (by decide)
instance : Ent Go.Proofs.Try.prog 119 := zB Go.Proofs.Try.func119 rfl (by decide)
instance : Ent Go.Proofs.Try.prog 120 := zB Go.Proofs.Try.func120 rfl (by decide)
instance : Ent Go.Proofs.Try.prog 121 := zB Go.Proofs.Try.func121 rfl (by decide)
instance : Ent Go.Proofs.Try.prog 122 := zB Go.Proofs.Try.func122 rfl (by decide)
instance : Ent Go.Proofs.Try.prog 123 := zB Go.Proofs.Try.func123 rfl (by decide)
instance : Ent Go.Proofs.Try.prog 124 := zB Go.Proofs.Try.func124 rfl (by decide)
instance : Ent Go.Proofs.Try.prog 125 := zB Go.Proofs.Try.func125 rfl (by decide)
instance : Ent Go.Proofs.Try.prog 126 := zB Go.Proofs.Try.func126 rfl (by decide)
instance : Ent Go.Proofs.Try.prog 127 := zB Go.Proofs.Try.func127 rfl (by decide)
instance : Ent Go.Proofs.Try.prog 128 := zB Go.Proofs.Try.func128 rfl (by decide)
instance : Ent Go.Proofs.Try.prog 129 := zB Go.Proofs.Try.func129 rfl (by decide)
instance : Ent Go.Proofs.Try.prog 130 := zB Go.Proofs.Try.func130 rfl (by decide)
instance : Ent Go.Proofs.Try.prog 131 := zB Go.Proofs.Try.func131 rfl (by decide)
instance : Ent Go.Proofs.Try.prog 132 := zB Go.Proofs.Try.func132 rfl (by decide)
instance : Ent Go.Proofs.Try.prog 133 := zB Go.Proofs.Try.func133 rfl (by decide)
instance : Ent Go.Proofs.Try.prog 134 := zB Go.Proofs.Try.func134 rfl (by decide)
instance : Ent Go.Proofs.Try.prog 135 := zB Go.Proofs.Try.func135 rfl (by decide)
instance : Ent Go.Proofs.Try.prog 136 := zB Go.Proofs.Try.func136 rfl (by decide)
instance : Ent Go.Proofs.Try.prog 137 := zB Go.Proofs.Try.func137 rfl (by decide)
instance : Ent Go.Proofs.Try.prog 138 := zB Go.Proofs.Try.func138 rfl (by decide)
instance : Ent Go.Proofs.Try.prog 139 := zB Go.Proofs.Try.func139 rfl (by decide)
instance : Ent Go.Proofs.Try.prog 140 := zB Go.Proofs.Try.func140 rfl (by decide)
instance : Ent Go.Proofs.Try.prog 141 := zB Go.Proofs.Try.func141 rfl (by decide)
instance : Ent Go.Proofs.Try.prog 142 := zB Go.Proofs.Try.func142 rfl (by decide)
instance : Ent Go.Proofs.Try.prog 143 := zB Go.Proofs.Try.func143 rfl (by decide)
instance : Ent Go.Proofs.Try.prog 144 := zB Go.Proofs.Try.func144 rfl (by decide)
instance : Ent Go.Proofs.Try.prog 145 := zB Go.Proofs.Try.func145 rfl (by decide)
instance : Ent Go.Proofs.Try.prog 146 := zB Go.Proofs.Try.func146 rfl (by decide)
instance : Ent Go.Proofs.Try.prog 147 := zB Go.Proofs.Try.func147 rfl (by decide)
instance : Ent Go.Proofs.Try.prog 148 := zB Go.Proofs.Try.func148 rfl (by decide)
instance : Ent Go.Proofs.Try.prog 149 := zB Go.Proofs.Try.func149 rfl (by decide)
instance : Ent Go.Proofs.Try.prog 150 := zB Go.Proofs.Try.func150 rfl (by decide)
instance : Ent Go.Proofs.Try.prog 151 := zB Go.Proofs.Try.func151 rfl (by decide)
instance : Ent Go.Proofs.Try.prog 152 := zB Go.Proofs.Try.func152 rfl (by decide)
instance : Ent Go.Proofs.Try.prog 153 := zB Go.Proofs.Try.func153 rfl (by decide)
instance : Ent Go.Proofs.Try.prog 154 := zB Go.Proofs.Try.func154 rfl (by decide)
instance : Ent Go.Proofs.Try.prog 155 := zB Go.Proofs.Try.func155 rfl (by decide)
instance : Ent Go.Proofs.Try.prog 156 := zB Go.Proofs.Try.func156 rfl (by decide)
instance : Ent Go.Proofs.Try.prog 157 := zB Go.Proofs.Try.func157 rfl (by decide)
instance : Ent Go.Proofs.Try.prog 158 := zB Go.Proofs.Try.func158 rfl (by decide)
instance : Ent Go.Proofs.Try.prog 159 := zB Go.Proofs.Try.func159 rfl (by decide)
instance : Ent Go.Proofs.Try.prog 160 := zB Go.Proofs.Try.func160 rfl (by decide)
instance : Ent Go.Proofs.Try.prog 161 := zB Go.Proofs.Try.func161 rfl (by decide)
instance : Ent Go.Proofs.Try.prog 162 := zB Go.Proofs.Try.func162 rfl (by decide)
instance : Ent Go.Proofs.Try.prog 163 := zB Go.Proofs.Try.func163 rfl (by decide)
instance : Ent Go.Proofs.Try.prog 164 := zB Go.Proofs.Try.func164 rfl (by decide)
instance : Ent Go.Proofs.Try.prog 165 := zB Go.Proofs.Try.func165 rfl (by decide)
instance : Ent Go.Proofs.Try.prog 166 := zB Go.Proofs.Try.func166 rfl (by decide)
instance : Ent Go.Proofs.Try.prog 167 := zB Go.Proofs.Try.func167 rfl (by decide)
instance : Ent Go.Proofs.Try.prog 168 := zB Go.Proofs.Try.func168 rfl (by decide)
instance : Ent Go.Proofs.Try.prog 169 := zB Go.Proofs.Try.func169 rfl (by decide)
instance : Ent Go.Proofs.Try.prog 170 := zB Go.Proofs.Try.func170 rfl (by decide)
instance : Ent Go.Proofs.Try.prog 171 := zB Go.Proofs.Try.func171 rfl (by decide)
instance : Ent Go.Proofs.Try.prog 172 := zB Go.Proofs.Try.func172 rfl (by decide)
instance : Ent Go.Proofs.Try.prog 173 := zB Go.Proofs.Try.func173 rfl (by decide)
instance : Ent Go.Proofs.Try.prog 174 := zB Go.Proofs.Try.func174 rfl (by decide)
instance : Ent Go.Proofs.Try.prog 175 := zB Go.Proofs.Try.func175 rfl (by decide)
instance : Ent Go.Proofs.Try.prog 176 := zB Go.Proofs.Try.func176 rfl (by decide)
instance : Ent Go.Proofs.Try.prog 177 := zB Go.Proofs.Try.func177 rfl (by decide)
instance : Ent Go.Proofs.Try.prog 178 := zB Go.Proofs.Try.func178 rfl (by decide)
instance : Ent Go.Proofs.Try.prog 179 := zB Go.Proofs.Try.func179 rfl (by decide)
instance : Ent Go.Proofs.Try.prog 180 := zB Go.Proofs.Try.func180 rfl (by decide)
instance : Ent Go.Proofs.Try.prog 181 := zB Go.Proofs.Try.func181 rfl (by decide)
instance : Ent Go.Proofs.Try.prog 182 := zB Go.Proofs.Try.func182 rfl (by decide)
instance : Ent Go.Proofs.Try.prog 183 := zB Go.Proofs.Try.func183 rfl (by decide)
instance : Ent Go.Proofs.Try.prog 184 := zB Go.Proofs.Try.func184 rfl (by decide)
instance : Ent Go.Proofs.Try.prog 185 := zB Go.Proofs.Try.func185 rfl (by decide)
instance : Ent Go.Proofs.Try.prog 186 := zB Go.Proofs.Try.func186 rfl (by decide)
end Go.Proofs.Ytkcicbigpbdjpaa.Ab
namespace Go.Proofs.Ytkcicbigpbdjpaa.Ab
open Go.RowKit
structure Rw where
  a : Int
  b : Int
  c : Int
def rwE (r : Rw) : List V := [I r.a, I r.b, I r.c]
def rwT : Ty Rw := ⟨3, rwE, fun _ => rfl, by decide, fun r c hc => by
  simp only [rwE, List.mem_cons, List.not_mem_nil, or_false] at hc
  rcases hc with rfl | rfl | rfl <;> exact ⟨rfl, rfl⟩⟩
abbrev rwL (xs : List Rw) : V := x2 rwT xs
abbrev rwR (xs : List Rw) : Reg := yf rwT 71 xs
def szL (n : Nat) (left : Int) : Int := cond (decide (IntKind.i64.wrap (left - n) < 0)) (-1) (IntKind.i64.wrap (left - n))
def z3 : Rw := ⟨0, 0, 0⟩
def eqC (x y : Rw) : Bool := bif !(decide (x.a = y.a)) then false else bif !(decide (x.b = y.b)) then false else bif !(decide (x.c = y.c)) then false else true
def eqL : List Rw → List Rw → Bool
  | [], [] => true
  | x :: xs, y :: ys => eqC x y && eqL xs ys
  | _, _ => false
def kk (k : Int) : Nat → Int
  | 0 => k
  | n + 1 => IntKind.i64.wrap (kk k n + 1)
theorem sD {k : Int} (h0 : 0 ≤ k) (h1 : k ≤ 1000000000000) : ∀ {n : Nat}, n ≤ 1000000000000 → kk k n = k + n
  | 0, _ => by simp [kk]
  | n + 1, hn => by rw [kk, sD h0 h1 (by omega), IntKind.wrap_i64]; omega
theorem qG {α : Type} {g : Nat → α} {xs : List α} {i : Nat} (h : i < xs.length) : ((List.range i).map g ++ xs.drop i).set i (g i) = (List.range (i + 1)).map g ++ xs.drop (i + 1) := by
  rw [List.set_append_right _ _ (by simp), List.length_map, List.length_range, Nat.sub_self, List.drop_eq_getElem_cons h, List.set_cons_zero, List.range_succ, List.map_append, List.append_assoc]
  rfl
def mkRw (k : Int) (j : Nat) : Rw := ⟨kk k (3 * j), kk k (3 * j + 1), kk k (3 * j + 2)⟩
def mkC (k : Int) (xs : List Rw) (i : Nat) : List Rw := (List.range i).map (mkRw k) ++ xs.drop i
theorem xh (k : Int) {xs : List Rw} {i : Nat} (h : i ≤ xs.length) : (mkC k xs i).length = xs.length := by simp [mkC]; omega
theorem t8 {k : Int} {xs : List Rw} : ∀ (i : Nat) (x : Rw), (mkC k xs xs.length)[i]? = some x → x = mkRw k i := fun i x h => by
  unfold mkC at h
  rw [List.drop_length, List.append_nil, List.getElem?_map] at h
  cases hi : (List.range xs.length)[i]? with
  | none => rw [hi] at h; cases h
  | some j =>
    rw [hi] at h
    have hj : j = i := by
      obtain ⟨q, e⟩ := List.getElem?_eq_some_iff.1 hi
      simpa using e.symm
    subst hj
    simpa using h.symm
end Go.Proofs.Ytkcicbigpbdjpaa.Ab
namespace Go.Proofs.Ytkcicbigpbdjpaa.Ab
open Go.RowKit
abbrev Rn := List Rw
abbrev rnT : Ty Rn := lsT rwT
abbrev rnL (rs : List Rn) : V := x2 rnT rs
abbrev rnN (rs : List Rn) : List Reg := ⟨39, 1, nC 1 rs, 0⟩ :: nR rwT 71 rs
def okRn (rs : List Rn) : Prop := rs.length ≤ 1000000000 ∧ ∀ x ∈ rs, x.length ≤ 1000000000
theorem okRn.at {rs : List Rn} (h : okRn rs) {i : Nat} {x : Rn} (hx : rs[i]? = some x) : x.length ≤ 1000000000 := h.2 x (List.mem_of_getElem? hx)
def szG : List Rn → Int → Int
  | [], l => l
  | x :: xs, l => cond (decide (szL x.length l < 0)) (-1) (szG xs (szL x.length l))
def szR (rs : List Rn) (l : Int) : Int := cond (decide (IntKind.i64.wrap (l - rs.length) < 0)) (-1) (szG rs (IntKind.i64.wrap (l - rs.length)))
def tot (rs : List Rn) : Nat := (rs.map List.length).sum
abbrev nilV : V := .k (.slice none 0 0)
end Go.Proofs.Ytkcicbigpbdjpaa.Ab
namespace Go.Proofs.Ytkcicbigpbdjpaa.Ab
open Go.RowKit
def mkRu : Int → List Rn → List Rn
  | _, [] => []
  | k, x :: xs => mkC k x x.length :: mkRu (kk k (3 * x.length)) xs
def mid (k : Int) (rs : List Rn) (i : Nat) : List Rn := mkRu k (rs.take i) ++ rs.drop i
theorem sE {k : Int} {n : Nat} (h0 : 0 ≤ k) (h1 : k ≤ 1000000000) (hn : n ≤ 1000000000) : decide (kk k n < 0) = false := by
  rw [sD h0 (by omega) (by omega)]
  simp
  omega
end Go.Proofs.Ytkcicbigpbdjpaa.Ab
namespace Go.Proofs.Ytkcicbigpbdjpaa.Ab
open Go.RowKit
def inV (x lo hi : Int) : Bool := decide (lo ≤ x) && decide (x ≤ hi)
def vRw (x : Rw) : Bool := inV x.a 0 9 && (inV x.b 0 99 && inV x.c 0 3)
def avR (xs : List Rw) : Bool := xs.all vRw && decide ((xs.length : Int) ≤ 24)
end Go.Proofs.Ytkcicbigpbdjpaa.Ab
namespace Go.Proofs.Ytkcicbigpbdjpaa.Ab.Gq
open Go.RowKit
structure Gr where
  k : Int
  n : Int
  s : Int
  lo : Int
  hi : Int
def gE (x : Gr) : List V := [I x.k, I x.n, I x.s, I x.lo, I x.hi]
def gT : Ty Gr := ⟨5, gE, fun _ => rfl, by decide, fun r c hc => by
  simp only [gE, List.mem_cons, List.not_mem_nil, or_false] at hc
  rcases hc with rfl | rfl | rfl | rfl | rfl <;> exact ⟨rfl, rfl⟩⟩
abbrev gL (xs : List Gr) : V := x2 gT xs
abbrev gR (xs : List Gr) : Reg := yf gT 95 xs
theorem sJ (xs : List Gr) : uw (gT.flat xs) := fun c hc => by
  simp only [Ty.flat, List.mem_flatMap] at hc
  obtain ⟨x, _, hx⟩ := hc
  simp only [gT, gE, List.mem_cons, List.not_mem_nil, or_false] at hx
  rcases hx with rfl | rfl | rfl | rfl | rfl <;> exact ⟨_, rfl⟩
theorem tR (xs : List Gr) (k : Nat) : ((gT.flat xs).drop (0 * 5)).take ((k - 0) * 5) = gT.flat (xs.take k) := by
  rw [Nat.zero_mul, List.drop_zero, Nat.sub_zero, show k * 5 = k * gT.n from rfl, yx]
theorem sr (xs : List Gr) (k : Nat) : ((gT.flat xs).drop (k * 5)).take ((xs.length - k) * 5) = gT.flat (xs.drop k) := by
  rw [show k * 5 = k * gT.n from rfl, xO, show (xs.length - k) * 5 = (xs.length - k) * gT.n from rfl, yx, List.take_of_length_le (by simp)]
theorem pur_g {H : List Reg} {h n : Nat} {xs : List Gr} (hH : H[h]? = some (gR xs)) : Pur true H (.sl h 0 xs.length) (gL xs) := pur_L hH rfl rfl rfl
def mnV (m n : Int) : Int := if n < m then n else m
def mxV (m n : Int) : Int := if n > m then n else m
def cmb (x y : Gr) : Gr := ⟨x.k, IntKind.i64.wrap (x.n + y.n), IntKind.i64.wrap (x.s + y.s), mnV x.lo y.lo, mxV x.hi y.hi⟩
def yN (x y : Gr) : Gr := cond (decide (x.k = y.k)) (cmb x y) x
theorem up (x y : Gr) : zr Go.Proofs.Try.prog 99 [.agg (gE x), .agg (gE y)] [] (.agg (gE (yN x y))) [] true := by
  refine xt 4 95 Go.Proofs.Try.func99 rfl rfl ?_
  simp only [Go.Proofs.Try.ntmps99, List.length_cons, List.length_nil, Nat.reduceAdd, Nat.reduceSub, List.replicate_succ, List.replicate_zero, List.cons_append, List.nil_append]
  repeat' first | refine zN ?_ | refine zC ?_ | refine zS [] ?_ | (refine isA ?_; refine zg rfl ?_) | (refine isL ?_; refine zW rfl (by kernel_rfl) rfl rfl ?_) | (refine zj rfl ?_; refine zV rfl (by kernel_rfl) rfl rfl ?_) | refine zD ?_ | refine zE _ rfl (by kernel_rfl) ?_ | refine zX rfl ?_ | refine zY rfl ?_ | refine zF ?_ | with_reducible refine zM ?_ | refine zK ?_ | refine zL ?_ | (with_reducible first | refine zP ?_ | refine zQ ?_ | refine zH ?_ | refine zJ ?_ | refine zI ?_) | refine zR ?_
  refine zo rfl (fun h => ?_) (fun h => ?_)
  · have h1 : decide (x.k = y.k) = false := by simpa using h
    repeat' first | refine zN ?_ | refine zC ?_ | refine zS [] ?_ | (refine isA ?_; refine zg rfl ?_) | (refine isL ?_; refine zW rfl (by kernel_rfl) rfl rfl ?_) | (refine zj rfl ?_; refine zV rfl (by kernel_rfl) rfl rfl ?_) | exact (by rw [yN, h1]; exact sM (xo rfl rfl rfl rfl rfl) (.same rfl)) | refine zD ?_ | refine zE _ rfl (by kernel_rfl) ?_ | refine zX rfl ?_ | refine zY rfl ?_ | refine zF ?_ | with_reducible refine zM ?_ | refine zK ?_ | refine zL ?_ | (with_reducible first | refine zP ?_ | refine zQ ?_ | refine zH ?_ | refine zJ ?_ | refine zI ?_) | refine zR ?_
  · have h1 : decide (x.k = y.k) = true := by simpa using h
    repeat' first | refine zN ?_ | refine zC ?_ | refine zS [] ?_ | (refine isA ?_; refine zg rfl ?_) | (refine isL ?_; refine zW rfl (by kernel_rfl) rfl rfl ?_) | (refine zj rfl ?_; refine zV rfl (by kernel_rfl) rfl rfl ?_) | exact (by rw [yN, h1]; exact sM (xo rfl rfl rfl rfl rfl) (.same rfl)) | refine zD ?_ | refine zE _ rfl (by kernel_rfl) ?_ | refine zX rfl ?_ | refine zY rfl ?_ | refine zF ?_ | with_reducible refine zM ?_ | refine zK ?_ | refine zL ?_ | (with_reducible first | refine zP ?_ | refine zQ ?_ | refine zH ?_ | refine zJ ?_ | refine zI ?_) | refine zR ?_
theorem uo (x y : Gr) : zr Go.Proofs.Try.prog 100 [.agg (gE x), .agg (gE y)] [] (.agg (gE (yN x y))) [] true := by
  refine xt 4 95 Go.Proofs.Try.func100 rfl rfl ?_
  simp only [Go.Proofs.Try.ntmps100, List.length_cons, List.length_nil, Nat.reduceAdd, Nat.reduceSub, List.replicate_succ, List.replicate_zero, List.cons_append, List.nil_append]
  repeat' first | refine zN ?_ | refine zC ?_ | refine zS [] ?_ | (refine isA ?_; refine zg rfl ?_) | (refine isL ?_; refine zW rfl (by kernel_rfl) rfl rfl ?_) | (refine zj rfl ?_; refine zV rfl (by kernel_rfl) rfl rfl ?_) | refine zD ?_ | refine zE _ rfl (by kernel_rfl) ?_ | refine zX rfl ?_ | refine zY rfl ?_ | refine zF ?_ | with_reducible refine zM ?_ | refine zK ?_ | refine zL ?_ | (with_reducible first | refine zP ?_ | refine zQ ?_ | refine zH ?_ | refine zJ ?_ | refine zI ?_) | refine zR ?_
  refine zo rfl (fun h => ?_) (fun h => ?_)
  · have h1 : decide (x.k = y.k) = false := by simpa using h
    repeat' first | refine zN ?_ | refine zC ?_ | refine zS [] ?_ | (refine isA ?_; refine zg rfl ?_) | (refine isL ?_; refine zW rfl (by kernel_rfl) rfl rfl ?_) | (refine zj rfl ?_; refine zV rfl (by kernel_rfl) rfl rfl ?_) | exact (by rw [yN, h1]; exact sM (xo rfl rfl rfl rfl rfl) (.same rfl)) | refine zD ?_ | refine zE _ rfl (by kernel_rfl) ?_ | refine zX rfl ?_ | refine zY rfl ?_ | refine zF ?_ | with_reducible refine zM ?_ | refine zK ?_ | refine zL ?_ | (with_reducible first | refine zP ?_ | refine zQ ?_ | refine zH ?_ | refine zJ ?_ | refine zI ?_) | refine zR ?_
  · have h1 : decide (x.k = y.k) = true := by simpa using h
    repeat' first | refine zN ?_ | refine zC ?_ | refine zS [] ?_ | (refine isA ?_; refine zg rfl ?_) | (refine isL ?_; refine zW rfl (by kernel_rfl) rfl rfl ?_) | (refine zj rfl ?_; refine zV rfl (by kernel_rfl) rfl rfl ?_) | exact (by rw [yN, h1]; exact sM (xo rfl rfl rfl rfl rfl) (.same rfl)) | refine zD ?_ | refine zE _ rfl (by kernel_rfl) ?_ | refine zX rfl ?_ | refine zY rfl ?_ | refine zF ?_ | with_reducible refine zM ?_ | refine zK ?_ | refine zL ?_ | (with_reducible first | refine zP ?_ | refine zQ ?_ | refine zH ?_ | refine zJ ?_ | refine zI ?_) | refine zR ?_
def ofR (x : Rw) : Gr := ⟨x.a, 1, x.b, x.b, x.b⟩
end Go.Proofs.Ytkcicbigpbdjpaa.Ab.Gq
namespace Go.Proofs.Ytkcicbigpbdjpaa.Ab
open Go.RowKit
section
variable {P : Program}
def deadR (r : Reg) : Reg := { r with mode := 2 }
end
@[irreducible] def Hold (p : Prop) : Prop := p
theorem pk {p : Prop} (h : p) : Hold p := by unfold Hold; exact h
end Go.Proofs.Ytkcicbigpbdjpaa.Ab
namespace Go.Proofs.Ytkcicbigpbdjpaa.Ab
open Go.RowKit
def enE (p : Int × Nat) : MapEntry := { key := .int .i64 p.1, val := .int .i64 p.2, born := p.2 }
def enM (ks : List Int) : Array MapEntry := (ks.zipIdx.map enE).toArray
structure InvR (r : Nat) (ks : List Int) (C : Cx) (φ : List Hd) (S : St) (a : Act) (w : World) : Prop where
  m : C.φ0.length = S.m
  ex : ∃ A, InvA C A φ S.H w ∧ zG A w φ S.tmps (fun i => a.tmps[i]?) ∧ ¬ A r
  size : a.tmps.size = S.tmps.length
  defers : a.defers = []
  live : ∀ h, ¬ zO φ S.H h r
  blk : w.heap[r]? = some (.map (enM ks) ks.length)
  new : C.w0.heap.size ≤ r
theorem InvR.inv {r : Nat} {ks : List Int} {C : Cx} {φ : List Hd} {S : St} {a : Act} {w : World} (h : InvR r ks C φ S a w) : Inv C φ S a w := by
  obtain ⟨A, h1, h2, _⟩ := h.ex
  exact ⟨h.m, ⟨A, h1, h2⟩, h.size, h.defers⟩
theorem InvR.lt {r : Nat} {ks : List Int} {C : Cx} {φ : List Hd} {S : St} {a : Act} {w : World} (h : InvR r ks C φ S a w) : r < w.heap.size := (Array.getElem?_eq_some_iff.1 h.blk).1
theorem InvR.root {r : Nat} {ks : List Int} {C : Cx} {φ : List Hd} {l : List V} {H : List Reg} {m : Nat} {a : Act} {w : World} (hI : InvR r ks C φ ⟨l, H, m⟩ a w) :
    ∃ C1 : Cx, Inv C1 φ ⟨l, H, H.length⟩ a w ∧ ∀ φ' S' a' w', Inv C1 φ' S' a' w' → InvR r ks C φ' ⟨S'.tmps, S'.H, m⟩ a' w' := by
  have hlt := hI.lt
  obtain ⟨hm, ⟨A, hA, hr, hn⟩, hs, hd, hl, hb, hw⟩ := hI
  simp only at hm hA hr hs hl
  refine ⟨⟨A, w, φ, H⟩, ⟨hA.ok.len, ⟨A, ⟨hA.ok, fun b hb => Or.inl hb, fun h b hl => Or.inr ⟨h, hl⟩, ⟨rfl, rfl, rfl, Nat.le_refl _, fun _ _ _ => rfl⟩, fun _ _ h => h⟩, hr⟩, hs, hd⟩, ?_⟩
  rintro φ' S' a' w' ⟨_, ⟨A', hA', hr'⟩, hs', hd'⟩
  have f := hA'.frame
  refine ⟨hm, ⟨A', ⟨hA'.ok, fun b hb => ?_, fun h b hl => ?_, ⟨f.os.trans hA.frame.os, f.tape.trans hA.frame.tape, f.output.trans hA.frame.output, Nat.le_trans hA.frame.size f.size, fun b hb hno => ?_⟩, fun h hd hh => hA'.pre h hd (hA.pre h hd hh)⟩, hr', fun hA1 => ?_⟩, hs', hd', fun h hl' => ?_, ?_, hw⟩
  · rcases hA'.old b hb with h | h
    · exact hA.old b h
    · exact Or.inr (Nat.le_trans hA.frame.size h)
  · rcases hA'.own h b hl with h1 | ⟨h0, h1⟩
    · exact Or.inl (Nat.le_trans hA.frame.size h1)
    · exact hA.own h0 b h1
  · refine (f.block b (Nat.lt_of_lt_of_le hb hA.frame.size) fun h hl => ?_).trans (hA.frame.block b hb hno)
    rcases hA.own h b hl with h1 | ⟨h0, h1⟩
    · exact absurd hb (Nat.not_lt.2 h1)
    · exact hno h0 h1
  · rcases hA'.old r hA1 with h | h
    · exact hn h
    · exact absurd hlt (Nat.not_lt.2 h)
  · rcases hA'.own h r hl' with h1 | ⟨h0, h1⟩
    · exact absurd hlt (Nat.not_lt.2 h1)
    · exact hl h0 h1
  · exact (f.block r hlt hl).trans hb
def wb (r : Nat) (C : Cx) (Q : Exit → St → List Int → Prop) : Exit → Act → World → Prop := fun e a w => ∃ S φ ks, InvR r ks C φ S a w ∧ Q e S ks
structure AWr (P : Program) (r : Nat) (c : Code) (Q : Exit → St → List Int → Prop) (S : St) (ks : List Int) : Prop where
  out : ∀ C φ a w, InvR r ks C φ S a w → c.wp P (wb r C Q) a w
structure AR (P : Program) (r : Nat) (ops : Array Oper) (l : List Oper) (K : Cx → Exit → Act → World → Prop) (S : St) (ks : List Int) : Prop where
  out : ∀ C φ a w, InvR r ks C φ S a w → wpList P ops (K C) l a w
def uv (K : St → List Int → Prop) (Q : Exit → St → List Int → Prop) : Exit → St → List Int → Prop
  | .normal, S, ks => K S ks
  | e, S, ks => Q e S ks
def wa (id : Nat) (Q : Exit → St → List Int → Prop) : Exit → St → List Int → Prop
  | .exit j, S, ks => if j = id then Q .normal S ks else Q (.exit j) S ks
  | e, S, ks => Q e S ks
section
variable {P : Program} {r : Nat} {Q : Exit → St → List Int → Prop} {S : St} {ks : List Int}
theorem y4 {c : Code} {l : List V} {H : List Reg} {m : Nat} (h : AW P c (fun e S' => Q e ⟨S'.tmps, S'.H, m⟩ ks) ⟨l, H, H.length⟩) : AWr P r c Q ⟨l, H, m⟩ ks := ⟨fun C φ a w hI => by
  obtain ⟨C1, h1, h2⟩ := hI.root
  exact wp_mono (h.out C1 φ a w h1) fun e a' w' ⟨S', φ', k1, k2⟩ => ⟨_, φ', ks, h2 _ _ _ _ k1, k2⟩⟩
theorem s3 {id : Nat} (h : Q (.exit id) S ks) : AWr P r (.exit id) Q S ks := ⟨fun C φ a w hI => wp_exit ⟨S, φ, ks, hI, h⟩⟩
theorem s1 (h : Q .normal S ks) : AWr P r .skip Q S ks := ⟨fun C φ a w hI => wp_skip ⟨S, φ, ks, hI, h⟩⟩
theorem yW {x y : Code} (h : AWr P r x (uv (AWr P r y Q) Q) S ks) : AWr P r (.seq x y) Q S ks := ⟨fun C φ a w hI => by
  refine wp_seq (wp_mono (h.out C φ a w hI) ?_)
  rintro e a' w' ⟨S', φ', ks', hI', hq⟩
  cases e with
  | normal => exact hq.out C φ' a' w' hI'
  | exit id => exact ⟨S', φ', ks', hI', hq⟩
  | goto l => exact ⟨S', φ', ks', hI', hq⟩
  | ret => exact ⟨S', φ', ks', hI', hq⟩
  | panic c => exact ⟨S', φ', ks', hI', hq⟩
  | outgrown => exact ⟨S', φ', ks', hI', hq⟩⟩
theorem vm {c : Operand} {x y : Code} {b : Bool} (hc : S.ev c = .k (.bool b)) (ht : b = true → AWr P r x Q S ks) (hf : b = false → AWr P r y Q S ks) : AWr P r (.cond c x y) Q S ks := ⟨fun C φ a w hI => by
  obtain ⟨A, hA, hr, _⟩ := hI.ex
  have h1 := ye hr c
  rw [hc, Rel] at h1
  refine wp_cond h1 ?_
  cases b with
  | true => exact (ht rfl).out C φ a w hI
  | false => exact (hf rfl).out C φ a w hI⟩
theorem wt {id : Nat} {c : Code} (h : AWr P r c (wa id Q) S ks) : AWr P r (.block id c) Q S ks := ⟨fun C φ a w hI => by
  refine wp_block (wp_mono (h.out C φ a w hI) ?_)
  rintro e a' w' ⟨S', φ', ks', hI', hq⟩
  cases e with
  | normal => exact ⟨S', φ', ks', hI', hq⟩
  | exit j =>
    simp only [wa] at hq
    simp only [Exit.inBlock]
    by_cases hj : j = id
    · rw [if_pos hj] at hq ⊢; exact ⟨S', φ', ks', hI', hq⟩
    · rw [if_neg hj] at hq ⊢; exact ⟨S', φ', ks', hI', hq⟩
  | goto l => exact ⟨S', φ', ks', hI', hq⟩
  | ret => exact ⟨S', φ', ks', hI', hq⟩
  | panic c => exact ⟨S', φ', ks', hI', hq⟩
  | outgrown => exact ⟨S', φ', ks', hI', hq⟩⟩
theorem wY {id : Nat} {l : List Oper} (h : AR P r l.toArray l (fun C => wb r C Q) S ks) : AWr P r (.region id l.toArray false) Q S ks := ⟨fun C φ a w hI => wp_region_lit (h.out C φ a w hI)⟩
theorem v8 {ops : Array Oper} (h : Q .normal S ks) : AR P r ops [] (fun C => wb r C Q) S ks := ⟨fun C φ a w hI => wpList_nil ⟨S, φ, ks, hI, h⟩⟩
def s8 (T S : St) : Prop := T.m = S.m ∧ ∃ ψ : List Nat, (∀ i, i < S.m → ψ[i]? = some i) ∧ HLe ψ T.H S.H ∧ Les ψ T.tmps S.tmps
theorem s8.inv {T S : St} {C : Cx} {φ : List Hd} {a : Act} {w : World} (hs : s8 T S) (hI : InvR r ks C φ S a w) : ∃ φ', InvR r ks C φ' T a w := by
  obtain ⟨hm, ψ, hfix, hH, ht⟩ := hs
  obtain ⟨hm0, ⟨A, hA, hr, hn⟩, hs, hd, hl, hb, hw⟩ := hI
  obtain ⟨φ', h1, h2, h3, h4⟩ := hH.ok hA.ok
  refine ⟨φ', hm0.trans hm.symm, ⟨A, ⟨h3, hA.old, fun i b hb => ?_, hA.frame, fun i hd' hi => ?_⟩, Les.rels h2 ht hr, hn⟩, hs.trans (yE ht), hd, fun h hl' => ?_, hb, hw⟩
  · obtain ⟨h, hb'⟩ := h4 i b hb
    exact hA.own h b hb'
  · exact h2 i i (hfix i (by rw [← hm0]; exact (List.getElem?_eq_some_iff.1 hi).1)) hd' (hA.pre i hd' hi)
  · obtain ⟨h', hb'⟩ := h4 h r hl'
    exact hl h' hb'
theorem s2 {α : Type} {c : Code} (I : α → St × List Int) (μ : α → Nat) (x : α) (h0 : s8 (I x).1 S ∧ (I x).2 = ks)
    (round : ∀ x, AWr P r c (uv (fun S' ks' => ∃ y, μ y < μ x ∧ s8 (I y).1 S' ∧ (I y).2 = ks') Q) (I x).1 (I x).2) : AWr P r (.loop c) Q S ks := ⟨fun C φ a w hI => by
  obtain ⟨h0, hks⟩ := h0
  subst hks
  obtain ⟨φ0, hI0⟩ := h0.inv hI
  intro b k cs
  have key : ∀ n x, μ x = n → ∀ φ a w, InvR r (I x).2 C φ (I x).1 a w →
      ∃ e a' w', wb r C Q e a' w' ∧ Arrives P (lone (b.at a (.code c :: .inLoop c :: k)) cs w) b k cs e a' w' := by
    intro n
    induction n using Nat.strongRecOn with
    | _ n ih =>
      intro x hn φ a w hI
      obtain ⟨e, a1, w1, ⟨S1, φ1, ks1, hI1, hq⟩, harr⟩ := (round x).out C φ a w hI b (.inLoop c :: k) cs
      cases e with
      | normal =>
        obtain ⟨y, hlt, hsub, hks⟩ := hq
        subst hks
        obtain ⟨φ2, hI2⟩ := hsub.inv hI1
        obtain ⟨e2, a2, w2, hq2, harr2⟩ := ih (μ y) (hn ▸ hlt) y rfl φ2 a1 w1 hI2
        exact ⟨e2, a2, w2, hq2, .of_steps (Steps.trans harr (.one step_inLoop)) harr2⟩
      | exit id => exact ⟨_, a1, w1, ⟨S1, φ1, ks1, hI1, hq⟩, .pass (x := .inLoop c) rfl (fun _ _ => .inl (by simp)) harr⟩
      | goto l => exact ⟨_, a1, w1, ⟨S1, φ1, ks1, hI1, hq⟩, .pass (x := .inLoop c) rfl (fun _ _ => .inl (by simp)) harr⟩
      | ret => exact ⟨_, a1, w1, ⟨S1, φ1, ks1, hI1, hq⟩, .pass (x := .inLoop c) rfl (fun _ _ => .inl (by simp)) harr⟩
      | panic ch => exact ⟨_, a1, w1, ⟨S1, φ1, ks1, hI1, hq⟩, .pass (x := .inLoop c) rfl (fun _ _ => .inl (by simp)) harr⟩
      | outgrown => exact ⟨_, a1, w1, ⟨S1, φ1, ks1, hI1, hq⟩, .pass (x := .inLoop c) rfl (fun _ _ => .inl (by simp)) harr⟩
  obtain ⟨e, a', w', hq, harr⟩ := key _ x rfl φ0 a w hI0
  exact ⟨e, a', w', hq, .of_steps (.one step_loop) harr⟩⟩
end
theorem tU {T S : St} (ψ : List Nat) (hm : T.m = 0) (hm' : S.m = 0) (hn : ψ.Nodup) (hH : HLes ψ S.H ψ T.H) (ht : Les ψ T.tmps S.tmps) : s8 T S := ⟨hm.trans hm'.symm, ψ, fun i hi => by omega, xv hn hH, ht⟩
section
variable {P : Program} {r : Nat} {ops : Array Oper} {K : Cx → Exit → Act → World → Prop} {ks : List Int} {o : Oper} {rest : List Oper} {l l' : List V} {H H' H'' : List Reg} {m : Nat}
theorem ar_R {v : V} (hw : zm ops ⟨l, H, m⟩ o = some true) (hs : zZ P o (St.ev ⟨l, H, m⟩) H v H') (hp : xP l H' o.dst v = some (l', H'')) (k : AR P r ops rest K ⟨l', H'', m⟩ ks) : AR P r ops (o :: rest) K ⟨l, H, m⟩ ks := ⟨fun C φ a w hI => by
  refine wpList_step fun K1 hK => ?_
  rw [if_pos (z6 hI.inv hw)]
  obtain ⟨C1, h1, h2⟩ := hI.root
  refine hs ⟨l, H, H.length⟩ rfl (fun _ _ => rfl) C1 φ a w h1 K1 _ fun x w' φ' hI' => hK _ _ ?_
  have := h2 _ _ _ _ hI'
  rw [show (⟨((⟨l, H, H.length⟩ : St).put o.dst v H').tmps, ((⟨l, H, H.length⟩ : St).put o.dst v H').H, m⟩ : St) = (⟨l, H, m⟩ : St).put o.dst v H' by cases o.dst <;> rfl, yD hp m] at this
  exact k.out C φ' _ _ this⟩
theorem yy {T : Tab} [hT : TabC P T] (h : xa T ops o l H = some (l', H')) (k : AR P r ops rest K ⟨l', H', m⟩ ks) (hw : zm ops ⟨l, H, m⟩ o = some true) : AR P r ops (o :: rest) K ⟨l, H, m⟩ ks := by
  unfold xa at h
  split at h
  · rename_i hw
    split at h
    · rename_i v H'' hv
      exact ar_R (by exact hw) (yv (m := m) hT.ok hv) h k
    · cases h
  · rename_i hw'
    rw [show zm ops ⟨l, H, m⟩ o = some false from hw'] at hw
    cases hw
  · cases h
theorem vC (k : Int) : ∀ (ks : List Int) (i : Nat), Instr.findNow (.int .i64) (.int .i64 k) ((ks.zipIdx i).map enE) i = some ((ks.findIdx? (fun x => decide (x = k))).map fun j => (i + j, Value.int .i64 ((i + j : Nat) : Int)))
  | [], i => rfl
  | x :: ks, i => by
    rw [List.zipIdx_cons, List.map_cons, List.findIdx?_cons]
    simp only [Instr.findNow, enE, Instr.sameNow, if_true]
    by_cases h : x = k
    · subst h
      simp
    · have h1 : (k == x) = false := by simp [Ne.symm h]
      have h2 : decide (x = k) = false := by simp [h]
      rw [h1, h2]
      simp only [vC k ks (i + 1)]
      simp [Option.map_map, Function.comp_def, Nat.add_assoc, Nat.add_comm 1]
def x3 (ks : List Int) (k : Int) : List V := match ks.findIdx? (fun x => decide (x = k)) with
  | some j => [.k (.int .i64 j), .k (.bool true)]
  | none => [.k (.int .i64 0), .k (.bool false)]
theorem tv {w : World} {t kt : TypeId} {k : Int} (ht : P.underlying t = some (.map kt kt)) (hk : P.underlying kt = some (.int .i64)) (hz : (zeroValue kt).run P w = .ok (.int .i64 0) w) (hb : w.heap[r]? = some (.map (enM ks) ks.length)) :
    (Instr.lookup t (.map (some r)) (.int .i64 k) true).run P w = .ok (match ks.findIdx? (fun x => decide (x = k)) with
      | some j => .tuple #[.int .i64 j, .bool true]
      | none => .tuple #[.int .i64 0, .bool false]) w := by
  have h1 := vC k ks 0
  simp only [Nat.zero_add] at h1
  have h2 := MapKept.run_findKey (P := P) (w := w) hk (l := (enM ks).toList) (by rw [enM]; exact h1)
  have h3 := MapKept.run_checkKey (P := P) (w := w) (k := .int .i64 k) hk rfl (enM ks).isEmpty 9999
  unfold Instr.lookup
  simp only [Sem.run_bind, run_underlying ht, Result.andThen_ok, MapKept.run_getObj_map hb, Sem.run_pure]
  rw [h3]
  simp only [Result.andThen_ok]
  rw [h2]
  simp only [Result.andThen_ok]
  cases ks.findIdx? (fun x => decide (x = k)) with
  | none => simp [hz, Result.andThen_ok]
  | some j => simp
theorem ut {t kt : TypeId} {x y : Operand} {k : Int} {vs : List V} (hv : x3 ks k = vs) (hw : zm ops ⟨l, H, m⟩ o = some true) (ho : o.op = .lookup t x y true) (hx : St.ev ⟨l, H, m⟩ x = .k (.map (some r))) (hy : St.ev ⟨l, H, m⟩ y = .k (.int .i64 k))
    (ht : P.underlying t = some (.map kt kt)) (hk : P.underlying kt = some (.int .i64)) (hz : ∀ w, (zeroValue kt).run P w = .ok (.int .i64 0) w) (hp : xP l H o.dst (.tup vs) = some (l', H'')) (h : AR P r ops rest K ⟨l', H'', m⟩ ks) : AR P r ops (o :: rest) K ⟨l, H, m⟩ ks := ⟨fun C φ a w hI => by
  subst hv
  refine wpList_step fun K1 hK => ?_
  rw [if_pos (z6 hI.inv hw)]
  have hI0 := hI
  obtain ⟨hm, ⟨A, hA, hr, hn⟩, hs, hd, hl, hb, hw'⟩ := hI
  have e1 := ye hr x
  rw [hx, Rel] at e1
  have e2 := ye hr y
  rw [hy, Rel] at e2
  have h1 := tv (P := P) (ks := ks) (r := r) (w := w) (k := k) ht hk (hz w) hb
  obtain ⟨u, hu, hru⟩ : ∃ u, (Instr.lookup t (.map (some r)) (.int .i64 k) true).run P w = .ok u w ∧ Rel A w φ (.tup (x3 ks k)) u := by
    refine ⟨_, h1, ?_⟩
    unfold x3
    cases ks.findIdx? (fun x => decide (x = k)) with
    | none => rw [Rel]; exact ⟨_, rfl, rfl, by simp [zG, Rel]⟩
    | some j => rw [Rel]; exact ⟨_, rfl, rfl, by simp [zG, Rel]⟩
  have h2 : (execOp a.eval o).run P w = .ok (.value u) w := by
    simp only [execOp, ho, e1, e2]
    rw [Sem.run_bind, hu]
    rfl
  unfold Oper.wp
  rw [h2]
  obtain ⟨h3, h4⟩ := y3 (H := H) hs hr hru o.dst
  refine hK _ _ (h.out C φ _ _ ?_)
  rw [← yD hp m]
  have eH : ((⟨l, H, m⟩ : St).put o.dst (.tup (x3 ks k)) H).H = H := by cases o.dst <;> rfl
  exact ⟨by cases o.dst <;> exact hm, ⟨A, by rw [eH]; exact hA, h3, hn⟩, h4, by cases o.dst <;> exact hd, by rw [eH]; exact hl, hb, hw'⟩⟩
theorem qR (ks : List Int) (k : Int) : (enM ks).push { key := .int .i64 k, val := .int .i64 (ks.length : Nat), born := ks.length } = enM (ks ++ [k]) := by
  simp [enM, List.zipIdx_append, enE]
theorem pt {t kt : TypeId} {x y z : Operand} {k : Int} (hw : zm ops ⟨l, H, m⟩ o = some true) (ho : o.op = .mapUpdate t x y z) (hd0 : o.dst = none) (hx : St.ev ⟨l, H, m⟩ x = .k (.map (some r))) (hy : St.ev ⟨l, H, m⟩ y = .k (.int .i64 k)) (hz : St.ev ⟨l, H, m⟩ z = .k (.int .i64 (ks.length : Nat)))
    (ht : P.underlying t = some (.map kt kt)) (hk : P.underlying kt = some (.int .i64)) (hno : ks.findIdx? (fun x => decide (x = k)) = none) (h : AR P r ops rest K ⟨l, H, m⟩ (ks ++ [k])) : AR P r ops (o :: rest) K ⟨l, H, m⟩ ks := ⟨fun C φ a w hI => by
  refine wpList_step fun K1 hK => ?_
  rw [if_pos (z6 hI.inv hw)]
  have hlt := hI.lt
  obtain ⟨hm, ⟨A, hA, hr, hn⟩, hs, hd, hl, hb, hw'⟩ := hI
  simp only at hm hA hr hs hl
  have e1 := ye (S := ⟨l, H, m⟩) hr x
  rw [hx, Rel] at e1
  have e2 := ye (S := ⟨l, H, m⟩) hr y
  rw [hy, Rel] at e2
  have e3 := ye (S := ⟨l, H, m⟩) hr z
  rw [hz, Rel] at e3
  have h1 := vC k ks 0
  rw [hno] at h1
  simp only [Option.map_none] at h1
  have h2 := MapKept.run_findKey (P := P) (w := w) hk (l := (enM ks).toList) (by rw [enM]; exact h1)
  have h3 := MapKept.run_checkKey (P := P) (w := w) (k := .int .i64 k) hk rfl false 9999
  have h4 : (execOp a.eval o).run P w = .ok .skip { w with heap := w.heap.setIfInBounds r (.map (enM (ks ++ [k])) (ks.length + 1)) } := by
    simp only [execOp, ho, e1, e2, e3]
    unfold Instr.mapUpdate
    simp only [Sem.run_bind, run_underlying ht, Result.andThen_ok, MapKept.run_getObj_map hb, Sem.run_pure]
    rw [h3]
    simp only [Result.andThen_ok]
    rw [h2]
    simp only [Result.andThen_ok]
    rw [qR, MapKept.run_setObj_map _ hb]
    rfl
  unfold Oper.wp
  rw [h4]
  obtain ⟨g1, g2⟩ := MapKept.heap_set (o' := .map (enM (ks ++ [k])) (ks.length + 1)) hb
  have hAb : ∀ b, A b → A b ∧ (w.heap.setIfInBounds r (.map (enM (ks ++ [k])) (ks.length + 1)))[b]? = w.heap[b]? := fun b hb => ⟨hb, g2 b fun e => hn (e ▸ hb)⟩
  have hmono : ∀ {φ : List Hd} {cs : List V} {g : Nat → Option Value}, zG A w φ cs g → zG A { w with heap := w.heap.setIfInBounds r (.map (enM (ks ++ [k])) (ks.length + 1)) } φ cs g := fun h => zG.mono hAb (fun _ _ h => h) h
  refine hK _ _ (h.out C φ _ _ ?_)
  rw [hd0]
  refine ⟨hm, ⟨A, ⟨⟨hA.ok.len, fun h' hd' rr p1 p2 p3 => ?_, hA.ok.inj, hA.ok.apart, hA.ok.frz, fun b hb => by simpa using hA.ok.low b hb⟩, hA.old, hA.own, ⟨hA.frame.os, hA.frame.tape, hA.frame.output, by simpa using hA.frame.size, fun b hb2 hno => ?_⟩, hA.pre⟩, hmono hr, hn⟩, hs, hd, hl, ?_, hw'⟩
  · obtain ⟨q1, q2⟩ := hA.ok.regs h' hd' rr p1 p2 p3
    refine ⟨q1, ?_⟩
    cases hbk : hd'.blk with
    | none => rw [hbk] at q2; exact q2
    | some b =>
      rw [hbk] at q2
      obtain ⟨c, c1, c2, c3, c4⟩ := q2
      refine ⟨c, ?_, c2, c3, hmono c4⟩
      have hne : b ≠ r := fun e => by
        subst e
        rw [hb] at c1
        cases c1
      exact (g2 b hne).trans c1
  · refine (g2 b fun e => ?_).trans (hA.frame.block b hb2 hno)
    rw [e] at hb2
    exact absurd hb2 (Nat.not_lt.2 hw')
  · rw [show (ks ++ [k]).length = ks.length + 1 by simp]
    exact g1⟩
end
end Go.Proofs.Ytkcicbigpbdjpaa.Ab
namespace Go.Proofs.Ytkcicbigpbdjpaa.Ab
open Go.RowKit
structure AM (P : Program) (ops : Array Oper) (l : List Oper) (K : Nat → St → Prop) (S : St) : Prop where
  out : ∀ C φ a w, Inv C φ S a w → wpList P ops (fun e a' w' => ∃ r, wb r C (fun e S' ks => e = .normal ∧ ks = [] ∧ K r S') e a' w') l a w
section
variable {P : Program} {ops : Array Oper} {K : Nat → St → Prop} {o : Oper} {rest : List Oper} {l l' : List V} {H H' H'' : List Reg} {m : Nat}
theorem am_R {v : V} (hw : zm ops ⟨l, H, m⟩ o = some true) (hs : zZ P o (St.ev ⟨l, H, m⟩) H v H') (hp : xP l H' o.dst v = some (l', H'')) (k : AM P ops rest K ⟨l', H'', m⟩) : AM P ops (o :: rest) K ⟨l, H, m⟩ := ⟨fun C φ a w hI => by
  refine wpList_step fun K1 hK => ?_
  rw [if_pos (z6 hI hw)]
  refine hs ⟨l, H, m⟩ rfl (fun _ _ => rfl) C φ a w hI K1 _ fun x w' φ' hI' => hK _ _ ?_
  rw [yD hp m] at hI'
  exact k.out C φ' _ _ hI'⟩
theorem am_F {T : Tab} [hT : TabC P T] (h : xa T ops o l H = some (l', H')) (k : AM P ops rest K ⟨l', H', m⟩) (hw : zm ops ⟨l, H, m⟩ o = some true) : AM P ops (o :: rest) K ⟨l, H, m⟩ := by
  unfold xa at h
  split at h
  · rename_i hw
    split at h
    · rename_i v H'' hv
      exact am_R (by exact hw) (yv (m := m) hT.ok hv) h k
    · cases h
  · rename_i hw'
    rw [show zm ops ⟨l, H, m⟩ o = some false from hw'] at hw
    cases hw
  · cases h
theorem am_mk {t : TypeId} {l' : Nat → List V} (hw : zm ops ⟨l, H, m⟩ o = some true) (ho : o.op = .makeMap t none) (hp : ∀ r, xP l H o.dst (.k (.map (some r))) = some (l' r, H)) (h : ∀ r, AR P r ops rest (fun C e a' w' => ∃ r, wb r C (fun e S' ks => e = .normal ∧ ks = [] ∧ K r S') e a' w') ⟨l' r, H, m⟩ []) : AM P ops (o :: rest) K ⟨l, H, m⟩ := ⟨fun C φ a w hI => by
  refine wpList_step fun K1 hK => ?_
  rw [if_pos (z6 hI hw)]
  obtain ⟨hm, ⟨A, hA, hr⟩, hs, hd⟩ := hI
  simp only at hm hA hr hs
  have h1 : (execOp a.eval o).run P w = .ok (.value (.map (some w.heap.size))) (w.alloc (.map #[] 0)) := by
    simp only [execOp, ho, Option.map_none]
    rw [Sem.run_bind, run_makeMap]
    rfl
  unfold Oper.wp
  rw [h1]
  obtain ⟨g1, g2⟩ := MapKept.heap_alloc w (.map #[] 0)
  have hAb : ∀ b, A b → A b ∧ (w.alloc (.map #[] 0)).heap[b]? = w.heap[b]? := fun b hb => ⟨hb, g2 b (hA.ok.low b hb)⟩
  have hmono : ∀ {φ : List Hd} {cs : List V} {g : Nat → Option Value}, zG A w φ cs g → zG A (w.alloc (.map #[] 0)) φ cs g := fun h => zG.mono hAb (fun _ _ h => h) h
  have hsz : w.heap.size ≤ (w.alloc (.map #[] 0)).heap.size := by show w.heap.size ≤ (w.heap.push _).size; simp
  have hin : ∀ h b, zO φ H h b → b < w.heap.size := fun h b ⟨hd, r, h1, h2, h3, h4⟩ => by
    obtain ⟨_, e2⟩ := hA.ok.regs h hd r h1 h2 (by omega)
    rw [h4] at e2
    obtain ⟨c, k1, _⟩ := e2
    exact (Array.getElem?_eq_some_iff.1 k1).1
  have hrel : Rel A (w.alloc (.map #[] 0)) φ (.k (.map (some w.heap.size))) (.map (some w.heap.size)) := by rw [Rel]
  obtain ⟨h3, h4⟩ := y3 (S := ⟨l, H, m⟩) (H := H) hs (hmono hr) hrel o.dst
  have eH : ((⟨l, H, m⟩ : St).put o.dst (.k (.map (some w.heap.size))) H).H = H := by cases o.dst <;> rfl
  refine hK _ _ ?_
  refine (h w.heap.size).out C φ (a.put o.dst (.map (some w.heap.size))) (w.alloc (.map #[] 0)) ?_
  rw [← yD (hp w.heap.size) m]
  refine ⟨by cases o.dst <;> exact hm, ⟨A, ?_, h3, fun hA1 => absurd (hA.ok.low _ hA1) (Nat.lt_irrefl _)⟩, h4, by cases o.dst <;> exact hd, fun h hl => ?_, g1, hA.frame.size⟩
  · rw [eH]
    refine ⟨⟨hA.ok.len, fun h' hd' rr p1 p2 p3 => ?_, hA.ok.inj, hA.ok.apart, hA.ok.frz, fun b hb => Nat.lt_of_lt_of_le (hA.ok.low b hb) hsz⟩, hA.old, hA.own, ⟨hA.frame.os, hA.frame.tape, hA.frame.output, Nat.le_trans hA.frame.size hsz, fun b hb hno => (g2 b (Nat.lt_of_lt_of_le hb hA.frame.size)).trans (hA.frame.block b hb hno)⟩, hA.pre⟩
    obtain ⟨q1, q2⟩ := hA.ok.regs h' hd' rr p1 p2 p3
    refine ⟨q1, ?_⟩
    cases hbk : hd'.blk with
    | none => rw [hbk] at q2; exact q2
    | some b =>
      rw [hbk] at q2
      obtain ⟨c, c1, c2, c3, c4⟩ := q2
      exact ⟨c, (g2 b (Array.getElem?_eq_some_iff.1 c1).1).trans c1, c2, c3, hmono c4⟩
  · rw [eH] at hl
    exact absurd (hin h _ hl) (Nat.lt_irrefl _)⟩
theorem qW {r : Nat} {S : St} (h : K r S) : AR P r ops [] (fun C e a' w' => ∃ r, wb r C (fun e S' ks => e = .normal ∧ ks = [] ∧ K r S') e a' w') S [] := ⟨fun C φ a w hI => wpList_nil ⟨r, S, φ, [], hI, rfl, rfl, h⟩⟩
theorem v6 {id : Nat} {ls : List Oper} {y : Code} {Q : Exit → St → Prop} {S : St} (h : AM P ls.toArray ls (fun r S' => AWr P r y (fun e S _ => Q e S) S' []) S) : AW P (.seq (.region id ls.toArray false) y) Q S := ⟨fun C φ a w hI => by
  refine wp_seq (wp_mono (wp_region_lit (h.out C φ a w hI)) ?_)
  rintro e a' w' ⟨r, S', φ', ks, hI', rfl, rfl, hk⟩
  exact wp_mono (hk.out C φ' a' w' hI') fun e a w ⟨S, φ, ks, h1, h2⟩ => ⟨S, φ, h1.inv, h2⟩⟩
end
end Go.Proofs.Ytkcicbigpbdjpaa.Ab
namespace Go.Proofs.Ytkcicbigpbdjpaa.Ab.Gq
open Go.RowKit
def isK (k : Int) (x : Gr) : Bool := decide (x.k = k)
def xq (out : List Gr) (g : Gr) : List Gr := match out.findIdx? (isK g.k) with
  | some j => match out[j]? with
    | some x => out.set j (yN x g)
    | none => out
  | none => out ++ [g]
def xG (gs : List Gr) : List Gr := gs.foldl xq []
theorem s7 {gs : List Gr} {i : Nat} {z : Gr} (hz : gs[i]? = some z) : xG (gs.take (i + 1)) = xq (xG (gs.take i)) z := by
  rw [List.take_add_one, hz, xG, List.foldl_append]; rfl
theorem qB (out : List Gr) (g : Gr) : (xq out g).length ≤ out.length + 1 := by
  unfold xq
  split
  · split
    · rw [List.length_set]; omega
    · omega
  · simp
theorem uu : ∀ (gs out : List Gr), (gs.foldl xq out).length ≤ out.length + gs.length
  | [], out => Nat.le_refl _
  | g :: gs, out => by
    have h1 := qB out g
    have h2 := uu gs (xq out g)
    rw [List.foldl_cons, List.length_cons]
    omega
theorem qQ (out : List Gr) (k : Int) : (out.map (·.k)).findIdx? (fun x => decide (x = k)) = out.findIdx? (isK k) := by
  rw [List.findIdx?_map]; rfl
theorem yI {K : St → List Int → Prop} {Q : Exit → St → List Int → Prop} {S : St} {ks : List Int} (h : K S ks) : uv K Q .normal S ks := h
theorem w5 {K : St → List Int → Prop} {Q : Exit → St → List Int → Prop} {S : St} {ks : List Int} {id : Nat} (h : Q (.exit id) S ks) : uv K Q (.exit id) S ks := h
theorem tx {Q : Exit → St → List Int → Prop} {S : St} {ks : List Int} {id : Nat} (h : Q .normal S ks) : wa id Q .normal S ks := h
theorem vU {Q : Exit → St → List Int → Prop} {S : St} {ks : List Int} {id : Nat} (h : Q .normal S ks) : wa id Q (.exit id) S ks := by simp only [wa, if_true]; exact h
theorem v1 (x z : Gr) : (yN x z).k = x.k := by unfold yN; cases decide (x.k = z.k) <;> rfl
theorem tN (f : List Gr → List Gr) (gs : List Gr) (hl : gs.length ≤ 100000000) (hs : ∀ out : List Gr, out.length ≤ 100000000 → zr Go.Proofs.Try.prog 145 [.sl 0 0 out.length, .k (.func (.func 146) #[] #[])] [gR out] (.tup []) [gR (f out)] true) (hf : ∀ out, (f out).length = out.length) :
    zr Go.Proofs.Try.prog 82 [gL gs] [] (.sl 0 0 (f (xG gs)).length) [gR (f (xG gs))] false := by
  refine z8 [2] Go.Proofs.Try.func82 rfl rfl ?_
  simp only [Go.Proofs.Try.ntmps82, List.length_cons, List.length_nil, Nat.reduceAdd, Nat.reduceSub, List.replicate_succ, List.replicate_zero, List.cons_append, List.nil_append]
  refine zN ?_
  refine zC ?_
  refine isA ?_
  refine zg rfl ?_
  refine zD ?_
  refine zM ?_
  refine v6 ?_
  refine am_F rfl ?_ rfl
  refine am_mk rfl rfl (fun r => rfl) (fun r => ?_)
  refine yy rfl ?_ rfl
  refine yy rfl ?_ rfl
  refine qW ?_
  refine yW ?_
  refine yW ?_
  refine y4 ?_
  repeat' first | refine zN ?_ | refine zC ?_ | refine zS [] ?_ | (refine isA ?_; refine zg rfl ?_) | (refine isL ?_; refine zW rfl (by kernel_rfl) rfl rfl ?_) | (refine zj rfl ?_; refine zV rfl (by kernel_rfl) rfl rfl ?_) | refine zD ?_ | refine zE _ rfl (by kernel_rfl) ?_ | refine zX rfl ?_ | refine zY rfl ?_ | refine zF ?_ | with_reducible refine zM ?_ | refine zK ?_ | refine zL ?_ | (with_reducible first | refine zP ?_ | refine zQ ?_ | refine zH ?_ | refine zJ ?_ | refine zI ?_) | refine zR ?_
  refine yI ?_
  refine wt ?_
  have hb : ∀ i, (xG (gs.take i)).length ≤ gs.length := fun i => by
    have h1 := uu (gs.take i) []
    have h2 : (gs.take i).length ≤ gs.length := by rw [List.length_take]; omega
    simp only [List.length_nil] at h1
    unfold xG
    omega
  refine s2 (α := { i : Nat // i ≤ gs.length }) (fun i => (⟨[.any, .any, .any, .sl 0 0 (xG (gs.take i.1)).length, .k (.map (some r)), .any, .any, .any, .any, .any, .any, gL gs, I gs.length, I i.1, .any, .any, .any, .any, .any, .any, .any, .any, .any, .any, .any, .any, .any, .any, .any, .any, .any, .any, .any, .any, .any, .any, .any, .any, .any, .any, .any, .any, .any, .any, .any, .any, .any, .any], [gR (xG (gs.take i.1))], 0⟩, (xG (gs.take i.1)).map (·.k))) (fun i => gs.length - i.1) ⟨0, Nat.zero_le _⟩ ?_ ?_
  · exact ⟨tU [0] rfl rfl (by decide) (.cons rfl rfl rfl rfl (yM rfl) .nil) (by repeat' first | exact zt | refine zq ?_ ?_ | exact yG | exact le_refl rfl | exact yF rfl rfl | exact yQ rfl), rfl⟩
  · rintro ⟨i, hi⟩
    have hbi := hb i
    have hsn : ∀ z, gs[i]? = some z → xG (gs.take (i + 1)) = xq (xG (gs.take i)) z := fun z hz => s7 hz
    have hend : i = gs.length → xG (gs.take i) = xG gs := fun h => by rw [h, List.take_length]
    generalize hG : xG (gs.take i) = out at hbi hsn hend
    refine yW ?_
    refine y4 ?_
    simp only [hG]
    repeat' first | refine zN ?_ | refine zC ?_ | refine zS [] ?_ | (refine isA ?_; refine zg rfl ?_) | (refine isL ?_; refine zW rfl (by kernel_rfl) rfl rfl ?_) | (refine zj rfl ?_; refine zV rfl (by kernel_rfl) rfl rfl ?_) | refine zD ?_ | refine zE _ rfl (by kernel_rfl) ?_ | refine zX rfl ?_ | refine zY rfl ?_ | refine zF ?_ | with_reducible refine zM ?_ | refine zK ?_ | refine zL ?_ | (with_reducible first | refine zP ?_ | refine zQ ?_ | refine zH ?_ | refine zJ ?_ | refine zI ?_) | refine zR ?_
    refine yI ?_
    refine yW ?_
    refine vm rfl (fun h => ?_) (fun h => ?_)
    · have hlt : i < gs.length := by simpa using h
      obtain ⟨z, hz⟩ : ∃ z, gs[i]? = some z := ⟨_, List.getElem?_eq_getElem hlt⟩
      have hn := hsn z hz
      refine s1 ?_
      refine yI ?_
      refine yW ?_
      refine wt ?_
      refine yW ?_
      refine y4 ?_
      repeat' first | refine zN ?_ | refine zC ?_ | refine zS [] ?_ | (refine isA ?_; refine zg rfl ?_) | (refine isL ?_; refine zW rfl (by kernel_rfl) rfl rfl ?_) | (refine zj rfl ?_; refine zV rfl (by kernel_rfl) rfl rfl ?_) | (refine xj ?_; refine zl rfl (yg (t := gT) (z := z) rfl rfl rfl rfl (Int.natCast_nonneg i) hz) rfl ?_) | (refine xi rfl ?_; refine za rfl (by kernel_rfl) rfl (yg (t := gT) (z := z) rfl rfl rfl rfl (Int.natCast_nonneg i) hz) rfl ?_) | refine zD ?_ | refine zE _ rfl (by kernel_rfl) ?_ | refine zX rfl ?_ | refine zY rfl ?_ | refine zF ?_ | with_reducible refine zM ?_ | refine zK ?_ | refine zL ?_ | (with_reducible first | refine zP ?_ | refine zQ ?_ | refine zH ?_ | refine zJ ?_ | refine zI ?_) | refine zR ?_
      refine yI ?_
      refine yW ?_
      refine wY ?_
      refine yy rfl ?_ rfl
      refine yy rfl ?_ rfl
      refine yy rfl ?_ rfl
      have hfk := qQ out z.k
      unfold xq at hn
      cases hj : out.findIdx? (isK z.k) with
      | some j =>
        rw [hj] at hfk hn
        have hlk : x3 (out.map (·.k)) z.k = [.k (.int .i64 j), .k (.bool true)] := by rw [x3, hfk]
        refine ut hlk rfl rfl rfl rfl (kt := 3) (by kernel_rfl) (by kernel_rfl) Go.Proofs.Try.zeroValue3 rfl ?_
        refine yy rfl ?_ rfl
        refine yy rfl ?_ rfl
        refine yy rfl ?_ rfl
        refine yy rfl ?_ rfl
        refine yy rfl ?_ rfl
        refine v8 ?_
        refine yI ?_
        obtain ⟨hjl, hjk, _⟩ := List.findIdx?_eq_some_iff_getElem.1 hj
        have hx : out[j]? = some out[j] := List.getElem?_eq_getElem hjl
        generalize out[j] = x at hx hjk
        simp only [hx] at hn
        have hkk : (out.set j (yN x z)).map (·.k) = out.map (·.k) := by
          rw [List.map_set]
          refine List.ext_getElem? fun q => ?_
          rw [List.getElem?_set]
          split
          · rename_i h; subst h
            rw [if_pos (by simpa using hjl), List.getElem?_map, hx]
            rw [Option.map_some, v1]
          · rfl
        refine y4 ?_
        repeat' first | (refine vz rfl ?_; refine pO rfl (by kernel_rfl) rfl (uG (T := gT) (i := j) (xs := out) (z := yN x z) rfl rfl rfl rfl rfl hjl) rfl ?_) | refine zN ?_ | refine zC ?_ | refine zS [9] ?_ | (refine isA ?_; refine zg rfl ?_) | (refine isL ?_; refine zW rfl (by kernel_rfl) rfl rfl ?_) | (refine zj rfl ?_; refine zV rfl (by kernel_rfl) rfl rfl ?_) | (refine xj ?_; refine zl rfl (ve (t := gT) (xs := out) (j := (j : Int)) rfl rfl rfl rfl rfl (Int.natCast_nonneg _) (by omega)) rfl ?_) | (refine xi rfl ?_; refine za rfl (by kernel_rfl) rfl (ve (t := gT) (xs := out) (j := (j : Int)) rfl rfl rfl rfl rfl (Int.natCast_nonneg _) (by omega)) rfl ?_) | (refine qM (x := .tmp 39) ?_; refine zl rfl (qK (T := gT) (xs := out) (i := j) (z := x) rfl rfl rfl hx) rfl ?_) | (refine qL (x := .tmp 39) rfl ?_; refine za rfl (by kernel_rfl) rfl (qK (T := gT) (xs := out) (i := j) (z := x) rfl rfl rfl hx) rfl ?_) | (refine yo 99 ?_; refine zl rfl (zb rfl (up x z) (.cons (.same rfl) (.cons (.same rfl) .nil)) rfl) rfl ?_) | (refine yn 99 rfl ?_; refine za rfl (by kernel_rfl) rfl (zb rfl (up x z) (.cons (.same rfl) (.cons (.same rfl) .nil)) rfl) rfl ?_) | refine zD ?_ | refine zE _ rfl (by kernel_rfl) ?_ | refine zX rfl ?_ | refine zY rfl ?_ | refine zF ?_ | with_reducible refine zM ?_ | refine zK ?_ | refine zL ?_ | (with_reducible first | refine zP ?_ | refine zQ ?_ | refine zH ?_ | refine zJ ?_ | refine zI ?_) | refine zR ?_
        refine tx ?_
        refine yI ?_
        refine y4 ?_
        repeat' first | refine zN ?_ | refine zC ?_ | refine zS [] ?_ | (refine isA ?_; refine zg rfl ?_) | (refine isL ?_; refine zW rfl (by kernel_rfl) rfl rfl ?_) | (refine zj rfl ?_; refine zV rfl (by kernel_rfl) rfl rfl ?_) | refine zD ?_ | refine zE _ rfl (by kernel_rfl) ?_ | refine zX rfl ?_ | refine zY rfl ?_ | refine zF ?_ | with_reducible refine zM ?_ | refine zK ?_ | refine zL ?_ | (with_reducible first | refine zP ?_ | refine zQ ?_ | refine zH ?_ | refine zJ ?_ | refine zI ?_) | refine zR ?_
        refine yI ?_
        refine ⟨⟨i + 1, hlt⟩, by simp only; omega, ?_, ?_⟩
        · simp only [hn]
          exact tU [0] rfl rfl (by decide) (.cons rfl rfl rfl rfl (yA (zT _ _)) .nil) (by repeat' first | exact zt | refine zq ?_ ?_ | exact yG | exact le_refl rfl | exact yQ rfl | exact yF rfl rfl | exact yF rfl (by simp) | exact wh (by omega) (by omega))
        · simp only [hn]
          exact hkk
      | none =>
        rw [hj] at hfk hn
        simp only at hn
        have hlk : x3 (out.map (·.k)) z.k = [.k (.int .i64 0), .k (.bool false)] := by rw [x3, hfk]
        refine ut hlk rfl rfl rfl rfl (kt := 3) (by kernel_rfl) (by kernel_rfl) Go.Proofs.Try.zeroValue3 rfl ?_
        refine yy rfl ?_ rfl
        refine yy rfl ?_ rfl
        refine yy rfl ?_ rfl
        refine yy rfl ?_ rfl
        refine yy rfl ?_ rfl
        refine v8 ?_
        refine yI ?_
        refine yW ?_
        refine yW ?_
        refine y4 ?_
        repeat' first | refine zN ?_ | refine zC ?_ | refine zS [] ?_ | (refine isA ?_; refine zg rfl ?_) | (refine isL ?_; refine zW rfl (by kernel_rfl) rfl rfl ?_) | (refine zj rfl ?_; refine zV rfl (by kernel_rfl) rfl rfl ?_) | refine zD ?_ | refine zE _ rfl (by kernel_rfl) ?_ | refine zX rfl ?_ | refine zY rfl ?_ | refine zF ?_ | with_reducible refine zM ?_ | refine zK ?_ | refine zL ?_ | (with_reducible first | refine zP ?_ | refine zQ ?_ | refine zH ?_ | refine zJ ?_ | refine zI ?_) | refine zR ?_
        refine yI ?_
        refine vm rfl (fun _ => ?_) (fun h => by cases h)
        refine yW ?_
        refine wY ?_
        refine yy rfl ?_ rfl
        refine yy rfl ?_ rfl
        refine yy rfl ?_ rfl
        refine yy rfl ?_ rfl
        refine yy rfl ?_ rfl
        refine pt rfl rfl rfl rfl rfl (by rw [List.length_map]; rfl) (kt := 3) (by kernel_rfl) (by kernel_rfl) hfk ?_
        refine v8 ?_
        refine yI ?_
        refine y4 ?_
        repeat' first | (refine isA ?_; refine zl rfl (ph rfl rfl rfl rfl rfl) rfl ?_) | refine zN ?_ | refine zC ?_ | refine zS [] ?_ | (refine isA ?_; refine zg rfl ?_) | (refine isL ?_; refine zW rfl (by kernel_rfl) rfl rfl ?_) | (refine zj rfl ?_; refine zV rfl (by kernel_rfl) rfl rfl ?_) | (refine sH ?_; refine zl rfl (wA (t := gT) (xs := out) (ys := [z]) rfl rfl rfl rfl (.lst _ _) (by simp; omega) rfl) rfl ?_) | (refine sF rfl ?_; refine za rfl (by kernel_rfl) rfl (wA (t := gT) (xs := out) (ys := [z]) rfl rfl rfl rfl (.lst _ _) (by simp; omega) rfl) rfl ?_) | refine zD ?_ | refine zE _ rfl (by kernel_rfl) ?_ | refine zX rfl ?_ | refine zY rfl ?_ | refine zF ?_ | with_reducible refine zM ?_ | refine zK ?_ | refine zL ?_ | (with_reducible first | refine zP ?_ | refine zQ ?_ | refine zH ?_ | refine zJ ?_ | refine zI ?_) | refine zR ?_
        refine w5 ?_
        refine vU ?_
        refine yI ?_
        refine y4 ?_
        repeat' first | refine zN ?_ | refine zC ?_ | refine zS [] ?_ | (refine isA ?_; refine zg rfl ?_) | (refine isL ?_; refine zW rfl (by kernel_rfl) rfl rfl ?_) | (refine zj rfl ?_; refine zV rfl (by kernel_rfl) rfl rfl ?_) | refine zD ?_ | refine zE _ rfl (by kernel_rfl) ?_ | refine zX rfl ?_ | refine zY rfl ?_ | refine zF ?_ | with_reducible refine zM ?_ | refine zK ?_ | refine zL ?_ | (with_reducible first | refine zP ?_ | refine zQ ?_ | refine zH ?_ | refine zJ ?_ | refine zI ?_) | refine zR ?_
        refine yI ?_
        refine ⟨⟨i + 1, hlt⟩, by simp only; omega, ?_, ?_⟩
        · simp only [hn]
          exact tU [2] rfl rfl (by decide) (.cons rfl rfl rfl rfl (yA (zT _ _)) .nil) (by repeat' first | exact zt | refine zq ?_ ?_ | exact yG | exact le_refl rfl | exact yQ rfl | exact yF rfl rfl | exact yF rfl (by simp) | exact wh (by omega) (by omega))
        · simp only [hn, List.map_append]
          rfl
    · have hge : i = gs.length := by
        have : ¬ ((i : Int) < gs.length) := by simpa using h
        omega
      have hg := hend hge
      have hso := hs out (by omega)
      have hfo := hf out
      rw [← hg]
      refine s3 ?_
      refine w5 ?_
      refine w5 ?_
      refine vU ?_
      refine yI ?_
      refine y4 ?_
      repeat' first | refine zN ?_ | refine zC ?_ | refine zS [] ?_ | (refine isA ?_; refine zg rfl ?_) | (refine isL ?_; refine zW rfl (by kernel_rfl) rfl rfl ?_) | (refine zj rfl ?_; refine zV rfl (by kernel_rfl) rfl rfl ?_) | (refine yo 145 ?_; refine zl rfl (zv (K := []) (Rs' := [_]) [0] (by decide) rfl hso (.cons rfl rfl rfl (zT _ _) (zT _ _) .nil) (.cons (.sl rfl) (.cons (.same rfl) .nil)) (fun q hq => by cases hq) rfl) rfl ?_) | (refine yn 145 rfl ?_; refine za rfl (by kernel_rfl) rfl (zv (K := []) (Rs' := [_]) [0] (by decide) rfl hso (.cons rfl rfl rfl (zT _ _) (zT _ _) .nil) (.cons (.sl rfl) (.cons (.same rfl) .nil)) (fun q hq => by cases hq) rfl) rfl ?_) | refine zD ?_ | refine zE _ rfl (by kernel_rfl) ?_ | refine zX rfl ?_ | refine zY rfl ?_ | refine zF ?_ | with_reducible refine zM ?_ | refine zK ?_ | refine zL ?_ | (with_reducible first | refine zP ?_ | refine zQ ?_ | refine zH ?_ | refine zJ ?_ | refine zI ?_) | refine zR ?_
      exact finL (ty := gT) rfl rfl rfl rfl hfo.symm rfl (sJ _)
end Go.Proofs.Ytkcicbigpbdjpaa.Ab.Gq
namespace Go.Proofs.Ytkcicbigpbdjpaa.Ab.Gq
open Go.RowKit Go.Shelf
def xL : Go.Shelf.Ren := ⟨fun | 6 => 145 | 15 => 165 | 14 => 164 | 28 => 177 | 29 => 178 | 20 => 169 | 21 => 170 | 22 => 171 | 23 => 172 | 24 => 173 | 25 => 174 | 26 => 175 | 27 => 176 | 46 => 180 | 47 => 181 | 48 => 182 | 49 => 183 | 50 => 184 | 57 => 186 | n => n, fun | 22 => 84 | 24 => 95 | 25 => 144 | 3 => 3 | 39 => 159 | 0 => 0 | 53 => 171 | 55 => 173 | 4 => 4 | 46 => 165 | 45 => 164 | 50 => 141 | 5 => 5 | 9 => 9 | 66 => 174 | 70 => 178 | 76 => 180 | 77 => 181 | n => n, fun | n => n⟩
theorem qs : Go.Proofs.SlLaysF0.n6 Try.prog xL := {
  mixed := by kernel_rfl
  f6 := ⟨Try.f145.name, by decide, Try.func145.trans (congrArg some (by kernel_rfl))⟩
  f14 := ⟨Try.f164.name, by decide, Try.func164.trans (congrArg some (by kernel_rfl))⟩
  f15 := Try.func165.trans (congrArg some (by kernel_rfl))
  f20 := ⟨Try.f169.name, by decide, Try.func169.trans (congrArg some (by kernel_rfl))⟩
  f21 := ⟨Try.f170.name, by decide, Try.func170.trans (congrArg some (by kernel_rfl))⟩
  f22 := ⟨Try.f171.name, by decide, Try.func171.trans (congrArg some (by kernel_rfl))⟩
  f23 := ⟨Try.f172.name, by decide, Try.func172.trans (congrArg some (by kernel_rfl))⟩
  f24 := ⟨Try.f173.name, by decide, Try.func173.trans (congrArg some (by kernel_rfl))⟩
  f25 := ⟨Try.f174.name, by decide, Try.func174.trans (congrArg some (by kernel_rfl))⟩
  f26 := ⟨Try.f175.name, by decide, Try.func175.trans (congrArg some (by kernel_rfl))⟩
  f27 := ⟨Try.f176.name, by decide, Try.func176.trans (congrArg some (by kernel_rfl))⟩
  f28 := Try.func177.trans (congrArg some (by kernel_rfl))
  f29 := Try.func178.trans (congrArg some (by kernel_rfl))
  f46 := ⟨Try.f180.name, by decide, Try.func180.trans (congrArg some (by kernel_rfl))⟩
  f47 := Try.func181.trans (congrArg some (by kernel_rfl))
  f48 := Try.func182.trans (congrArg some (by kernel_rfl))
  f49 := ⟨Try.f183.name, by decide, Try.func183.trans (congrArg some (by kernel_rfl))⟩
  f50 := ⟨Try.f184.name, by decide, Try.func184.trans (congrArg some (by kernel_rfl))⟩
  f57 := ⟨Try.f186.name, by decide, Try.func186.trans (congrArg some (by kernel_rfl))⟩
  t0 := Try.underlying0
  a0 := Try.isAgg0
  z0 := Try.sizeOf0
  v0 := Try.zeroValue0
  t3 := Try.underlying3
  a3 := Try.isAgg3
  z3 := Try.sizeOf3
  v3 := Try.zeroValue3
  t4 := Try.underlying4
  a4 := Try.isAgg4
  z4 := Try.sizeOf4
  v4 := Try.zeroValue4
  t5 := Try.underlying5
  a5 := Try.isAgg5
  z5 := Try.sizeOf5
  v5 := Try.zeroValue5
  t9 := Try.underlying9
  a9 := Try.isAgg9
  z9 := Try.sizeOf9
  v9 := Try.zeroValue9
  t22 := Try.underlying84
  a22 := Try.isAgg84
  z22 := Try.sizeOf84
  v22 := Try.zeroValue84
  t25 := Try.underlying144
  a25 := Try.isAgg144
  z25 := Try.sizeOf144
  v25 := Try.zeroValue144
  t39 := Try.underlying159
  a39 := Try.isAgg159
  z39 := Try.sizeOf159
  v39 := Try.zeroValue159
  t45 := Try.underlying164
  a45 := Try.isAgg164
  z45 := Try.sizeOf164
  v45 := Try.zeroValue164
  t46 := Try.underlying165
  a46 := Try.isAgg165
  z46 := Try.sizeOf165
  v46 := Try.zeroValue165
  t50 := Try.underlying141
  a50 := Try.isAgg141
  z50 := Try.sizeOf141
  v50 := Try.zeroValue141
  t53 := Try.underlying171
  a53 := Try.isAgg171
  z53 := Try.sizeOf171
  v53 := Try.zeroValue171
  t55 := Try.underlying173
  a55 := Try.isAgg173
  z55 := Try.sizeOf173
  v55 := Try.zeroValue173
  t66 := Try.underlying174
  a66 := Try.isAgg174
  z66 := Try.sizeOf174
  v66 := Try.zeroValue174
  t70 := Try.underlying178
  a70 := Try.isAgg178
  z70 := Try.sizeOf178
  v70 := Try.zeroValue178
  t76 := Try.underlying180
  a76 := Try.isAgg180
  z76 := Try.sizeOf180
  v76 := Try.zeroValue180
  t77 := Try.underlying181
  a77 := Try.isAgg181
  z77 := Try.sizeOf181
  v77 := Try.zeroValue181 }
end Go.Proofs.Ytkcicbigpbdjpaa.Ab.Gq
namespace Go.Proofs.Ytkcicbigpbdjpaa.Ab
open Go.RowKit
def t6 (a b : Int) : Int := cond (decide (a < b)) (-1) (cond (decide (b < a)) 1 0)
def cmpL : List Int → List Int → Int
  | x :: xs, y :: ys => cond (decide (x < y)) (-1) (cond (decide (y < x)) 1 (cmpL xs ys))
  | _, _ => 0
def rwN (x : Rw) : List Int := [x.a, x.b, x.c]
def cmpV (x y : Rw) : Int := cmpL (rwN x) (rwN y)
def intT : Ty Int := ⟨1, fun n => [I n], fun _ => rfl, by decide, fun r c hc => by
  simp only [List.mem_cons, List.not_mem_nil, or_false] at hc
  subst hc
  exact ⟨rfl, rfl⟩⟩
def mgV : List Rw → List Rw → List Rw
  | [], ys => ys
  | x :: xs, [] => x :: xs
  | x :: xs, y :: ys => cond (decide (cmpV x y ≤ 0)) (x :: mgV xs (y :: ys)) (y :: mgV (x :: xs) ys)
termination_by xs ys => xs.length + ys.length
theorem tR (xs : List Rw) (k : Nat) : ((rwT.flat xs).drop (0 * 3)).take ((k - 0) * 3) = rwT.flat (xs.take k) := by
  rw [Nat.zero_mul, List.drop_zero, Nat.sub_zero, show k * 3 = k * rwT.n from rfl, yx]
theorem sr (xs : List Rw) (k : Nat) : ((rwT.flat xs).drop (k * 3)).take ((xs.length - k) * 3) = rwT.flat (xs.drop k) := by
  rw [show k * 3 = k * rwT.n from rfl, xO, show (xs.length - k) * 3 = (xs.length - k) * rwT.n from rfl, yx, List.take_of_length_le (by simp)]
end Go.Proofs.Ytkcicbigpbdjpaa.Ab
namespace Go.Proofs.Ytkcicbigpbdjpaa.Ab.Gq
open Go.RowKit Go.Shelf Go.Lib Go.Sort
theorem tB (a b : Int) (W : World) : Calls Go.Proofs.Try.prog 147 #[.int .i64 a, .int .i64 b] W fun e w' => e = .returned (.int .i64 (t6 a b)) ∧ w' = W := by
  unfold t6
  by_cases h1 : a < b
  · simp only [h1, decide_true, cond_true]
    go_enter Go.Proofs.Try.func147, Go.Proofs.Try.ntmps147
    go_wp2
    go_ret
    exact ⟨rfl, rfl⟩
  · simp only [h1, decide_false, cond_false]
    by_cases h2 : b < a
    · simp only [h2, decide_true, cond_true]
      go_enter Go.Proofs.Try.func147, Go.Proofs.Try.ntmps147
      go_wp2
      go_ret
      exact ⟨rfl, rfl⟩
    · simp only [h2, decide_false, cond_false]
      go_enter Go.Proofs.Try.func147, Go.Proofs.Try.ntmps147
      go_wp2
      go_ret
      exact ⟨rfl, rfl⟩
def yp (x : Gr) : List Value := [.int .i64 x.k, .int .i64 x.n, .int .i64 x.s, .int .i64 x.lo, .int .i64 x.hi]
def cfG (x y : Gr) : Int := t6 x.k y.k
theorem tM (x y : Gr) (W : World) : Calls Go.Proofs.Try.prog 146 #[.agg (yp x).toArray, .agg (yp y).toArray] W fun e w' => e = .returned (.int .i64 (cfG x y)) ∧ ∃ q os', w' = grow (W.drewN q) os' := by
  have hcon := fun W' => tB x.k y.k W'
  unfold cfG
  unfold yp
  generalize t6 x.k y.k = r at hcon ⊢
  go_enter Go.Proofs.Try.func146, Go.Proofs.Try.ntmps146
  go_wp2_with (go_at_call 147; refine (hcon _).mono ?_; rintro e w' ⟨rfl, rfl⟩)
  go_ret
  exact ⟨rfl, 0, _, by rw [alloc_eq_grow, alloc_eq_grow, grow_grow]; rfl⟩
instance : Inhabited Gr := ⟨⟨0, 0, 0, 0, 0⟩⟩
theorem st (blk off size : Nat) (w : World) : CmpLays Go.Proofs.Try.prog 146 #[] yp 5 cfG blk off size w := fun _ _ _ _ x y => tM x y _
theorem uK (x y : Gr) : ltOf cfG x y = decide (x.k < y.k) := by
  unfold ltOf cfG t6
  by_cases h1 : x.k < y.k
  · simp [h1]
  · by_cases h2 : y.k < x.k <;> simp [h1, h2]
theorem tT : SWO (ltOf cfG) where
  irrefl x := by rw [uK]; simp
  trans x y z h1 h2 := by rw [uK] at *; simp at *; omega
  ntrans x y z h1 h2 := by rw [uK] at *; simp at *; omega
def wO (xs : List Gr) : Array Gr := pdq (ltOf cfG) xs.toArray 0 xs.toArray.size (Lib.bitLen xs.toArray.size) true true
def y0 (xs : List Gr) : List Gr := (wO xs).toList
theorem tp (xs : List Gr) : PermIn 0 xs.toArray.size xs.toArray (wO xs) ∧ SortedIn (ltOf cfG) 0 xs.toArray.size (wO xs) := pdq_sorts (ltOf cfG) tT xs.toArray 0 xs.toArray.size (Lib.bitLen xs.toArray.size) true true (Nat.zero_le _) (Nat.le_refl _) (Or.inl rfl)
theorem pj : ∀ w, (isAgg (xL.t 24)).run Go.Proofs.Try.prog w = .ok true w := Go.Proofs.Try.isAgg95
theorem sizeG : ∀ w, (Go.sizeOf (xL.t 24)).run Go.Proofs.Try.prog w = .ok 5 w := Go.Proofs.Try.sizeOf95
theorem qE (x : Gr) : ∀ v ∈ yp x, v.oneCell' = true := fun v hv => by
  simp only [yp, List.mem_cons, List.not_mem_nil, or_false] at hv
  rcases hv with rfl | rfl | rfl | rfl | rfl <;> rfl
theorem vv (blk cap : Nat) (d : Array Gr) (w : World) (hH : HoldsK yp 5 w blk 0 d) (hblk : blk < w.heap.size) (hsz : d.size < 4611686018427387904) :
    Calls Go.Proofs.Try.prog 145 #[.slice (some ⟨blk, 0, none⟩) d.size cap, .func (.func 146) #[] #[]] w fun e w' => e = .returned (.tuple #[]) ∧ ∃ n os, w' = sortWorldK yp 5 w blk 0 n (wO d.toList) os := by
  have eg : ∀ args w, (callFunc 146 args).run Go.Proofs.Try.prog w = .ok (.enter 146 args) w := enters_of Go.Proofs.Try.func146 (by kernel_rfl) rfl
  exact AnyQ.slices_SortFunc_eq qs 5 pj sizeG yp (fun _ => rfl) qE cfG tT 146 #[] blk 0 cap d w eg (st blk 0 d.size w) hH hblk hsz
theorem sq (xs : List Gr) (j : Nat) (hj : j < xs.length * 5) : (gT.flat xs)[j]? = some (.k ((flatK yp 5 xs.toArray)[j]!)) := by
  have hlt : j / 5 < xs.length := by omega
  have hz : xs[j / 5]? = some xs[j / 5] := List.getElem?_eq_getElem hlt
  rw [get_flatK yp 5 xs.toArray j (by simpa using hj), show xs.toArray[j / 5]! = xs[j / 5] by simp [hlt]]
  generalize xs[j / 5] = x at hz
  have key : (gT.enc x)[j % 5]? = some (.k ((yp x)[j % 5]!)) := by
    have h5 : j % 5 < 5 := Nat.mod_lt _ (by decide)
    match j % 5, h5 with
    | 0, _ => rfl
    | 1, _ => rfl
    | 2, _ => rfl
    | 3, _ => rfl
    | 4, _ => rfl
  have := vi gT hz key
  rwa [show j / 5 * gT.n + j % 5 = j by show j / 5 * 5 + j % 5 = j; omega] at this
theorem wB (xs : List Gr) : (y0 xs).length = xs.length := by
  have h := (tp xs).1.1
  rw [y0, Array.length_toList, h]
  simp
theorem qS (xs : List Gr) (hl : xs.length ≤ 100000000) (hne : xs ≠ []) : zr Go.Proofs.Try.prog 145 [.sl 0 0 xs.length, .k (.func (.func 146) #[] #[])] [gR xs] (.tup []) [gR (y0 xs)] true := by
  intro A φ w args hok hrel hsz
  have hpos : 0 < xs.length := List.length_pos_iff.2 hne
  have hfl : (gT.flat xs).length = xs.length * 5 := zi _ _
  obtain ⟨hd, hφ⟩ : ∃ hd, φ[0]? = some hd := ⟨φ[0]'(by rw [hok.len]; exact Nat.one_pos), List.getElem?_eq_getElem _⟩
  obtain ⟨⟨q1, q2, q3⟩, q4⟩ := hok.regs 0 hd (gR xs) hφ rfl (Nat.zero_le _)
  change hd.esz = 5 at q1
  change hd.e = _ at q2
  obtain ⟨b, hb⟩ : ∃ b, hd.blk = some b := by
    cases h : hd.blk with
    | some b => exact ⟨b, rfl⟩
    | none =>
      rw [h] at q4
      have : (gT.flat xs).length = 0 := by rw [show gT.flat xs = [] from q4.1]; rfl
      omega
  rw [hb] at q4
  obtain ⟨c, c1, c2, c3, c4⟩ := q4
  change (gT.flat xs).length ≤ c.size at c3
  obtain ⟨a0, h0, r0⟩ := zk hrel (i := 0) (c := .sl 0 0 xs.length) rfl
  obtain ⟨a1, h1, r1⟩ := zk hrel (i := 1) (c := .k (.func (.func 146) #[] #[])) rfl
  simp only [Rel] at r0 r1
  obtain ⟨hd', hφ', hx⟩ := r0
  rw [hφ] at hφ'
  cases hφ'
  have hx : a0 = .slice (some ⟨b, 0, none⟩) xs.length (hd.cap - 0) := by
    rcases hx with hx | hx
    · rw [hx.1, hb, Option.map_some, Nat.zero_mul]
    · omega
  subst hx r1
  have hargs : args = #[.slice (some ⟨b, 0, none⟩) xs.toArray.size (hd.cap - 0), .func (.func 146) #[] #[]] := by
    apply Array.ext (by rw [hsz]; rfl)
    intro i hi hi2
    have h2 : i < 2 := by rw [hsz] at hi; exact hi
    match i, h2 with
    | 0, _ => exact (Array.getElem?_eq_some_iff.1 h0).2
    | 1, _ => exact (Array.getElem?_eq_some_iff.1 h1).2
  subst hargs
  have hblk : b < w.heap.size := (Array.getElem?_eq_some_iff.1 c1).1
  have hH : HoldsK yp 5 w b 0 xs.toArray := fun j hj => by
    have hj' : j < xs.length * 5 := by simpa using hj
    obtain ⟨y, y1, y2⟩ := zk c4 (sq xs j hj')
    rw [Rel] at y2
    subst y2
    rw [Nat.zero_add]
    refine ⟨?_, ?_⟩
    · simp only [World.cell?, c1]
      exact y1
    · simp only [World.frozen?, c1]
      simp
  refine (vv b (hd.cap - 0) xs.toArray w hH hblk (by simp; omega)).mono ?_
  rintro e w' ⟨rfl, n, os, rfl⟩
  have hys : (wO xs.toArray.toList) = (y0 xs).toArray := by simp [y0]
  rw [hys]
  have hlen := wB xs
  generalize y0 xs = ys at hlen
  have hw : (sortWorldK yp 5 w b 0 n ys.toArray os).heap = w.heap.modify b (onCells (putCells id 0 (flatK yp 5 ys.toArray))) ++ os := rfl
  have hin : ∀ b', b' < w.heap.size → (sortWorldK yp 5 w b 0 n ys.toArray os).heap[b']? = (w.heap.modify b (onCells (putCells id 0 (flatK yp 5 ys.toArray))))[b']? := fun b' hb' => by
    rw [hw, Array.getElem?_append_left (by simpa using hb')]
  have hoth : ∀ b', b' < w.heap.size → b' ≠ b → (sortWorldK yp 5 w b 0 n ys.toArray os).heap[b']? = w.heap[b']? := fun b' hb' hne' => by
    rw [hin b' hb', Array.getElem?_modify, if_neg (Ne.symm hne')]
  have hlv : zO φ [gR xs] 0 b := ⟨hd, gR xs, hφ, rfl, rfl, hb⟩
  have hAb : ∀ b', A b' → A b' ∧ (sortWorldK yp 5 w b 0 n ys.toArray os).heap[b']? = w.heap[b']? := fun b' hb' => ⟨hb', hoth b' (hok.low b' hb') fun e => hok.apart 0 b hlv (e ▸ hb')⟩
  have hnew : (sortWorldK yp 5 w b 0 n ys.toArray os).heap[b]? = some (.cells (putCells id 0 (flatK yp 5 ys.toArray) c) hd.e (0, 0)) := by
    rw [hin b hblk, Array.getElem?_modify, if_pos rfl, c1]
    rfl
  have hlive : ∀ (zs : List Gr) h b', zO φ [gR zs] h b' → h = 0 ∧ b' = b := fun zs h b' ⟨hd', r, l1, l2, l3, l4⟩ => by
    have hh : h < 1 := (List.getElem?_eq_some_iff.1 l2).1
    obtain rfl : h = 0 := by omega
    rw [hφ] at l1
    cases l1
    rw [hb] at l4
    exact ⟨rfl, (Option.some.inj l4).symm⟩
  refine ⟨.tuple #[], φ, A, rfl, ⟨hok.len, fun h hd' r p1 p2 p3 => ?_, fun h h' b' l1 l2 => ?_, fun h b' l1 => ?_, fun h hd' r b' p1 p2 p3 p4 => ?_, fun b' hb' => ?_⟩, ?_, fun b' hb' => Or.inl ⟨rfl, hb'⟩, fun h b' l1 => ?_, ⟨rfl, rfl, rfl, ?_, fun b' hb' hno => ?_⟩, fun _ _ h => h⟩
  · have hh : h < 1 := (List.getElem?_eq_some_iff.1 p2).1
    obtain rfl : h = 0 := by omega
    rw [hφ] at p1
    cases p1
    cases p2
    refine ⟨⟨q1, q2, q3⟩, ?_⟩
    rw [hb]
    refine ⟨_, hnew, by simpa [putCells] using c2, ?_, ?_⟩
    · show (gT.flat ys).length ≤ _
      rw [zi]
      have : (putCells id 0 (flatK yp 5 ys.toArray) c).size = c.size := by simp [putCells]
      rw [this, hlen]
      exact hfl ▸ c3
    · refine zc.2 fun i v hv => ?_
      have hi : i < ys.length * 5 := by
        have := (List.getElem?_eq_some_iff.1 hv).1
        rwa [show (gR ys).cells = gT.flat ys from rfl, zi] at this
      have e1 := sq ys i hi
      rw [show (gR ys).cells = gT.flat ys from rfl, e1] at hv
      cases hv
      refine ⟨_, ?_, by rw [Rel]⟩
      have hic : i < c.size := by rw [hlen] at hi; rw [hfl] at c3; omega
      simp only [putCells, Array.getElem?_mapIdx, Array.getElem?_eq_getElem hic, Option.map_some]
      rw [if_pos ⟨Nat.zero_le _, by simpa using hi⟩]
      simp
  · exact (hlive ys h b' l1).1.trans (hlive ys h' b' l2).1.symm
  · obtain ⟨rfl, rfl⟩ := hlive ys h b' l1
    exact hok.apart 0 _ hlv
  · have hh : h < 1 := (List.getElem?_eq_some_iff.1 p2).1
    obtain rfl : h = 0 := by omega
    cases p2
    cases p3
  · rw [hw]
    have := hok.low b' hb'
    simp
    omega
  · rw [Rel]
    exact ⟨#[], rfl, rfl, by rw [zG]; trivial⟩
  · obtain ⟨rfl, rfl⟩ := hlive ys h b' l1
    exact Or.inr ⟨0, hlv⟩
  · rw [hw]
    simp
  · exact hoth b' hb' fun e => hno 0 (e ▸ hlv)
end Go.Proofs.Ytkcicbigpbdjpaa.Ab.Gq
namespace Go.Proofs.Ytkcicbigpbdjpaa.Ab.Gq
open Go.RowKit Go.Shelf Go.Lib Go.Sort
theorem sy : zr Go.Proofs.Try.prog 165 [.k (.int .u64 0)] [] (I 0) [] true := by
  intro A φ w xs hok hrel hsz
  obtain ⟨a0, h0, r0⟩ := zk hrel (i := 0) (c := .k (.int .u64 0)) rfl
  simp only [Rel] at r0
  subst r0
  have hargs : xs = #[.int .u64 0] := by
    apply Array.ext (by rw [hsz]; rfl)
    intro i hi hi2
    have h2 : i < 1 := by rw [hsz] at hi; exact hi
    obtain rfl : i = 0 := by omega
    exact (Array.getElem?_eq_some_iff.1 h0).2
  subst hargs
  have L := qs
  refine (Any.bits_Len (SlLaysF0.n15.bits (P := Go.Proofs.Try.prog) (ρ := xL) { L with }) 0 w (by omega) (by omega)).mono ?_
  rintro e w' ⟨rfl, rfl⟩
  exact ⟨_, φ, A, rfl, hok, by rw [Rel]; rfl, fun b hb => Or.inl ⟨rfl, hb⟩, fun h b hl => Or.inr ⟨h, hl⟩, ⟨rfl, rfl, rfl, Nat.le_refl _, fun _ _ _ => rfl⟩, fun _ _ h => h⟩
theorem sL {l : List V} {H : List Reg} {K : List Reg} (k : Nat) (ψ : List Nat) (hfix : ∀ i, i < k → ψ[i]? = some i) (hnd : ψ.Nodup) (hH : HLes ψ H ψ K) : (Exit.normal = .ret ∨ Exit.normal = .normal) ∧ Out true (.tup []) K (wg ⟨l, H, k⟩ []) ⟨l, H, k⟩ :=
  ⟨Or.inr rfl, wP (S := ⟨l, H, k⟩) ψ hfix (xv hnd hH) (sC zt) (Or.inl rfl)⟩
theorem po {l : List V} {H : List Reg} {K : List Reg} (k : Nat) (ψ : List Nat) (hfix : ∀ i, i < k → ψ[i]? = some i) (hnd : ψ.Nodup) (hH : HLes ψ H ψ K) : (Exit.ret = .ret ∨ Exit.ret = .normal) ∧ Out true (.tup []) K (wg ⟨l, H, k⟩ []) ⟨l, H, k⟩ :=
  ⟨Or.inl rfl, wP (S := ⟨l, H, k⟩) ψ hfix (xv hnd hH) (sC zt) (Or.inl rfl)⟩
abbrev fnG : V := .k (.func (.func 146) #[] #[])
theorem sz : zr Go.Proofs.Try.prog 169 [.sl 0 0 0, I 0, I 0, fnG] [gR []] (.tup []) [gR []] true := by
  refine z8 [] Go.Proofs.Try.func169 rfl rfl ?_
  simp only [Go.Proofs.Try.ntmps169, List.length_cons, List.length_nil, Nat.reduceAdd, Nat.reduceSub, List.replicate_succ, List.replicate_zero, List.cons_append, List.nil_append]
  repeat' first | refine zN ?_ | refine zC ?_ | refine zS [] ?_ | (refine isA ?_; refine zg rfl ?_) | (refine isL ?_; refine zW rfl (by kernel_rfl) rfl rfl ?_) | (refine zj rfl ?_; refine zV rfl (by kernel_rfl) rfl rfl ?_) | refine zD ?_ | refine zE _ rfl (by kernel_rfl) ?_ | refine zX rfl ?_ | refine zY rfl ?_ | refine zF ?_ | with_reducible refine zM ?_ | refine zK ?_ | refine zL ?_ | (with_reducible first | refine zP ?_ | refine zQ ?_ | refine zH ?_ | refine zJ ?_ | refine zI ?_) | refine zR ?_
  refine yt (α := Unit) (fun _ => ⟨[.any, .any, I 0, .any, .any, .any, .any, .any, I 1, .any, .any, .any, .any, .any, .any, .any, .any, .any, .any, .any, .any, .any, .any, .any, .any, .any, .any, .any, .any, .any, .any, .any, .any, .any, .any, .any, .any, .any, .any, .any, .any, .any, .any, .any, .any, .any, .any, .any, .any, .any, .any, .any, .any], [gR []], 1⟩) (fun _ => 0) () ?_ ?_
  · exact tW rfl (by repeat' first | exact EqS.nil | refine EqS.any ?_ | refine EqS.same rfl ?_)
  · rintro ⟨⟩
    repeat' first | refine zN ?_ | refine zC ?_ | refine zS [] ?_ | (refine isA ?_; refine zg rfl ?_) | (refine isL ?_; refine zW rfl (by kernel_rfl) rfl rfl ?_) | (refine zj rfl ?_; refine zV rfl (by kernel_rfl) rfl rfl ?_) | exact sL 1 [0] tJ (by decide) (.cons rfl rfl rfl rfl (yM rfl) .nil) | refine zD ?_ | refine zE _ rfl (by kernel_rfl) ?_ | refine zX rfl ?_ | refine zY rfl ?_ | refine zF ?_ | with_reducible refine zM ?_ | refine zK ?_ | refine zL ?_ | (with_reducible first | refine zP ?_ | refine zQ ?_ | refine zH ?_ | refine zJ ?_ | refine zI ?_) | refine zR ?_
theorem sx : zr Go.Proofs.Try.prog 164 [.sl 0 0 0, I 0, I 0, I 0, fnG] [gR []] (.tup []) [gR []] true := by
  refine z8 [] Go.Proofs.Try.func164 rfl rfl ?_
  simp only [Go.Proofs.Try.ntmps164, List.length_cons, List.length_nil, Nat.reduceAdd, Nat.reduceSub, List.replicate_succ, List.replicate_zero, List.cons_append, List.nil_append]
  repeat' first | refine zN ?_ | refine zC ?_ | refine zS [] ?_ | (refine isA ?_; refine zg rfl ?_) | (refine isL ?_; refine zW rfl (by kernel_rfl) rfl rfl ?_) | (refine zj rfl ?_; refine zV rfl (by kernel_rfl) rfl rfl ?_) | refine zD ?_ | refine zE _ rfl (by kernel_rfl) ?_ | refine zX rfl ?_ | refine zY rfl ?_ | refine zF ?_ | with_reducible refine zM ?_ | refine zK ?_ | refine zL ?_ | (with_reducible first | refine zP ?_ | refine zQ ?_ | refine zH ?_ | refine zJ ?_ | refine zI ?_) | refine zR ?_
  refine yt (α := Unit) (fun _ => ⟨((.sl 0 0 0) :: (I 0) :: (I 0) :: .any :: fnG :: .any :: .any :: .any :: .any :: .any :: .any :: .any :: .any :: .any :: .any :: .any :: .any :: .any :: .any :: .any :: .any :: .any :: .any :: .any :: .any :: .any :: .any :: .any :: .any :: .any :: .any :: .any :: .any :: .any :: .any :: .any :: .any :: .any :: .any :: .any :: .any :: .any :: .any :: .any :: .any :: .any :: .any :: .any :: .any :: .any :: .any :: .any :: .any :: .any :: .any :: .any :: .any :: .any :: .any :: .any :: .any :: .any :: .any :: .any :: .any :: .any :: .any :: .any :: .any :: .any :: .any :: .any :: .any :: .any :: .any :: .any :: .any :: .any :: .any :: .any :: .any :: .any :: .any :: .any :: .any :: .any :: .any :: .any :: .any :: .any :: .any :: .any :: .any :: .any :: .any :: .any :: .any :: .any :: .any :: .any :: .any :: .any :: .any :: .any :: .any :: .any :: .any :: .any :: .any :: .any :: .any :: .any :: .any :: .any :: .any :: .any :: .any :: .any :: .any :: .any :: .any :: .any :: .any :: .any :: .any :: .any :: .any :: .any :: .any :: .any :: .any :: .any :: .any :: .any :: .any :: .any :: .any :: .any :: .any :: .any :: .any :: .any :: .any :: .any :: .any :: .any :: .any :: .any :: []), [gR []], 1⟩) (fun _ => 0) () ?_ ?_
  · exact tW rfl (by repeat' first | exact EqS.nil | refine EqS.any ?_ | refine EqS.same rfl ?_)
  · rintro ⟨⟩
    repeat' first | refine zN ?_ | refine zC ?_ | refine zS [] ?_ | (refine isA ?_; refine zg rfl ?_) | (refine isL ?_; refine zW rfl (by kernel_rfl) rfl rfl ?_) | (refine zj rfl ?_; refine zV rfl (by kernel_rfl) rfl rfl ?_) | (refine yo 169 ?_; refine zl rfl (zv (K := []) (Rs' := [_]) [0] (by decide) rfl sz (.cons rfl rfl rfl (zT _ _) (zT _ _) .nil) (.cons (.sl rfl) (.cons (.same rfl) (.cons (.same rfl) (.cons (.same rfl) .nil)))) (fun q hq => by cases hq) rfl) rfl ?_) | (refine yn 169 rfl ?_; refine za rfl (by kernel_rfl) rfl (zv (K := []) (Rs' := [_]) [0] (by decide) rfl sz (.cons rfl rfl rfl (zT _ _) (zT _ _) .nil) (.cons (.sl rfl) (.cons (.same rfl) (.cons (.same rfl) (.cons (.same rfl) .nil)))) (fun q hq => by cases hq) rfl) rfl ?_) | exact po 1 [0] tJ (by decide) (.cons rfl rfl rfl rfl (yM rfl) .nil) | refine zD ?_ | refine zE _ rfl (by kernel_rfl) ?_ | refine zX rfl ?_ | refine zY rfl ?_ | refine zF ?_ | with_reducible refine zM ?_ | refine zK ?_ | refine zL ?_ | (with_reducible first | refine zP ?_ | refine zQ ?_ | refine zH ?_ | refine zJ ?_ | refine zI ?_) | refine zR ?_
theorem qU : zr Go.Proofs.Try.prog 145 [.sl 0 0 0, fnG] [gR []] (.tup []) [gR []] true := by
  refine z8 [] Go.Proofs.Try.func145 rfl rfl ?_
  simp only [Go.Proofs.Try.ntmps145, List.length_cons, List.length_nil, Nat.reduceAdd, Nat.reduceSub, List.replicate_succ, List.replicate_zero, List.cons_append, List.nil_append]
  repeat' first | refine zN ?_ | refine zC ?_ | refine zS [] ?_ | (refine isA ?_; refine zg rfl ?_) | (refine isL ?_; refine zW rfl (by kernel_rfl) rfl rfl ?_) | (refine zj rfl ?_; refine zV rfl (by kernel_rfl) rfl rfl ?_) | (refine yo 165 ?_; refine zl rfl (zb rfl sy (.cons (.same rfl) .nil) rfl) rfl ?_) | (refine yn 165 rfl ?_; refine za rfl (by kernel_rfl) rfl (zb rfl sy (.cons (.same rfl) .nil) rfl) rfl ?_) | (refine yo 164 ?_; refine zl rfl (zv (K := []) (Rs' := [_]) [0] (by decide) rfl sx (.cons rfl rfl rfl (zT _ _) (zT _ _) .nil) (.cons (.sl rfl) (.cons (.same rfl) (.cons (.same rfl) (.cons (.same rfl) (.cons (.same rfl) .nil))))) (fun q hq => by cases hq) rfl) rfl ?_) | (refine yn 164 rfl ?_; refine za rfl (by kernel_rfl) rfl (zv (K := []) (Rs' := [_]) [0] (by decide) rfl sx (.cons rfl rfl rfl (zT _ _) (zT _ _) .nil) (.cons (.sl rfl) (.cons (.same rfl) (.cons (.same rfl) (.cons (.same rfl) (.cons (.same rfl) .nil))))) (fun q hq => by cases hq) rfl) rfl ?_) | exact sL 1 [0] tJ (by decide) (.cons rfl rfl rfl rfl (yM rfl) .nil) | refine zD ?_ | refine zE _ rfl (by kernel_rfl) ?_ | refine zX rfl ?_ | refine zY rfl ?_ | refine zF ?_ | with_reducible refine zM ?_ | refine zK ?_ | refine zL ?_ | (with_reducible first | refine zP ?_ | refine zQ ?_ | refine zH ?_ | refine zJ ?_ | refine zI ?_) | refine zR ?_
theorem qT (xs : List Gr) (hl : xs.length ≤ 100000000) : zr Go.Proofs.Try.prog 145 [.sl 0 0 xs.length, fnG] [gR xs] (.tup []) [gR (y0 xs)] true := by
  by_cases h : xs = []
  · subst h
    have : y0 [] = [] := List.eq_nil_of_length_eq_zero (wB [])
    rw [this]
    exact qU
  · exact qS xs hl h
def t7 (gs : List Gr) : List Gr := y0 (xG gs)
theorem s0 (gs : List Gr) (hl : gs.length ≤ 100000000) : zr Go.Proofs.Try.prog 82 [gL gs] [] (.sl 0 0 (t7 gs).length) [gR (t7 gs)] false := tN y0 gs hl (fun out h => qT out h) wB
end Go.Proofs.Ytkcicbigpbdjpaa.Ab.Gq
namespace Go.Proofs.Ytkcicbigpbdjpaa.Ab.Gq
open Go.RowKit
def yd (g : Gr) : List Gr → List Gr
  | [] => [g]
  | x :: xs => if x.k < g.k then x :: yd g xs else if x.k = g.k then yN x g :: xs else g :: x :: xs
def Asc (xs : List Gr) : Prop := xs.Pairwise fun x y => x.k < y.k
def yR (xs : List Gr) (g : Gr) : List Gr := if xs.any (isK g.k) then [] else [g]
theorem vD {x g : Gr} (h : x.k ≠ g.k) : yN x g = x := by simp [yN, h]
theorem w9 {g : Gr} : ∀ {xs : List Gr}, (∀ x ∈ xs, x.k ≠ g.k) → xs.map (yN · g) = xs
  | [], _ => rfl
  | x :: xs, h => by rw [List.map_cons, vD (h x (List.mem_cons_self ..)), w9 fun y hy => h y (List.mem_cons_of_mem _ hy)]
theorem pu {g : Gr} {xs : List Gr} (h : ∀ x ∈ xs, x.k ≠ g.k) : xs.any (isK g.k) = false := by
  rw [List.any_eq_false]
  intro x hx
  simp [isK, h x hx]
theorem uM {g : Gr} : ∀ {xs : List Gr} {z : Gr}, z ∈ yd g xs → z.k = g.k ∨ z ∈ xs
  | [], z, h => by simp [yd] at h; exact Or.inl (by rw [h])
  | x :: xs, z, h => by
    unfold yd at h
    split at h
    · rcases List.mem_cons.1 h with rfl | h
      · exact Or.inr (List.mem_cons_self ..)
      · rcases uM h with h | h
        · exact Or.inl h
        · exact Or.inr (List.mem_cons_of_mem _ h)
    · split at h
      · rename_i e
        rcases List.mem_cons.1 h with rfl | h
        · exact Or.inl (by rw [v1]; exact e)
        · exact Or.inr (List.mem_cons_of_mem _ h)
      · rcases List.mem_cons.1 h with rfl | h
        · exact Or.inl rfl
        · exact Or.inr h
theorem uP {g : Gr} : ∀ {xs : List Gr}, Asc xs → Asc (yd g xs)
  | [], _ => by simp [yd, Asc]
  | x :: xs, h => by
    obtain ⟨h1, h2⟩ := List.pairwise_cons.1 h
    unfold yd
    split
    · rename_i hlt
      refine List.pairwise_cons.2 ⟨fun z hz => ?_, uP h2⟩
      rcases uM hz with e | hz
      · rw [e]; exact hlt
      · exact h1 z hz
    · split
      · exact List.pairwise_cons.2 ⟨fun z hz => by rw [v1]; exact h1 z hz, h2⟩
      · refine List.pairwise_cons.2 ⟨fun z hz => ?_, h⟩
        rcases List.mem_cons.1 hz with rfl | hz
        · omega
        · have := h1 z hz; omega
theorem vb {g : Gr} : ∀ {xs : List Gr}, Asc xs → (yd g xs).Perm (xs.map (yN · g) ++ yR xs g)
  | [], _ => by simp [yd, yR]
  | x :: xs, h => by
    obtain ⟨h1, h2⟩ := List.pairwise_cons.1 h
    unfold yd
    split
    · rename_i hlt
      have hk : isK g.k x = false := by simp [isK]; omega
      have ht : yR (x :: xs) g = yR xs g := by simp [yR, hk]
      rw [ht, List.map_cons, vD (show x.k ≠ g.k by omega), List.cons_append]
      exact (vb h2).cons x
    · split
      · rename_i e
        have hk : isK g.k x = true := by simp [isK, e]
        have ht : yR (x :: xs) g = [] := by simp [yR, hk]
        rw [ht, List.append_nil, List.map_cons, w9 fun z hz => by have := h1 z hz; omega]
      · rename_i n1 n2
        have hne : ∀ z ∈ x :: xs, z.k ≠ g.k := fun z hz => by
          rcases List.mem_cons.1 hz with rfl | hz
          · exact n2
          · have := h1 z hz; omega
        have ht : yR (x :: xs) g = [g] := by rw [yR, pu hne]; rfl
        rw [ht, w9 hne]
        exact List.perm_append_comm (l₁ := [g])
theorem t1 (x g : Gr) (xs : List Gr) : xq (x :: xs) g = if x.k = g.k then yN x g :: xs else x :: xq xs g := by
  unfold xq
  rw [List.findIdx?_cons]
  by_cases h : x.k = g.k
  · simp [isK, h]
  · have hk : isK g.k x = false := by simp [isK, h]
    rw [hk, if_neg h]
    cases hj : xs.findIdx? (isK g.k) with
    | none => simp
    | some j =>
      obtain ⟨hjl, _, _⟩ := List.findIdx?_eq_some_iff_getElem.1 hj
      simp [hjl]
theorem tz {g : Gr} : ∀ {xs : List Gr}, (xs.map (·.k)).Nodup → xq xs g = xs.map (yN · g) ++ yR xs g
  | [], _ => rfl
  | x :: xs, h => by
    rw [List.map_cons, List.nodup_cons] at h
    rw [t1]
    split
    · rename_i e
      have hk : isK g.k x = true := by simp [isK, e]
      have ht : yR (x :: xs) g = [] := by simp [yR, hk]
      rw [ht, List.append_nil, List.map_cons, w9 fun z hz e2 => h.1 (List.mem_map.2 ⟨z, hz, e2.trans e.symm⟩)]
    · rename_i e
      have hk : isK g.k x = false := by simp [isK, e]
      have ht : yR (x :: xs) g = yR xs g := by simp [yR, hk]
      rw [ht, List.map_cons, vD e, tz h.2]
      rfl
theorem wu {xs : List Gr} (h : Asc xs) : (xs.map (·.k)).Nodup := by
  rw [List.Nodup, List.pairwise_map]
  exact h.imp fun h => by omega
theorem uy {xs ys : List Gr} (g : Gr) (h : xs.Perm ys) : yR xs g = yR ys g := by
  unfold yR
  rw [h.any_eq]
def zu (gs : List Gr) : List Gr := gs.foldl (fun o g => yd g o) []
theorem uQ : ∀ (gs a b : List Gr), Asc b → a.Perm b → Asc (gs.foldl (fun o g => yd g o) b) ∧ (gs.foldl xq a).Perm (gs.foldl (fun o g => yd g o) b)
  | [], a, b, h, hp => ⟨h, hp⟩
  | g :: gs, a, b, h, hp => by
    rw [List.foldl_cons, List.foldl_cons]
    refine uQ gs _ _ (uP h) ?_
    have hn : (a.map (·.k)).Nodup := (hp.map _).nodup_iff.2 (wu h)
    rw [tz hn, uy g hp]
    exact ((hp.map _).append_right _).trans (vb h).symm
theorem v7 {xs ys : List Gr} (hx : Asc xs) (hy : Asc ys) (hp : xs.Perm ys) : xs = ys :=
  hp.eq_of_pairwise (fun a b _ _ h1 h2 => absurd h1 (by omega)) hx hy
theorem pf {xs : List Gr} (hn : (xs.map (·.k)).Nodup) : (y0 xs).Perm xs ∧ Asc (y0 xs) := by
  obtain ⟨⟨p1, p2, p3⟩, hs⟩ := tp xs
  have hp : (y0 xs).Perm xs := by
    have e1 : (wO xs).extract 0 xs.toArray.size = wO xs := by rw [← p1]; simp
    have e2 : xs.toArray.extract 0 xs.toArray.size = xs.toArray := by simp
    rw [e1, e2] at p3
    exact p3
  refine ⟨hp, ?_⟩
  have hle : (y0 xs).Pairwise fun x y => x.k ≤ y.k := by
    rw [List.pairwise_iff_getElem]
    intro i j hi hj hij
    have hl := wB xs
    have h := hs i j (Nat.zero_le _) hij (by simp; omega)
    rw [uK] at h
    have g1 : (wO xs)[i]! = (y0 xs)[i] := by
      rw [getElem!_pos (wO xs) i (by rw [y0, Array.length_toList] at hi; exact hi)]; rfl
    have g2 : (wO xs)[j]! = (y0 xs)[j] := by
      rw [getElem!_pos (wO xs) j (by rw [y0, Array.length_toList] at hj; exact hj)]; rfl
    rw [g1, g2] at h
    simpa using h
  have hn2 : ((y0 xs).map (·.k)).Nodup := (hp.map _).nodup_iff.2 hn
  rw [List.Nodup, List.pairwise_map] at hn2
  exact (hle.and hn2).imp fun ⟨h1, h2⟩ => by omega
theorem qF (gs : List Gr) : t7 gs = zu gs := by
  obtain ⟨h1, h2⟩ := uQ gs [] [] List.Pairwise.nil (.refl _)
  obtain ⟨h3, h4⟩ := pf (xs := xG gs) ((h2.map _).nodup_iff.2 (wu h1))
  exact v7 h4 h1 (h3.trans h2)
end Go.Proofs.Ytkcicbigpbdjpaa.Ab.Gq
namespace Go.Proofs.Ytkcicbigpbdjpaa.Ab.Gq
open Go.RowKit
theorem uD {H : List Reg} {h k off m : Nat} {xs : List Gr} (hH : H[h]? = some (gR xs)) (hk : k ≤ xs.length) (ho : off = k) (hm : m = xs.length - k) : Src H (.sl h off m) (xs.drop k).length (gT.flat (xs.drop k)) := by
  subst ho hm
  rw [List.length_drop]
  refine tt hH rfl (Nat.ble_eq_true_of_le (by
    show (off + (xs.length - off)) * 5 ≤ (gT.flat xs).length
    rw [zi]
    show _ ≤ xs.length * 5
    omega)) (sr xs off)
theorem xc {H : List Reg} {h k off m : Nat} {xs : List Gr} (hH : H[h]? = some (gR xs)) (hk : k ≤ xs.length) (ho : off = 0) (hm : m = k) : Src H (.sl h off m) (xs.take k).length (gT.flat (xs.take k)) := by
  subst ho hm
  rw [show (xs.take m).length = m by simp; omega]
  refine tt hH rfl (Nat.ble_eq_true_of_le (by
    show (0 + m) * 5 ≤ (gT.flat xs).length
    rw [zi]
    show _ ≤ xs.length * 5
    omega)) (by
    have := tR xs m
    rw [Nat.sub_zero] at this
    exact this)
theorem wC {H : List Reg} {h : Nat} {xs : List Gr} (hH : H[h]? = some (gR xs)) : Src H (.sl h 0 xs.length) xs.length (gT.flat xs) := by
  have := xc hH (Nat.le_refl xs.length) rfl rfl
  rwa [List.take_length] at this
theorem vB : ∀ {out : List Gr} {g : Gr} {k : Nat}, k ≤ out.length → (∀ j z, j < k → out[j]? = some z → z.k < g.k) → (∀ y, out[k]? = some y → g.k < y.k) → out.take k ++ g :: out.drop k = yd g out
  | [], g, k, hk, _, _ => by
    obtain rfl : k = 0 := by simpa using hk
    rfl
  | x :: xs, g, 0, hk, _, h => by
    have := h x rfl
    rw [yd, if_neg (by omega), if_neg (by omega)]
    rfl
  | x :: xs, g, k + 1, hk, h1, h2 => by
    have := h1 0 x (Nat.succ_pos _) rfl
    rw [yd, if_pos this, ← vB (out := xs) (g := g) (k := k) (by simpa using hk) (fun j z hj hz => h1 (j + 1) z (by omega) hz) (fun y hy => h2 y hy)]
    rfl
theorem uO : ∀ {out : List Gr} {g y : Gr} {k : Nat}, (∀ j z, j < k → out[j]? = some z → z.k < g.k) → out[k]? = some y → y.k = g.k → out.set k (yN y g) = yd g out
  | [], g, y, k, _, h, _ => by simp at h
  | x :: xs, g, y, 0, _, h, e => by
    simp only [List.getElem?_cons_zero, Option.some.injEq] at h
    subst h
    rw [yd, if_neg (by omega), if_pos e]
    rfl
  | x :: xs, g, y, k + 1, h1, h, e => by
    have := h1 0 x (Nat.succ_pos _) rfl
    rw [yd, if_pos this, ← uO (out := xs) (g := g) (k := k) (fun j z hj hz => h1 (j + 1) z (by omega) hz) (by simpa using h) e]
    rfl
theorem vd {gs : List Gr} {i : Nat} {z : Gr} (hz : gs[i]? = some z) : zu (gs.take (i + 1)) = yd z (zu (gs.take i)) := by
  rw [List.take_add_one, hz, zu, List.foldl_append]; rfl
theorem uN (g : Gr) : ∀ xs : List Gr, (yd g xs).length ≤ xs.length + 1
  | [] => Nat.le_refl _
  | x :: xs => by
    have := uN g xs
    unfold yd
    split
    · simp only [List.length_cons]; omega
    · split <;> simp
theorem vc : ∀ gs o : List Gr, (gs.foldl (fun o g => yd g o) o).length ≤ o.length + gs.length
  | [], o => Nat.le_refl _
  | g :: gs, o => by
    have h1 := uN g o
    have h2 := vc gs (yd g o)
    rw [List.foldl_cons, List.length_cons]
    omega
theorem wS (gs : List Gr) : (zu gs).length ≤ gs.length := by
  have := vc gs []
  simpa [zu] using this
theorem sw (gs : List Gr) (hl : gs.length ≤ 100000000) : zr Go.Proofs.Try.prog 80 [gL gs] [] (.sl 0 0 (zu gs).length) [gR (zu gs)] false := by
  refine z8 [2] Go.Proofs.Try.func80 rfl rfl ?_
  simp only [Go.Proofs.Try.ntmps80, List.length_cons, List.length_nil, Nat.reduceAdd, Nat.reduceSub, List.replicate_succ, List.replicate_zero, List.cons_append, List.nil_append]
  repeat' first | refine zN ?_ | refine zC ?_ | refine zS [] ?_ | (refine isA ?_; refine zg rfl ?_) | (refine isL ?_; refine zW rfl (by kernel_rfl) rfl rfl ?_) | (refine zj rfl ?_; refine zV rfl (by kernel_rfl) rfl rfl ?_) | refine zD ?_ | refine zE _ rfl (by kernel_rfl) ?_ | refine zX rfl ?_ | refine zY rfl ?_ | refine zF ?_ | with_reducible refine zM ?_ | refine zK ?_ | refine zL ?_ | (with_reducible first | refine zP ?_ | refine zQ ?_ | refine zH ?_ | refine zJ ?_ | refine zI ?_) | refine zR ?_
  refine yt (α := { i : Nat // i ≤ gs.length }) (fun i => ⟨((gL gs) :: .any :: .any :: (.sl 0 0 (zu (gs.take i.1)).length) :: (I i.1) :: .any :: .any :: .any :: .any :: .any :: .any :: .any :: .any :: .any :: .any :: .any :: .any :: .any :: .any :: .any :: .any :: .any :: .any :: .any :: .any :: .any :: .any :: .any :: .any :: .any :: .any :: .any :: .any :: .any :: .any :: .any :: .any :: .any :: .any :: .any :: .any :: .any :: .any :: .any :: .any :: .any :: .any :: .any :: .any :: .any :: .any :: .any :: .any :: .any :: .any :: .any :: .any :: .any :: .any :: .any :: .any :: .any :: .any :: .any :: .any :: .any :: .any :: .any :: .any :: .any :: .any :: .any :: .any :: .any :: .any :: .any :: .any :: .any :: .any :: []), [gR (zu (gs.take i.1))], 0⟩) (fun i => gs.length - i.1) ⟨0, Nat.zero_le _⟩ ?_ ?_
  · exact x5 [0] rfl rfl (by decide) (.cons rfl rfl rfl rfl (yA (zT _ _)) .nil) (by repeat' first | exact zt | refine zq ?_ ?_ | exact yG | exact le_refl rfl | exact yF rfl rfl | exact yQ rfl)
  · rintro ⟨i, hi⟩
    repeat' first | refine zN ?_ | refine zC ?_ | refine zS [] ?_ | (refine isA ?_; refine zg rfl ?_) | (refine isL ?_; refine zW rfl (by kernel_rfl) rfl rfl ?_) | (refine zj rfl ?_; refine zV rfl (by kernel_rfl) rfl rfl ?_) | refine zD ?_ | refine zE _ rfl (by kernel_rfl) ?_ | refine zX rfl ?_ | refine zY rfl ?_ | refine zF ?_ | with_reducible refine zM ?_ | refine zK ?_ | refine zL ?_ | (with_reducible first | refine zP ?_ | refine zQ ?_ | refine zH ?_ | refine zJ ?_ | refine zI ?_) | refine zR ?_
    refine zo rfl (fun h => ?_) (fun h => ?_)
    · have hlt : i < gs.length := by simpa using h
      obtain ⟨x, hx⟩ : ∃ z, gs[i]? = some z := ⟨_, List.getElem?_eq_getElem hlt⟩
      have e1 : zu (gs.take (i + 1)) = yd x (zu (gs.take i)) := vd hx
      have hol : (zu (gs.take i)).length ≤ i := by
        have := wS (gs.take i)
        rw [List.length_take] at this
        omega
      generalize zu (gs.take i) = out at e1 hol
      repeat' first | refine zN ?_ | refine zC ?_ | refine zS [] ?_ | (refine isA ?_; refine zg rfl ?_) | (refine isL ?_; refine zW rfl (by kernel_rfl) rfl rfl ?_) | (refine zj rfl ?_; refine zV rfl (by kernel_rfl) rfl rfl ?_) | refine zD ?_ | refine zE _ rfl (by kernel_rfl) ?_ | refine zX rfl ?_ | refine zY rfl ?_ | refine zF ?_ | with_reducible refine zM ?_ | refine zK ?_ | refine zL ?_ | (with_reducible first | refine zP ?_ | refine zQ ?_ | refine zH ?_ | refine zJ ?_ | refine zI ?_) | refine zR ?_
      refine yt (α := { k : Nat // k ≤ out.length ∧ ∀ j z, j < k → out[j]? = some z → z.k < x.k }) (fun k => ⟨((gL gs) :: .any :: .any :: (.sl 0 0 out.length) :: (I i) :: (I k.1) :: .any :: .any :: .any :: .any :: .any :: .any :: .any :: .any :: .any :: .any :: .any :: .any :: .any :: .any :: .any :: .any :: .any :: .any :: .any :: .any :: .any :: .any :: .any :: .any :: .any :: .any :: .any :: .any :: .any :: .any :: .any :: .any :: .any :: .any :: .any :: .any :: .any :: .any :: .any :: .any :: .any :: .any :: .any :: .any :: .any :: .any :: .any :: .any :: .any :: .any :: .any :: .any :: .any :: .any :: .any :: .any :: .any :: .any :: .any :: .any :: .any :: .any :: .any :: .any :: .any :: .any :: .any :: .any :: .any :: .any :: .any :: .any :: .any :: []), [gR out], 0⟩) (fun k => out.length - k.1) ⟨0, Nat.zero_le _, fun j z hj hz => absurd hj (Nat.not_lt_zero _)⟩ ?_ ?_
      · exact x5 [0] rfl rfl (by decide) (.cons rfl rfl rfl rfl (yA (zT _ _)) .nil) (by repeat' first | exact zt | refine zq ?_ ?_ | exact yG | exact le_refl rfl | exact yF rfl rfl | exact yQ rfl)
      · rintro ⟨k, hk, hB⟩
        repeat' first | refine zN ?_ | refine zC ?_ | refine zS [] ?_ | (refine isA ?_; refine zg rfl ?_) | (refine isL ?_; refine zW rfl (by kernel_rfl) rfl rfl ?_) | (refine zj rfl ?_; refine zV rfl (by kernel_rfl) rfl rfl ?_) | refine zD ?_ | refine zE _ rfl (by kernel_rfl) ?_ | refine zX rfl ?_ | refine zY rfl ?_ | refine zF ?_ | with_reducible refine zM ?_ | refine zK ?_ | refine zL ?_ | (with_reducible first | refine zP ?_ | refine zQ ?_ | refine zH ?_ | refine zJ ?_ | refine zI ?_) | refine zR ?_
        refine vy rfl rfl rfl rfl (fun p1 => ?_) (fun p1 => ?_)
        · have q1 : k < out.length := by simpa using p1
          obtain ⟨y, hy⟩ : ∃ z, out[k]? = some z := ⟨_, List.getElem?_eq_getElem q1⟩
          repeat' first | refine zN ?_ | refine zC ?_ | refine zS [] ?_ | (refine isA ?_; refine zg rfl ?_) | (refine isL ?_; refine zW rfl (by kernel_rfl) rfl rfl ?_) | (refine zj rfl ?_; refine zV rfl (by kernel_rfl) rfl rfl ?_) | (refine xj (x := .tmp 24) ?_; refine zl rfl (yg (t := gT) (z := x) rfl rfl rfl rfl (Int.natCast_nonneg i) hx) rfl ?_) | (refine xi (x := .tmp 24) rfl ?_; refine za rfl (by kernel_rfl) rfl (yg (t := gT) (z := x) rfl rfl rfl rfl (Int.natCast_nonneg i) hx) rfl ?_) | (refine xj (x := .tmp 19) ?_; refine zl rfl (ve (t := gT) (xs := out) (j := (k : Int)) rfl rfl rfl rfl rfl (Int.natCast_nonneg _) (by omega)) rfl ?_) | (refine xi (x := .tmp 19) rfl ?_; refine za rfl (by kernel_rfl) rfl (ve (t := gT) (xs := out) (j := (k : Int)) rfl rfl rfl rfl rfl (Int.natCast_nonneg _) (by omega)) rfl ?_) | (refine qM (x := .tmp 22) ?_; refine zl rfl (qJ (T := gT) (i := k) (off := 0) (xs := out) (z := y) (v := I y.k) rfl rfl rfl hy rfl) rfl ?_) | (refine qL (x := .tmp 22) rfl ?_; refine za rfl (by kernel_rfl) rfl (qJ (T := gT) (i := k) (off := 0) (xs := out) (z := y) (v := I y.k) rfl rfl rfl hy rfl) rfl ?_) | refine zD ?_ | refine zE _ rfl (by kernel_rfl) ?_ | refine zX rfl ?_ | refine zY rfl ?_ | refine zF ?_ | with_reducible refine zM ?_ | refine zK ?_ | refine zL ?_ | (with_reducible first | refine zP ?_ | refine zQ ?_ | refine zH ?_ | refine zJ ?_ | refine zI ?_) | refine zR ?_
          refine zo rfl (fun p2 => ?_) (fun p2 => ?_)
          · have q2 := of_decide_eq_true p2
            repeat' first | refine zN ?_ | refine zC ?_ | refine zS [] ?_ | (refine isA ?_; refine zg rfl ?_) | (refine isL ?_; refine zW rfl (by kernel_rfl) rfl rfl ?_) | (refine zj rfl ?_; refine zV rfl (by kernel_rfl) rfl rfl ?_) | refine zD ?_ | refine zE _ rfl (by kernel_rfl) ?_ | refine zX rfl ?_ | refine zY rfl ?_ | refine zF ?_ | with_reducible refine zM ?_ | refine zK ?_ | refine zL ?_ | (with_reducible first | refine zP ?_ | refine zQ ?_ | refine zH ?_ | refine zJ ?_ | refine zI ?_) | refine zR ?_
            refine ⟨⟨k + 1, q1, fun j z hj hz => ?_⟩, by simp only; omega, ?_⟩
            · rcases Nat.lt_or_ge j k with hjk | hjk
              · exact hB j z hjk hz
              · obtain rfl : j = k := by omega
                rw [hy] at hz
                cases hz
                exact q2
            · exact x5 [0] rfl rfl (by decide) (.cons rfl rfl rfl rfl (yA (zT _ _)) .nil) (by
                repeat' first | exact zt | refine zq ?_ ?_ | exact yG | exact le_refl rfl | exact yF rfl rfl | exact wh (by omega) (by omega))
          · have q2 := of_decide_eq_false p2
            repeat' first | refine zN ?_ | refine zC ?_ | refine zS [] ?_ | (refine isA ?_; refine zg rfl ?_) | (refine isL ?_; refine zW rfl (by kernel_rfl) rfl rfl ?_) | (refine zj rfl ?_; refine zV rfl (by kernel_rfl) rfl rfl ?_) | refine zD ?_ | refine zE _ rfl (by kernel_rfl) ?_ | refine zX rfl ?_ | refine zY rfl ?_ | refine zF ?_ | with_reducible refine zM ?_ | refine zK ?_ | refine zL ?_ | (with_reducible first | refine zP ?_ | refine zQ ?_ | refine zH ?_ | refine zJ ?_ | refine zI ?_) | refine zR ?_
            refine vy rfl rfl rfl rfl (fun p3 => ?_) (fun p3 => absurd q1 (by simpa using p3))
            repeat' first | refine zN ?_ | refine zC ?_ | refine zS [] ?_ | (refine isA ?_; refine zg rfl ?_) | (refine isL ?_; refine zW rfl (by kernel_rfl) rfl rfl ?_) | (refine zj rfl ?_; refine zV rfl (by kernel_rfl) rfl rfl ?_) | (refine xj (x := .tmp 43) ?_; refine zl rfl (yg (t := gT) (z := x) rfl rfl rfl rfl (Int.natCast_nonneg i) hx) rfl ?_) | (refine xi (x := .tmp 43) rfl ?_; refine za rfl (by kernel_rfl) rfl (yg (t := gT) (z := x) rfl rfl rfl rfl (Int.natCast_nonneg i) hx) rfl ?_) | (refine xj (x := .tmp 38) ?_; refine zl rfl (ve (t := gT) (xs := out) (j := (k : Int)) rfl rfl rfl rfl rfl (Int.natCast_nonneg _) (by omega)) rfl ?_) | (refine xi (x := .tmp 38) rfl ?_; refine za rfl (by kernel_rfl) rfl (ve (t := gT) (xs := out) (j := (k : Int)) rfl rfl rfl rfl rfl (Int.natCast_nonneg _) (by omega)) rfl ?_) | (refine qM (x := .tmp 41) ?_; refine zl rfl (qJ (T := gT) (i := k) (off := 0) (xs := out) (z := y) (v := I y.k) rfl rfl rfl hy rfl) rfl ?_) | (refine qL (x := .tmp 41) rfl ?_; refine za rfl (by kernel_rfl) rfl (qJ (T := gT) (i := k) (off := 0) (xs := out) (z := y) (v := I y.k) rfl rfl rfl hy rfl) rfl ?_) | refine zD ?_ | refine zE _ rfl (by kernel_rfl) ?_ | refine zX rfl ?_ | refine zY rfl ?_ | refine zF ?_ | with_reducible refine zM ?_ | refine zK ?_ | refine zL ?_ | (with_reducible first | refine zP ?_ | refine zQ ?_ | refine zH ?_ | refine zJ ?_ | refine zI ?_) | refine zR ?_
            refine zo rfl (fun p4 => ?_) (fun p4 => ?_)
            · have q4 : y.k = x.k := of_decide_eq_true p4
              have hfin := uO hB hy q4
              rw [← hfin] at e1
              repeat' first | (refine vz rfl ?_; refine pO rfl (by kernel_rfl) rfl (uG (T := gT) (i := k) (xs := out) (z := yN y x) rfl rfl rfl rfl rfl q1) rfl ?_) | refine zN ?_ | refine zC ?_ | refine zS [12] ?_ | (refine isA ?_; refine zg rfl ?_) | (refine isL ?_; refine zW rfl (by kernel_rfl) rfl rfl ?_) | (refine zj rfl ?_; refine zV rfl (by kernel_rfl) rfl rfl ?_) | (refine xj (x := .tmp 56) ?_; refine zl rfl (yg (t := gT) (z := x) rfl rfl rfl rfl (Int.natCast_nonneg i) hx) rfl ?_) | (refine xi (x := .tmp 56) rfl ?_; refine za rfl (by kernel_rfl) rfl (yg (t := gT) (z := x) rfl rfl rfl rfl (Int.natCast_nonneg i) hx) rfl ?_) | (refine xj ?_; refine zl rfl (ve (t := gT) (xs := out) (j := (k : Int)) rfl rfl rfl rfl rfl (Int.natCast_nonneg _) (by omega)) rfl ?_) | (refine xi rfl ?_; refine za rfl (by kernel_rfl) rfl (ve (t := gT) (xs := out) (j := (k : Int)) rfl rfl rfl rfl rfl (Int.natCast_nonneg _) (by omega)) rfl ?_) | (refine qM (x := .tmp 54) ?_; refine zl rfl (qK (T := gT) (xs := out) (i := k) (z := y) rfl rfl rfl hy) rfl ?_) | (refine qL (x := .tmp 54) rfl ?_; refine za rfl (by kernel_rfl) rfl (qK (T := gT) (xs := out) (i := k) (z := y) rfl rfl rfl hy) rfl ?_) | (refine yo 100 ?_; refine zl rfl (zb rfl (uo y x) (.cons (.same rfl) (.cons (.same rfl) .nil)) rfl) rfl ?_) | (refine yn 100 rfl ?_; refine za rfl (by kernel_rfl) rfl (zb rfl (uo y x) (.cons (.same rfl) (.cons (.same rfl) .nil)) rfl) rfl ?_) | refine zD ?_ | refine zE _ rfl (by kernel_rfl) ?_ | refine zX rfl ?_ | refine zY rfl ?_ | refine zF ?_ | with_reducible refine zM ?_ | refine zK ?_ | refine zL ?_ | (with_reducible first | refine zP ?_ | refine zQ ?_ | refine zH ?_ | refine zJ ?_ | refine zI ?_) | refine zR ?_
              refine ⟨⟨i + 1, hlt⟩, by simp only; omega, ?_⟩
              simp only [e1]
              exact x5 [0] rfl rfl (by decide) (.cons rfl rfl rfl rfl (yA (zT _ _)) .nil) (by repeat' first | exact zt | refine zq ?_ ?_ | exact yG | exact le_refl rfl | exact yQ rfl | exact yF rfl rfl | exact yF rfl (by simp) | exact wh (by omega) (by omega))
            · have q4 : y.k ≠ x.k := of_decide_eq_false p4
              have hfin := vB hk hB (fun z hz => by rw [hy] at hz; cases hz; omega)
              have hkl : k ≤ i := by omega
              repeat' first | refine zN ?_ | refine zC ?_ | (refine isA ?_; refine zg rfl ?_) | (refine isL ?_; refine zW rfl (by kernel_rfl) rfl rfl ?_) | (refine zj rfl ?_; refine zV rfl (by kernel_rfl) rfl rfl ?_) | refine zD ?_ | refine zE _ rfl (by kernel_rfl) ?_ | refine zX rfl ?_ | refine zY rfl ?_ | refine zF ?_ | with_reducible refine zM ?_ | refine zK ?_ | refine zL ?_ | (with_reducible first | refine zP ?_ | refine zQ ?_ | refine zH ?_ | refine zJ ?_ | refine zI ?_) | refine zR ?_
              refine ur (fun H => H[0]? = some (gR out)) 10 rfl ?_
              refine yc 5 rfl rfl (by kernel_rfl) rfl (fun _ => rfl) rfl ?_
              refine yc 6 rfl rfl (by kernel_rfl) rfl (fun _ => rfl) rfl ?_
              refine wN 7 rfl rfl (by kernel_rfl) rfl (fun H hG => yB (l := (k : Int)) (h := (out.length : Int)) rfl rfl hG (Nat.zero_le _) rfl (.yes _ rfl) (.no _) (by omega) (by omega) (by omega)) rfl ?_
              refine yc 0 rfl rfl (by kernel_rfl) rfl (fun _ => rfl) rfl ?_
              refine yc 1 rfl rfl (by kernel_rfl) rfl (fun _ => rfl) rfl ?_
              refine wN 2 rfl rfl (by kernel_rfl) rfl (fun _ _ => yg (t := gT) (z := x) rfl rfl rfl rfl (Int.natCast_nonneg i) hx) rfl ?_
              refine yc 3 rfl rfl (by kernel_rfl) rfl (fun _ => rfl) rfl ?_
              refine w7 4 (by kernel_rfl) ?_
              refine pU rfl rfl rfl rfl rfl ?_
              refine w7 8 (by kernel_rfl) ?_
              refine pq rfl rfl (wA (t := gT) (xs := [x]) (ys := out.drop k) rfl rfl rfl rfl (uD rfl hk (by simp) (by simp)) (by simp; omega) rfl) rfl rfl ?_
              refine yc 9 rfl rfl (by kernel_rfl) rfl (fun _ => rfl) rfl ?_
              refine wn (by kernel_rfl) ?_
              repeat' first | refine zN ?_ | refine zC ?_ | refine zS [] ?_ | (refine isA ?_; refine zg rfl ?_) | (refine isL ?_; refine zW rfl (by kernel_rfl) rfl rfl ?_) | (refine zj rfl ?_; refine zV rfl (by kernel_rfl) rfl rfl ?_) | (refine isAx ?_; refine zl rfl (yB (l := (0 : Int)) (h := (k : Int)) rfl rfl rfl (Nat.zero_le _) rfl (.no 0) (.yes _ rfl) (Int.le_refl 0) (Int.natCast_nonneg k) (by omega)) rfl ?_) | (refine isLx rfl ?_; refine za rfl (by kernel_rfl) rfl (yB (l := (0 : Int)) (h := (k : Int)) rfl rfl rfl (Nat.zero_le _) rfl (.no 0) (.yes _ rfl) (Int.le_refl 0) (Int.natCast_nonneg k) (by omega)) rfl ?_) | (refine sH ?_; refine zl rfl (wA (t := gT) (xs := []) (ys := out.take k) rfl rfl rfl rfl (xc rfl hk (by simp) (by simp)) (by simp; omega) rfl) rfl ?_) | (refine sF rfl ?_; refine za rfl (by kernel_rfl) rfl (wA (t := gT) (xs := []) (ys := out.take k) rfl rfl rfl rfl (xc rfl hk (by simp) (by simp)) (by simp; omega) rfl) rfl ?_) | (refine sH ?_; refine zl rfl (wA (t := gT) (xs := [] ++ out.take k) (ys := [x] ++ out.drop k) rfl rfl rfl rfl (wC rfl) (by simp; omega) rfl) rfl ?_) | (refine sF rfl ?_; refine za rfl (by kernel_rfl) rfl (wA (t := gT) (xs := [] ++ out.take k) (ys := [x] ++ out.drop k) rfl rfl rfl rfl (wC rfl) (by simp; omega) rfl) rfl ?_) | refine zD ?_ | refine zE _ rfl (by kernel_rfl) ?_ | refine zX rfl ?_ | refine zY rfl ?_ | refine zF ?_ | with_reducible refine zM ?_ | refine zK ?_ | refine zL ?_ | (with_reducible first | refine zP ?_ | refine zQ ?_ | refine zH ?_ | refine zJ ?_ | refine zI ?_) | refine zR ?_
              refine ⟨⟨i + 1, hlt⟩, by simp only; omega, ?_⟩
              exact x5 [5] rfl rfl (by decide) (.cons rfl rfl rfl rfl (wR (show gT.flat ([] ++ out.take k ++ ([x] ++ out.drop k)) = gT.flat (zu (gs.take (i + 1))) by rw [e1, ← hfin]; rfl) (zT _ _)) .nil) (by
                repeat' first | exact zt | refine zq ?_ ?_ | exact yG | exact le_refl rfl | exact yF rfl (show ([] ++ out.take k ++ ([x] ++ out.drop k)).length = (zu (gs.take (i + 1))).length by rw [e1, ← hfin]; rfl) | exact yF rfl (show (zu (gs.take (i + 1))).length = ([] ++ out.take k ++ ([x] ++ out.drop k)).length by rw [e1, ← hfin]; rfl) | exact wh hlt (by omega))
        · have q1 : ¬ k < out.length := by simpa using p1
          have hfin := vB hk hB (fun z hz => absurd (List.getElem?_eq_some_iff.1 hz).1 q1)
          have hkl : k ≤ i := by omega
          repeat' first | refine zN ?_ | refine zC ?_ | refine zS [] ?_ | (refine isA ?_; refine zg rfl ?_) | (refine isL ?_; refine zW rfl (by kernel_rfl) rfl rfl ?_) | (refine zj rfl ?_; refine zV rfl (by kernel_rfl) rfl rfl ?_) | refine zD ?_ | refine zE _ rfl (by kernel_rfl) ?_ | refine zX rfl ?_ | refine zY rfl ?_ | refine zF ?_ | with_reducible refine zM ?_ | refine zK ?_ | refine zL ?_ | (with_reducible first | refine zP ?_ | refine zQ ?_ | refine zH ?_ | refine zJ ?_ | refine zI ?_) | refine zR ?_
          refine vy rfl rfl rfl rfl (fun p3 => absurd (by simpa using p3) q1) (fun p3 => ?_)
          repeat' first | refine zN ?_ | refine zC ?_ | (refine isA ?_; refine zg rfl ?_) | (refine isL ?_; refine zW rfl (by kernel_rfl) rfl rfl ?_) | (refine zj rfl ?_; refine zV rfl (by kernel_rfl) rfl rfl ?_) | refine zD ?_ | refine zE _ rfl (by kernel_rfl) ?_ | refine zX rfl ?_ | refine zY rfl ?_ | refine zF ?_ | with_reducible refine zM ?_ | refine zK ?_ | refine zL ?_ | (with_reducible first | refine zP ?_ | refine zQ ?_ | refine zH ?_ | refine zJ ?_ | refine zI ?_) | refine zR ?_
          refine ur (fun H => H[0]? = some (gR out)) 10 rfl ?_
          refine yc 5 rfl rfl (by kernel_rfl) rfl (fun _ => rfl) rfl ?_
          refine yc 6 rfl rfl (by kernel_rfl) rfl (fun _ => rfl) rfl ?_
          refine wN 7 rfl rfl (by kernel_rfl) rfl (fun H hG => yB (l := (k : Int)) (h := (out.length : Int)) rfl rfl hG (Nat.zero_le _) rfl (.yes _ rfl) (.no _) (by omega) (by omega) (by omega)) rfl ?_
          refine yc 0 rfl rfl (by kernel_rfl) rfl (fun _ => rfl) rfl ?_
          refine yc 1 rfl rfl (by kernel_rfl) rfl (fun _ => rfl) rfl ?_
          refine wN 2 rfl rfl (by kernel_rfl) rfl (fun _ _ => yg (t := gT) (z := x) rfl rfl rfl rfl (Int.natCast_nonneg i) hx) rfl ?_
          refine yc 3 rfl rfl (by kernel_rfl) rfl (fun _ => rfl) rfl ?_
          refine w7 4 (by kernel_rfl) ?_
          refine pU rfl rfl rfl rfl rfl ?_
          refine w7 8 (by kernel_rfl) ?_
          refine pq rfl rfl (wA (t := gT) (xs := [x]) (ys := out.drop k) rfl rfl rfl rfl (uD rfl hk (by simp) (by simp)) (by simp; omega) rfl) rfl rfl ?_
          refine yc 9 rfl rfl (by kernel_rfl) rfl (fun _ => rfl) rfl ?_
          refine wn (by kernel_rfl) ?_
          repeat' first | refine zN ?_ | refine zC ?_ | refine zS [] ?_ | (refine isA ?_; refine zg rfl ?_) | (refine isL ?_; refine zW rfl (by kernel_rfl) rfl rfl ?_) | (refine zj rfl ?_; refine zV rfl (by kernel_rfl) rfl rfl ?_) | (refine isAx ?_; refine zl rfl (yB (l := (0 : Int)) (h := (k : Int)) rfl rfl rfl (Nat.zero_le _) rfl (.no 0) (.yes _ rfl) (Int.le_refl 0) (Int.natCast_nonneg k) (by omega)) rfl ?_) | (refine isLx rfl ?_; refine za rfl (by kernel_rfl) rfl (yB (l := (0 : Int)) (h := (k : Int)) rfl rfl rfl (Nat.zero_le _) rfl (.no 0) (.yes _ rfl) (Int.le_refl 0) (Int.natCast_nonneg k) (by omega)) rfl ?_) | (refine sH ?_; refine zl rfl (wA (t := gT) (xs := []) (ys := out.take k) rfl rfl rfl rfl (xc rfl hk (by simp) (by simp)) (by simp; omega) rfl) rfl ?_) | (refine sF rfl ?_; refine za rfl (by kernel_rfl) rfl (wA (t := gT) (xs := []) (ys := out.take k) rfl rfl rfl rfl (xc rfl hk (by simp) (by simp)) (by simp; omega) rfl) rfl ?_) | (refine sH ?_; refine zl rfl (wA (t := gT) (xs := [] ++ out.take k) (ys := [x] ++ out.drop k) rfl rfl rfl rfl (wC rfl) (by simp; omega) rfl) rfl ?_) | (refine sF rfl ?_; refine za rfl (by kernel_rfl) rfl (wA (t := gT) (xs := [] ++ out.take k) (ys := [x] ++ out.drop k) rfl rfl rfl rfl (wC rfl) (by simp; omega) rfl) rfl ?_) | refine zD ?_ | refine zE _ rfl (by kernel_rfl) ?_ | refine zX rfl ?_ | refine zY rfl ?_ | refine zF ?_ | with_reducible refine zM ?_ | refine zK ?_ | refine zL ?_ | (with_reducible first | refine zP ?_ | refine zQ ?_ | refine zH ?_ | refine zJ ?_ | refine zI ?_) | refine zR ?_
          refine ⟨⟨i + 1, hlt⟩, by simp only; omega, ?_⟩
          exact x5 [5] rfl rfl (by decide) (.cons rfl rfl rfl rfl (wR (show gT.flat ([] ++ out.take k ++ ([x] ++ out.drop k)) = gT.flat (zu (gs.take (i + 1))) by rw [e1, ← hfin]; rfl) (zT _ _)) .nil) (by
            repeat' first | exact zt | refine zq ?_ ?_ | exact yG | exact le_refl rfl | exact yF rfl (show ([] ++ out.take k ++ ([x] ++ out.drop k)).length = (zu (gs.take (i + 1))).length by rw [e1, ← hfin]; rfl) | exact yF rfl (show (zu (gs.take (i + 1))).length = ([] ++ out.take k ++ ([x] ++ out.drop k)).length by rw [e1, ← hfin]; rfl) | exact wh hlt (by omega))
    · have hge : i = gs.length := by
        have : ¬ ((i : Int) < gs.length) := by simpa using h
        omega
      subst hge
      have e2 : zu (gs.take gs.length) = zu gs := by rw [List.take_length]
      repeat' first | refine zN ?_ | refine zC ?_ | refine zS [] ?_ | (refine isA ?_; refine zg rfl ?_) | (refine isL ?_; refine zW rfl (by kernel_rfl) rfl rfl ?_) | (refine zj rfl ?_; refine zV rfl (by kernel_rfl) rfl rfl ?_) | exact finL (ty := gT) rfl rfl rfl rfl (by simp only [e2]) e2 (sJ _) | refine zD ?_ | refine zE _ rfl (by kernel_rfl) ?_ | refine zX rfl ?_ | refine zY rfl ?_ | refine zF ?_ | with_reducible refine zM ?_ | refine zK ?_ | refine zL ?_ | (with_reducible first | refine zP ?_ | refine zQ ?_ | refine zH ?_ | refine zJ ?_ | refine zI ?_) | refine zR ?_
end Go.Proofs.Ytkcicbigpbdjpaa.Ab.Gq
namespace Go.Proofs.Ytkcicbigpbdjpaa.Ab
open Go.RowKit
theorem pe {n : Nat} {l : Int} (hn : n ≤ 9223372036854775807) (h0 : 0 ≤ l) (h1 : l ≤ 1048576) (h : decide (szL n l < 0) = false) : (n : Int) ≤ l ∧ szL n l = l - n := by
  have e : IntKind.i64.wrap (l - n) = l - n := by rw [IntKind.wrap_i64]; omega
  unfold szL at h ⊢
  rw [e] at h ⊢
  by_cases hc : l - (n : Int) < 0
  · rw [decide_eq_true hc] at h; cases h
  · rw [show decide (l - (n : Int) < 0) = false from decide_eq_false hc, cond_false]
    exact ⟨by omega, rfl⟩
end Go.Proofs.Ytkcicbigpbdjpaa.Ab
namespace Go.Proofs.Ytkcicbigpbdjpaa.Ab.Gq
open Go.RowKit
theorem pgr {H : List Reg} {h : Nat} {xs : List Gr} (hH : H[h]? = some (gR xs)) : Pur true H (.sl h 0 xs.length) (gL xs) := pur_g (n := 0) hH
theorem wW (xs : List Gr) (left : Int) : zr Go.Proofs.Try.prog 79 [gL xs, I left] [] (I (szL xs.length left)) [] false := by
  refine z8 [4] Go.Proofs.Try.func79 rfl rfl ?_
  simp only [Go.Proofs.Try.ntmps79, List.length_cons, List.length_nil, Nat.reduceAdd, Nat.reduceSub, List.replicate_succ, List.replicate_zero, List.cons_append, List.nil_append]
  repeat' first | refine zN ?_ | refine zC ?_ | refine zS [] ?_ | (refine isA ?_; refine zg rfl ?_) | (refine isL ?_; refine zW rfl (by kernel_rfl) rfl rfl ?_) | (refine zj rfl ?_; refine zV rfl (by kernel_rfl) rfl rfl ?_) | refine zo rfl (fun _ => ?_) (fun _ => ?_) | (refine tK rfl rfl ?_; simp only [szL, *, cond_true, cond_false]; done) | refine zD ?_ | refine zE _ rfl (by kernel_rfl) ?_ | refine zX rfl ?_ | refine zY rfl ?_ | refine zF ?_ | with_reducible refine zM ?_ | refine zK ?_ | refine zL ?_ | (with_reducible first | refine zP ?_ | refine zQ ?_ | refine zH ?_ | refine zJ ?_ | refine zI ?_) | refine zR ?_
theorem ws (c : Gr) : zr Go.Proofs.Try.prog 144 [.agg (gE c)] [] (.agg (gE c)) [] true := by
  refine xt 2 95 Go.Proofs.Try.func144 rfl rfl ?_
  simp only [Go.Proofs.Try.ntmps144, List.length_cons, List.length_nil, Nat.reduceAdd, Nat.reduceSub, List.replicate_succ, List.replicate_zero, List.cons_append, List.nil_append]
  repeat' first | refine zN ?_ | refine zC ?_ | refine zS [] ?_ | (refine isA ?_; refine zg rfl ?_) | (refine isL ?_; refine zW rfl (by kernel_rfl) rfl rfl ?_) | (refine zj rfl ?_; refine zV rfl (by kernel_rfl) rfl rfl ?_) | exact sM (xo rfl rfl rfl rfl rfl) (.same rfl) | refine zD ?_ | refine zE _ rfl (by kernel_rfl) ?_ | refine zX rfl ?_ | refine zY rfl ?_ | refine zF ?_ | with_reducible refine zM ?_ | refine zK ?_ | refine zL ?_ | (with_reducible first | refine zP ?_ | refine zQ ?_ | refine zH ?_ | refine zJ ?_ | refine zI ?_) | refine zR ?_
def z5 : Gr := ⟨0, 0, 0, 0, 0⟩
theorem xE (xs : List Gr) (hl : xs.length ≤ 1000000000) : zr Go.Proofs.Try.prog 81 [gL xs] [] (.sl 0 0 xs.length) [gR xs] true := by
  refine z8 [2] Go.Proofs.Try.func81 rfl rfl ?_
  simp only [Go.Proofs.Try.ntmps81, List.length_cons, List.length_nil, Nat.reduceAdd, Nat.reduceSub, List.replicate_succ, List.replicate_zero, List.cons_append, List.nil_append]
  repeat' first | refine zN ?_ | refine zC ?_ | refine zS [] ?_ | (refine isA ?_; refine zg rfl ?_) | (refine isL ?_; refine zW rfl (by kernel_rfl) rfl rfl ?_) | (refine zj rfl ?_; refine zV rfl (by kernel_rfl) rfl rfl ?_) | refine zl rfl (mk_l gT z5 rfl rfl rfl hl rfl rfl rfl) rfl ?_ | refine za rfl (by kernel_rfl) rfl (mk_l gT z5 rfl rfl rfl hl rfl rfl rfl) rfl ?_ | refine zD ?_ | refine zE _ rfl (by kernel_rfl) ?_ | refine zX rfl ?_ | refine zY rfl ?_ | refine zF ?_ | with_reducible refine zM ?_ | refine zK ?_ | refine zL ?_ | (with_reducible first | refine zP ?_ | refine zQ ?_ | refine zH ?_ | refine zJ ?_ | refine zI ?_) | refine zR ?_
  refine yt (α := { i : Nat // i ≤ xs.length }) (fun i => ⟨[gL xs, .any, .any, .sl 0 0 xs.length, I i.1, .any, .any, .any, .any, .any, .any, .any, .any, .any, .any, .any, .any, .any, .any, .any, .any, .any, .any], [gR (xs.take i.1 ++ List.replicate (xs.length - i.1) z5)], 0⟩) (fun i => xs.length - i.1) ⟨0, Nat.zero_le _⟩ ?_ ?_
  · exact x5 [0] rfl rfl (by decide) (.cons rfl rfl rfl rfl (yA (zT _ _)) .nil) (by repeat' first | exact zt | refine zq ?_ ?_ | exact yG | exact le_refl rfl | exact yF rfl rfl | exact yQ rfl)
  · rintro ⟨i, hi⟩
    repeat' first | refine zN ?_ | refine zC ?_ | refine zS [] ?_ | (refine isA ?_; refine zg rfl ?_) | (refine isL ?_; refine zW rfl (by kernel_rfl) rfl rfl ?_) | (refine zj rfl ?_; refine zV rfl (by kernel_rfl) rfl rfl ?_) | refine zD ?_ | refine zE _ rfl (by kernel_rfl) ?_ | refine zX rfl ?_ | refine zY rfl ?_ | refine zF ?_ | with_reducible refine zM ?_ | refine zK ?_ | refine zL ?_ | (with_reducible first | refine zP ?_ | refine zQ ?_ | refine zH ?_ | refine zJ ?_ | refine zI ?_) | refine zR ?_
    refine zo rfl (fun h => ?_) (fun h => ?_)
    · have hlt : i < xs.length := by simpa using h
      obtain ⟨z, hz⟩ : ∃ z, xs[i]? = some z := ⟨_, List.getElem?_eq_getElem hlt⟩
      repeat' first | refine zN ?_ | refine zC ?_ | refine zS [] ?_ | (refine isA ?_; refine zg rfl ?_) | (refine isL ?_; refine zW rfl (by kernel_rfl) rfl rfl ?_) | (refine zj rfl ?_; refine zV rfl (by kernel_rfl) rfl rfl ?_) | refine zl rfl (yg (z := z) rfl rfl rfl rfl (Int.natCast_nonneg _) hz) rfl ?_ | refine za rfl (by kernel_rfl) rfl (yg (z := z) rfl rfl rfl rfl (Int.natCast_nonneg _) hz) rfl ?_ | refine zl rfl (zb rfl (ws _) (.cons (.same rfl) .nil) rfl) rfl ?_ | refine za rfl (by kernel_rfl) rfl (zb rfl (ws _) (.cons (.same rfl) .nil) rfl) rfl ?_ | refine zl rfl (yk rfl rfl rfl (Nat.zero_le _) rfl rfl (Int.natCast_nonneg _) (by simpa using hlt)) rfl ?_ | refine za rfl (by kernel_rfl) rfl (yk rfl rfl rfl (Nat.zero_le _) rfl rfl (Int.natCast_nonneg _) (by simpa using hlt)) rfl ?_ | refine zl rfl (uG rfl rfl rfl rfl rfl (by simp; omega)) rfl ?_ | refine za rfl (by kernel_rfl) rfl (uG rfl rfl rfl rfl rfl (by simp; omega)) rfl ?_ | refine zD ?_ | refine zE _ rfl (by kernel_rfl) ?_ | refine zX rfl ?_ | refine zY rfl ?_ | refine zF ?_ | with_reducible refine zM ?_ | refine zK ?_ | refine zL ?_ | (with_reducible first | refine zP ?_ | refine zQ ?_ | refine zH ?_ | refine zJ ?_ | refine zI ?_) | refine zR ?_
      refine ⟨⟨i + 1, hlt⟩, by simp only; omega, ?_⟩
      exact x5 [0] rfl rfl (by decide) (.cons rfl rfl rfl rfl (wR (by rw [Nat.zero_add]; exact congrArg gT.flat (tL (xs := xs) hz rfl)) (zT _ _)) .nil) (by repeat' first | exact zt | refine zq ?_ ?_ | exact yG | exact le_refl rfl | exact yF rfl rfl | exact yQ rfl | exact wh (by assumption) (by omega))
    · have hge : i = xs.length := by
        have : ¬ ((i : Int) < xs.length) := by simpa using h
        omega
      subst hge
      repeat' first | refine zN ?_ | refine zC ?_ | refine zS [] ?_ | (refine isA ?_; refine zg rfl ?_) | (refine isL ?_; refine zW rfl (by kernel_rfl) rfl rfl ?_) | (refine zj rfl ?_; refine zV rfl (by kernel_rfl) rfl rfl ?_) | exact finM 0 [0] (fun i hi => absurd hi (Nat.not_lt_zero _)) (by decide) rfl (yF rfl rfl) (.cons rfl rfl rfl rfl (wR (by simp) (zT _ _)) .nil) | refine zD ?_ | refine zE _ rfl (by kernel_rfl) ?_ | refine zX rfl ?_ | refine zY rfl ?_ | refine zF ?_ | with_reducible refine zM ?_ | refine zK ?_ | refine zL ?_ | (with_reducible first | refine zP ?_ | refine zQ ?_ | refine zH ?_ | refine zJ ?_ | refine zI ?_) | refine zR ?_
theorem yT (xs : List Gr) (hl : xs.length ≤ 1000000000) : zr Go.Proofs.Try.prog 81 [gL xs] [] (gL xs) [] true := (xE xs hl).frozen (pgr rfl)
theorem wX (x : Gr) : zr Go.Proofs.Try.prog 148 [.agg (gE x), .agg (gE x)] [] (B true) [] false := by
  refine z8 [4] Go.Proofs.Try.func148 rfl rfl ?_
  simp only [Go.Proofs.Try.ntmps148, List.length_cons, List.length_nil, Nat.reduceAdd, Nat.reduceSub, List.replicate_succ, List.replicate_zero, List.cons_append, List.nil_append]
  repeat' first | refine zN ?_ | refine zC ?_ | refine zS [] ?_ | (refine isA ?_; refine zg rfl ?_) | (refine isL ?_; refine zW rfl (by kernel_rfl) rfl rfl ?_) | (refine zj rfl ?_; refine zV rfl (by kernel_rfl) rfl rfl ?_) | refine zo rfl (fun h => by simp at h) (fun _ => ?_) | exact tK rfl rfl rfl | refine zD ?_ | refine zE _ rfl (by kernel_rfl) ?_ | refine zX rfl ?_ | refine zY rfl ?_ | refine zF ?_ | with_reducible refine zM ?_ | refine zK ?_ | refine zL ?_ | (with_reducible first | refine zP ?_ | refine zQ ?_ | refine zH ?_ | refine zJ ?_ | refine zI ?_) | refine zR ?_
theorem yH (xs : List Gr) (hl : xs.length ≤ 1000000000) : zr Go.Proofs.Try.prog 83 [gL xs, gL xs] [] (B true) [] false := by
  refine z8 [4] Go.Proofs.Try.func83 rfl rfl ?_
  simp only [Go.Proofs.Try.ntmps83, List.length_cons, List.length_nil, Nat.reduceAdd, Nat.reduceSub, List.replicate_succ, List.replicate_zero, List.cons_append, List.nil_append]
  repeat' first | refine zN ?_ | refine zC ?_ | refine zS [] ?_ | (refine isA ?_; refine zg rfl ?_) | (refine isL ?_; refine zW rfl (by kernel_rfl) rfl rfl ?_) | (refine zj rfl ?_; refine zV rfl (by kernel_rfl) rfl rfl ?_) | refine zD ?_ | refine zE _ rfl (by kernel_rfl) ?_ | refine zX rfl ?_ | refine zY rfl ?_ | refine zF ?_ | with_reducible refine zM ?_ | refine zK ?_ | refine zL ?_ | (with_reducible first | refine zP ?_ | refine zQ ?_ | refine zH ?_ | refine zJ ?_ | refine zI ?_) | refine zR ?_
  refine zo rfl (fun h => by simp at h) (fun _ => ?_)
  repeat' first | refine zN ?_ | refine zC ?_ | refine zS [] ?_ | (refine isA ?_; refine zg rfl ?_) | (refine isL ?_; refine zW rfl (by kernel_rfl) rfl rfl ?_) | (refine zj rfl ?_; refine zV rfl (by kernel_rfl) rfl rfl ?_) | refine zD ?_ | refine zE _ rfl (by kernel_rfl) ?_ | refine zX rfl ?_ | refine zY rfl ?_ | refine zF ?_ | with_reducible refine zM ?_ | refine zK ?_ | refine zL ?_ | (with_reducible first | refine zP ?_ | refine zQ ?_ | refine zH ?_ | refine zJ ?_ | refine zI ?_) | refine zR ?_
  refine yt (α := { i : Nat // i ≤ xs.length }) (fun i => ⟨[gL xs, gL xs, .any, .any, .any, I i.1, .any, .any, .any, .any, .any, .any, .any, .any, .any, .any, .any, .any, .any, .any, .any, .any, .any, .any, .any, .any, .any], [], 0⟩) (fun i => xs.length - i.1) ⟨0, Nat.zero_le _⟩ ?_ ?_
  · exact x5 [] rfl rfl (by decide) .nil (by repeat' first | exact zt | refine zq ?_ ?_ | exact yG | exact le_refl rfl | exact yF rfl rfl | exact yQ rfl)
  · rintro ⟨i, hi⟩
    repeat' first | refine zN ?_ | refine zC ?_ | refine zS [] ?_ | (refine isA ?_; refine zg rfl ?_) | (refine isL ?_; refine zW rfl (by kernel_rfl) rfl rfl ?_) | (refine zj rfl ?_; refine zV rfl (by kernel_rfl) rfl rfl ?_) | refine zD ?_ | refine zE _ rfl (by kernel_rfl) ?_ | refine zX rfl ?_ | refine zY rfl ?_ | refine zF ?_ | with_reducible refine zM ?_ | refine zK ?_ | refine zL ?_ | (with_reducible first | refine zP ?_ | refine zQ ?_ | refine zH ?_ | refine zJ ?_ | refine zI ?_) | refine zR ?_
    refine zo rfl (fun h => ?_) (fun h => ?_)
    · have hlt : i < xs.length := by simpa using h
      obtain ⟨z, hz⟩ : ∃ z, xs[i]? = some z := ⟨_, List.getElem?_eq_getElem hlt⟩
      repeat' first | refine zN ?_ | refine zC ?_ | refine zS [] ?_ | (refine isA ?_; refine zg rfl ?_) | (refine isL ?_; refine zW rfl (by kernel_rfl) rfl rfl ?_) | (refine zj rfl ?_; refine zV rfl (by kernel_rfl) rfl rfl ?_) | refine zl rfl (yg (z := z) rfl rfl rfl rfl (Int.natCast_nonneg _) hz) rfl ?_ | refine za rfl (by kernel_rfl) rfl (yg (z := z) rfl rfl rfl rfl (Int.natCast_nonneg _) hz) rfl ?_ | refine zl rfl (zb rfl (wX _) (.cons (.same rfl) (.cons (.same rfl) .nil)) rfl) rfl ?_ | refine za rfl (by kernel_rfl) rfl (zb rfl (wX _) (.cons (.same rfl) (.cons (.same rfl) .nil)) rfl) rfl ?_ | refine zD ?_ | refine zE _ rfl (by kernel_rfl) ?_ | refine zX rfl ?_ | refine zY rfl ?_ | refine zF ?_ | with_reducible refine zM ?_ | refine zK ?_ | refine zL ?_ | (with_reducible first | refine zP ?_ | refine zQ ?_ | refine zH ?_ | refine zJ ?_ | refine zI ?_) | refine zR ?_
      refine ⟨⟨i + 1, hlt⟩, by simp only; omega, ?_⟩
      exact x5 [] rfl rfl (by decide) .nil (by repeat' first | exact zt | refine zq ?_ ?_ | exact yG | exact le_refl rfl | exact yF rfl rfl | exact yQ rfl | exact wh (by assumption) (by omega))
    · repeat' first | refine zN ?_ | refine zC ?_ | refine zS [] ?_ | (refine isA ?_; refine zg rfl ?_) | (refine isL ?_; refine zW rfl (by kernel_rfl) rfl rfl ?_) | (refine zj rfl ?_; refine zV rfl (by kernel_rfl) rfl rfl ?_) | exact tK rfl rfl rfl | refine zD ?_ | refine zE _ rfl (by kernel_rfl) ?_ | refine zX rfl ?_ | refine zY rfl ?_ | refine zF ?_ | with_reducible refine zM ?_ | refine zK ?_ | refine zL ?_ | (with_reducible first | refine zP ?_ | refine zQ ?_ | refine zH ?_ | refine zJ ?_ | refine zI ?_) | refine zR ?_
def mkG (k : Int) (j : Nat) : Gr := ⟨kk k (5 * j), kk k (5 * j + 1), kk k (5 * j + 2), kk k (5 * j + 3), kk k (5 * j + 4)⟩
def mkC (k : Int) (xs : List Gr) (i : Nat) : List Gr := (List.range i).map (mkG k) ++ xs.drop i
theorem xh (k : Int) {xs : List Gr} {i : Nat} (h : i ≤ xs.length) : (mkC k xs i).length = xs.length := by simp [mkC]; omega
theorem yh (xs : List Gr) (k : Int) (hl : xs.length ≤ 1000000000) : zr Go.Proofs.Try.prog 84 [.sl 0 0 xs.length, I k] [gR xs] (I (kk k (5 * xs.length))) [gR (mkC k xs xs.length)] true := by
  refine z8 [4] Go.Proofs.Try.func84 rfl rfl ?_
  simp only [Go.Proofs.Try.ntmps84, List.length_cons, List.length_nil, Nat.reduceAdd, Nat.reduceSub, List.replicate_succ, List.replicate_zero, List.cons_append, List.nil_append]
  repeat' first | refine zN ?_ | refine zC ?_ | refine zS [] ?_ | (refine isA ?_; refine zg rfl ?_) | (refine isL ?_; refine zW rfl (by kernel_rfl) rfl rfl ?_) | (refine zj rfl ?_; refine zV rfl (by kernel_rfl) rfl rfl ?_) | refine zD ?_ | refine zE _ rfl (by kernel_rfl) ?_ | refine zX rfl ?_ | refine zY rfl ?_ | refine zF ?_ | with_reducible refine zM ?_ | refine zK ?_ | refine zL ?_ | (with_reducible first | refine zP ?_ | refine zQ ?_ | refine zH ?_ | refine zJ ?_ | refine zI ?_) | refine zR ?_
  refine yt (α := { i : Nat // i ≤ xs.length }) (fun i => ⟨[.sl 0 0 xs.length, I (kk k (5 * i.1)), .any, .any, .any, I i.1, .any, .any, .any, .any, .any, .any, .any, .any, .any, .any, .any, .any, .any, .any, .any, .any, .any, .any, .any, .any, .any, .any, .any, .any, .any, .any, .any, .any, .any, .any, .any, .any, .any, .any, .any, .any, .any, .any, .any, .any, .any, .any], [gR (mkC k xs i.1)], 1⟩) (fun i => xs.length - i.1) ⟨0, Nat.zero_le _⟩ ?_ ?_
  · exact subm 1 [0] rfl rfl tJ (by decide) (.cons rfl rfl rfl rfl (yA (zT _ _)) .nil) (by repeat' first | exact zt | refine zq ?_ ?_ | exact yG | exact le_refl rfl | exact yF rfl rfl | exact yQ rfl)
  · rintro ⟨i, hi⟩
    have hgl := xh k hi
    repeat' first | refine zN ?_ | refine zC ?_ | refine zS [] ?_ | (refine isA ?_; refine zg rfl ?_) | (refine isL ?_; refine zW rfl (by kernel_rfl) rfl rfl ?_) | (refine zj rfl ?_; refine zV rfl (by kernel_rfl) rfl rfl ?_) | refine zD ?_ | refine zE _ rfl (by kernel_rfl) ?_ | refine zX rfl ?_ | refine zY rfl ?_ | refine zF ?_ | with_reducible refine zM ?_ | refine zK ?_ | refine zL ?_ | (with_reducible first | refine zP ?_ | refine zQ ?_ | refine zH ?_ | refine zJ ?_ | refine zI ?_) | refine zR ?_
    refine zo rfl (fun h => ?_) (fun h => ?_)
    · have hlt : i < xs.length := by simpa using h
      obtain ⟨z, hz⟩ : ∃ z, (mkC k xs i)[0 + i]? = some z := ⟨_, List.getElem?_eq_getElem (by rw [hgl]; omega)⟩
      have hlt' : 0 + i < (mkC k xs i).length := by rw [hgl]; omega
      have nx : ∀ {ys : List Gr} {y : Gr}, 0 + i < ys.length → (ys.set (0 + i) y)[0 + i]? = some y := fun h => List.getElem?_set_self h
      have hz1 := nx (y := ⟨kk k (5 * i), z.n, z.s, z.lo, z.hi⟩) hlt'
      have hz2 := nx (ys := (mkC k xs i).set (0 + i) ⟨kk k (5 * i), z.n, z.s, z.lo, z.hi⟩) (y := ⟨kk k (5 * i), kk k (5 * i + 1), z.s, z.lo, z.hi⟩) (by rw [List.length_set]; exact hlt')
      have hz3 := nx (ys := ((mkC k xs i).set (0 + i) ⟨kk k (5 * i), z.n, z.s, z.lo, z.hi⟩).set (0 + i) ⟨kk k (5 * i), kk k (5 * i + 1), z.s, z.lo, z.hi⟩) (y := ⟨kk k (5 * i), kk k (5 * i + 1), kk k (5 * i + 2), z.lo, z.hi⟩) (by rw [List.length_set, List.length_set]; exact hlt')
      have hz4 := nx (ys := (((mkC k xs i).set (0 + i) ⟨kk k (5 * i), z.n, z.s, z.lo, z.hi⟩).set (0 + i) ⟨kk k (5 * i), kk k (5 * i + 1), z.s, z.lo, z.hi⟩).set (0 + i) ⟨kk k (5 * i), kk k (5 * i + 1), kk k (5 * i + 2), z.lo, z.hi⟩) (y := ⟨kk k (5 * i), kk k (5 * i + 1), kk k (5 * i + 2), kk k (5 * i + 3), z.hi⟩) (by rw [List.length_set, List.length_set, List.length_set]; exact hlt')
      repeat' first | refine zN ?_ | refine zC ?_ | refine zS [] ?_ | (refine isA ?_; refine zg rfl ?_) | (refine isL ?_; refine zW rfl (by kernel_rfl) rfl rfl ?_) | (refine zj rfl ?_; refine zV rfl (by kernel_rfl) rfl rfl ?_) | (refine xj ?_; refine zl rfl (yk (j := i) rfl rfl rfl (Nat.zero_le _) rfl rfl (Int.natCast_nonneg i) (by omega)) rfl ?_) | (refine xi rfl ?_; refine za rfl (by kernel_rfl) rfl (yk (j := i) rfl rfl rfl (Nat.zero_le _) rfl rfl (Int.natCast_nonneg i) (by omega)) rfl ?_) | (refine sG (x := .tmp 16) ?_; refine zl rfl (xS (T := gT) (i := 0 + i) (off := 0) (z := z) (z' := ⟨kk k (5 * i), z.n, z.s, z.lo, z.hi⟩) rfl rfl rfl rfl (by decide) rfl hz rfl) rfl ?_) | (refine vz (x := .tmp 16) rfl ?_; refine za rfl (by kernel_rfl) rfl (xS (T := gT) (i := 0 + i) (off := 0) (z := z) (z' := ⟨kk k (5 * i), z.n, z.s, z.lo, z.hi⟩) rfl rfl rfl rfl (by decide) rfl hz rfl) rfl ?_) | (refine sG (x := .tmp 23) ?_; refine zl rfl (xS (T := gT) (i := 0 + i) (off := 1) (z := ⟨kk k (5 * i), z.n, z.s, z.lo, z.hi⟩) (z' := ⟨kk k (5 * i), kk k (5 * i + 1), z.s, z.lo, z.hi⟩) rfl rfl rfl rfl (by decide) rfl hz1 rfl) rfl ?_) | (refine vz (x := .tmp 23) rfl ?_; refine za rfl (by kernel_rfl) rfl (xS (T := gT) (i := 0 + i) (off := 1) (z := ⟨kk k (5 * i), z.n, z.s, z.lo, z.hi⟩) (z' := ⟨kk k (5 * i), kk k (5 * i + 1), z.s, z.lo, z.hi⟩) rfl rfl rfl rfl (by decide) rfl hz1 rfl) rfl ?_) | (refine sG (x := .tmp 30) ?_; refine zl rfl (xS (T := gT) (i := 0 + i) (off := 2) (z := ⟨kk k (5 * i), kk k (5 * i + 1), z.s, z.lo, z.hi⟩) (z' := ⟨kk k (5 * i), kk k (5 * i + 1), kk k (5 * i + 2), z.lo, z.hi⟩) rfl rfl rfl rfl (by decide) rfl hz2 rfl) rfl ?_) | (refine vz (x := .tmp 30) rfl ?_; refine za rfl (by kernel_rfl) rfl (xS (T := gT) (i := 0 + i) (off := 2) (z := ⟨kk k (5 * i), kk k (5 * i + 1), z.s, z.lo, z.hi⟩) (z' := ⟨kk k (5 * i), kk k (5 * i + 1), kk k (5 * i + 2), z.lo, z.hi⟩) rfl rfl rfl rfl (by decide) rfl hz2 rfl) rfl ?_) | (refine sG (x := .tmp 37) ?_; refine zl rfl (xS (T := gT) (i := 0 + i) (off := 3) (z := ⟨kk k (5 * i), kk k (5 * i + 1), kk k (5 * i + 2), z.lo, z.hi⟩) (z' := ⟨kk k (5 * i), kk k (5 * i + 1), kk k (5 * i + 2), kk k (5 * i + 3), z.hi⟩) rfl rfl rfl rfl (by decide) rfl hz3 rfl) rfl ?_) | (refine vz (x := .tmp 37) rfl ?_; refine za rfl (by kernel_rfl) rfl (xS (T := gT) (i := 0 + i) (off := 3) (z := ⟨kk k (5 * i), kk k (5 * i + 1), kk k (5 * i + 2), z.lo, z.hi⟩) (z' := ⟨kk k (5 * i), kk k (5 * i + 1), kk k (5 * i + 2), kk k (5 * i + 3), z.hi⟩) rfl rfl rfl rfl (by decide) rfl hz3 rfl) rfl ?_) | (refine sG (x := .tmp 44) ?_; refine zl rfl (xS (T := gT) (i := 0 + i) (off := 4) (z := ⟨kk k (5 * i), kk k (5 * i + 1), kk k (5 * i + 2), kk k (5 * i + 3), z.hi⟩) (z' := mkG k i) rfl rfl rfl rfl (by decide) rfl hz4 rfl) rfl ?_) | (refine vz (x := .tmp 44) rfl ?_; refine za rfl (by kernel_rfl) rfl (xS (T := gT) (i := 0 + i) (off := 4) (z := ⟨kk k (5 * i), kk k (5 * i + 1), kk k (5 * i + 2), kk k (5 * i + 3), z.hi⟩) (z' := mkG k i) rfl rfl rfl rfl (by decide) rfl hz4 rfl) rfl ?_) | refine zD ?_ | refine zE _ rfl (by kernel_rfl) ?_ | refine zX rfl ?_ | refine zY rfl ?_ | refine zF ?_ | with_reducible refine zM ?_ | refine zK ?_ | refine zL ?_ | (with_reducible first | refine zP ?_ | refine zQ ?_ | refine zH ?_ | refine zJ ?_ | refine zI ?_) | refine zR ?_
      refine ⟨⟨i + 1, hlt⟩, by simp only; omega, ?_⟩
      exact subm 1 [0] rfl rfl tJ (by decide) (.cons rfl rfl rfl rfl (wR (by rw [Nat.zero_add]; show gT.flat (((((List.set _ i _).set i _).set i _).set i _).set i _) = _; rw [List.set_set, List.set_set, List.set_set, List.set_set]; exact congrArg gT.flat (qG (g := mkG k) hlt)) (zT _ _)) .nil) (by repeat' first | exact zt | refine zq ?_ ?_ | exact yG | exact le_refl rfl | exact yF rfl rfl | exact yQ rfl | exact wh (by assumption) (by omega))
    · have hge : i = xs.length := by
        have : ¬ ((i : Int) < xs.length) := by simpa using h
        omega
      subst hge
      repeat' first | refine zN ?_ | refine zC ?_ | refine zS [] ?_ | (refine isA ?_; refine zg rfl ?_) | (refine isL ?_; refine zW rfl (by kernel_rfl) rfl rfl ?_) | (refine zj rfl ?_; refine zV rfl (by kernel_rfl) rfl rfl ?_) | exact finM 1 [0] tJ (by decide) rfl (le_refl rfl) (.cons rfl rfl rfl rfl (yA (zT _ _)) .nil) | refine zD ?_ | refine zE _ rfl (by kernel_rfl) ?_ | refine zX rfl ?_ | refine zY rfl ?_ | refine zF ?_ | with_reducible refine zM ?_ | refine zK ?_ | refine zL ?_ | (with_reducible first | refine zP ?_ | refine zQ ?_ | refine zH ?_ | refine zJ ?_ | refine zI ?_) | refine zR ?_
theorem t8 {k : Int} {xs : List Gr} : ∀ (i : Nat) (x : Gr), (mkC k xs xs.length)[i]? = some x → x = mkG k i := fun i x h => by
  unfold mkC at h
  rw [List.drop_length, List.append_nil, List.getElem?_map] at h
  cases hi : (List.range xs.length)[i]? with
  | none => rw [hi] at h; cases h
  | some j =>
    rw [hi] at h
    have hj : j = i := by
      obtain ⟨q, e⟩ := List.getElem?_eq_some_iff.1 hi
      simpa using e.symm
    subst hj
    simpa using h.symm
theorem vE (xs : List Gr) (k : Int) (hl : xs.length ≤ 1000000000) (hk : ∀ i z, xs[i]? = some z → z = mkG k i) : zr Go.Proofs.Try.prog 85 [gL xs, I k] [] (I (kk k (5 * xs.length))) [] false := by
  refine z8 [4] Go.Proofs.Try.func85 rfl rfl ?_
  simp only [Go.Proofs.Try.ntmps85, List.length_cons, List.length_nil, Nat.reduceAdd, Nat.reduceSub, List.replicate_succ, List.replicate_zero, List.cons_append, List.nil_append]
  repeat' first | refine zN ?_ | refine zC ?_ | refine zS [] ?_ | (refine isA ?_; refine zg rfl ?_) | (refine isL ?_; refine zW rfl (by kernel_rfl) rfl rfl ?_) | (refine zj rfl ?_; refine zV rfl (by kernel_rfl) rfl rfl ?_) | refine zD ?_ | refine zE _ rfl (by kernel_rfl) ?_ | refine zX rfl ?_ | refine zY rfl ?_ | refine zF ?_ | with_reducible refine zM ?_ | refine zK ?_ | refine zL ?_ | (with_reducible first | refine zP ?_ | refine zQ ?_ | refine zH ?_ | refine zJ ?_ | refine zI ?_) | refine zR ?_
  refine yt (α := { i : Nat // i ≤ xs.length }) (fun i => ⟨[gL xs, I (kk k (5 * i.1)), .any, .any, .any, I i.1, .any, .any, .any, .any, .any, .any, .any, .any, .any, .any, .any, .any, .any, .any, .any, .any, .any, .any, .any, .any, .any, .any, .any, .any, .any, .any, .any, .any, .any, .any, .any, .any, .any, .any, .any, .any, .any, .any, .any, .any, .any, .any, .any, .any, .any, .any, .any, .any, .any, .any, .any, .any], [], 0⟩) (fun i => xs.length - i.1) ⟨0, Nat.zero_le _⟩ ?_ ?_
  · exact x5 [] rfl rfl (by decide) .nil (by repeat' first | exact zt | refine zq ?_ ?_ | exact yG | exact le_refl rfl | exact yF rfl rfl | exact yQ rfl)
  · rintro ⟨i, hi⟩
    repeat' first | refine zN ?_ | refine zC ?_ | refine zS [] ?_ | (refine isA ?_; refine zg rfl ?_) | (refine isL ?_; refine zW rfl (by kernel_rfl) rfl rfl ?_) | (refine zj rfl ?_; refine zV rfl (by kernel_rfl) rfl rfl ?_) | refine zD ?_ | refine zE _ rfl (by kernel_rfl) ?_ | refine zX rfl ?_ | refine zY rfl ?_ | refine zF ?_ | with_reducible refine zM ?_ | refine zK ?_ | refine zL ?_ | (with_reducible first | refine zP ?_ | refine zQ ?_ | refine zH ?_ | refine zJ ?_ | refine zI ?_) | refine zR ?_
    refine zo rfl (fun h => ?_) (fun h => ?_)
    · have hlt : i < xs.length := by simpa using h
      obtain ⟨z, hz⟩ : ∃ z, xs[i]? = some z := ⟨_, List.getElem?_eq_getElem hlt⟩
      have hzk := hk i z hz
      subst hzk
      repeat' first | refine zN ?_ | refine zC ?_ | refine zS [] ?_ | (refine isA ?_; refine zg rfl ?_) | (refine isL ?_; refine zW rfl (by kernel_rfl) rfl rfl ?_) | (refine zj rfl ?_; refine zV rfl (by kernel_rfl) rfl rfl ?_) | (refine xj ?_; refine zl rfl (yg (t := gT) (z := mkG k i) rfl rfl rfl rfl (Int.natCast_nonneg i) hz) rfl ?_) | (refine xi rfl ?_; refine za rfl (by kernel_rfl) rfl (yg (t := gT) (z := mkG k i) rfl rfl rfl rfl (Int.natCast_nonneg i) hz) rfl ?_) | refine zD ?_ | refine zE _ rfl (by kernel_rfl) ?_ | refine zX rfl ?_ | refine zY rfl ?_ | refine zF ?_ | with_reducible refine zM ?_ | refine zK ?_ | refine zL ?_ | (with_reducible first | refine zP ?_ | refine zQ ?_ | refine zH ?_ | refine zJ ?_ | refine zI ?_) | refine zR ?_
      refine zo rfl (fun h => by simp [mkG] at h) (fun _ => ?_)
      repeat' first | refine zN ?_ | refine zC ?_ | refine zS [] ?_ | (refine isA ?_; refine zg rfl ?_) | (refine isL ?_; refine zW rfl (by kernel_rfl) rfl rfl ?_) | (refine zj rfl ?_; refine zV rfl (by kernel_rfl) rfl rfl ?_) | (refine xj ?_; refine zl rfl (yg (t := gT) (z := mkG k i) rfl rfl rfl rfl (Int.natCast_nonneg i) hz) rfl ?_) | (refine xi rfl ?_; refine za rfl (by kernel_rfl) rfl (yg (t := gT) (z := mkG k i) rfl rfl rfl rfl (Int.natCast_nonneg i) hz) rfl ?_) | refine zD ?_ | refine zE _ rfl (by kernel_rfl) ?_ | refine zX rfl ?_ | refine zY rfl ?_ | refine zF ?_ | with_reducible refine zM ?_ | refine zK ?_ | refine zL ?_ | (with_reducible first | refine zP ?_ | refine zQ ?_ | refine zH ?_ | refine zJ ?_ | refine zI ?_) | refine zR ?_
      refine zo rfl (fun h => by simp [mkG, kk] at h) (fun _ => ?_)
      repeat' first | refine zN ?_ | refine zC ?_ | refine zS [] ?_ | (refine isA ?_; refine zg rfl ?_) | (refine isL ?_; refine zW rfl (by kernel_rfl) rfl rfl ?_) | (refine zj rfl ?_; refine zV rfl (by kernel_rfl) rfl rfl ?_) | (refine xj ?_; refine zl rfl (yg (t := gT) (z := mkG k i) rfl rfl rfl rfl (Int.natCast_nonneg i) hz) rfl ?_) | (refine xi rfl ?_; refine za rfl (by kernel_rfl) rfl (yg (t := gT) (z := mkG k i) rfl rfl rfl rfl (Int.natCast_nonneg i) hz) rfl ?_) | refine zD ?_ | refine zE _ rfl (by kernel_rfl) ?_ | refine zX rfl ?_ | refine zY rfl ?_ | refine zF ?_ | with_reducible refine zM ?_ | refine zK ?_ | refine zL ?_ | (with_reducible first | refine zP ?_ | refine zQ ?_ | refine zH ?_ | refine zJ ?_ | refine zI ?_) | refine zR ?_
      refine zo rfl (fun h => by simp [mkG, kk] at h) (fun _ => ?_)
      repeat' first | refine zN ?_ | refine zC ?_ | refine zS [] ?_ | (refine isA ?_; refine zg rfl ?_) | (refine isL ?_; refine zW rfl (by kernel_rfl) rfl rfl ?_) | (refine zj rfl ?_; refine zV rfl (by kernel_rfl) rfl rfl ?_) | (refine xj ?_; refine zl rfl (yg (t := gT) (z := mkG k i) rfl rfl rfl rfl (Int.natCast_nonneg i) hz) rfl ?_) | (refine xi rfl ?_; refine za rfl (by kernel_rfl) rfl (yg (t := gT) (z := mkG k i) rfl rfl rfl rfl (Int.natCast_nonneg i) hz) rfl ?_) | refine zD ?_ | refine zE _ rfl (by kernel_rfl) ?_ | refine zX rfl ?_ | refine zY rfl ?_ | refine zF ?_ | with_reducible refine zM ?_ | refine zK ?_ | refine zL ?_ | (with_reducible first | refine zP ?_ | refine zQ ?_ | refine zH ?_ | refine zJ ?_ | refine zI ?_) | refine zR ?_
      refine zo rfl (fun h => by simp [mkG, kk] at h) (fun _ => ?_)
      repeat' first | refine zN ?_ | refine zC ?_ | refine zS [] ?_ | (refine isA ?_; refine zg rfl ?_) | (refine isL ?_; refine zW rfl (by kernel_rfl) rfl rfl ?_) | (refine zj rfl ?_; refine zV rfl (by kernel_rfl) rfl rfl ?_) | (refine xj ?_; refine zl rfl (yg (t := gT) (z := mkG k i) rfl rfl rfl rfl (Int.natCast_nonneg i) hz) rfl ?_) | (refine xi rfl ?_; refine za rfl (by kernel_rfl) rfl (yg (t := gT) (z := mkG k i) rfl rfl rfl rfl (Int.natCast_nonneg i) hz) rfl ?_) | refine zD ?_ | refine zE _ rfl (by kernel_rfl) ?_ | refine zX rfl ?_ | refine zY rfl ?_ | refine zF ?_ | with_reducible refine zM ?_ | refine zK ?_ | refine zL ?_ | (with_reducible first | refine zP ?_ | refine zQ ?_ | refine zH ?_ | refine zJ ?_ | refine zI ?_) | refine zR ?_
      refine zo rfl (fun h => by simp [mkG, kk] at h) (fun _ => ?_)
      repeat' first | refine zN ?_ | refine zC ?_ | refine zS [] ?_ | (refine isA ?_; refine zg rfl ?_) | (refine isL ?_; refine zW rfl (by kernel_rfl) rfl rfl ?_) | (refine zj rfl ?_; refine zV rfl (by kernel_rfl) rfl rfl ?_) | refine zD ?_ | refine zE _ rfl (by kernel_rfl) ?_ | refine zX rfl ?_ | refine zY rfl ?_ | refine zF ?_ | with_reducible refine zM ?_ | refine zK ?_ | refine zL ?_ | (with_reducible first | refine zP ?_ | refine zQ ?_ | refine zH ?_ | refine zJ ?_ | refine zI ?_) | refine zR ?_
      refine ⟨⟨i + 1, hlt⟩, by simp only; omega, ?_⟩
      exact x5 [] rfl rfl (by decide) .nil (by repeat' first | exact zt | refine zq ?_ ?_ | exact yG | exact le_refl rfl | exact yF rfl rfl | exact yQ rfl | exact wh (by assumption) (by omega))
    · have hge : i = xs.length := by
        have : ¬ ((i : Int) < xs.length) := by simpa using h
        omega
      subst hge
      repeat' first | refine zN ?_ | refine zC ?_ | refine zS [] ?_ | (refine isA ?_; refine zg rfl ?_) | (refine isL ?_; refine zW rfl (by kernel_rfl) rfl rfl ?_) | (refine zj rfl ?_; refine zV rfl (by kernel_rfl) rfl rfl ?_) | exact tK rfl rfl rfl | refine zD ?_ | refine zE _ rfl (by kernel_rfl) ?_ | refine zX rfl ?_ | refine zY rfl ?_ | refine zF ?_ | with_reducible refine zM ?_ | refine zK ?_ | refine zL ?_ | (with_reducible first | refine zP ?_ | refine zQ ?_ | refine zH ?_ | refine zJ ?_ | refine zI ?_) | refine zR ?_
end Go.Proofs.Ytkcicbigpbdjpaa.Ab.Gq
namespace Go.Proofs.Ytkcicbigpbdjpaa.Ab.Gq
open Go.RowKit
theorem tH (gs : List Gr) : zu gs = t7 gs := (qF gs).symm
theorem wG (g : List Gr) (hl : g.length ≤ 1000000000) : zr Go.Proofs.Try.prog 85 [gL (mkC 1 g g.length), I 1] [] (I (kk 1 (5 * g.length))) [] false := by
  have := vE (mkC 1 g g.length) 1 (by rw [xh 1 (Nat.le_refl _)]; exact hl) (fun i z hz => t8 i z hz)
  rwa [xh 1 (Nat.le_refl _)] at this
theorem pmk {H : List Reg} {h : Nat} {g : List Gr} (hH : H[h]? = some (gR (mkC 1 g g.length))) : Pur true H (.sl h 0 g.length) (gL (mkC 1 g g.length)) := by
  have := pgr hH
  rwa [xh 1 (Nat.le_refl _)] at this
theorem law_MergeGroups (gs : List Gr) (hl0 : gs.length ≤ 9223372036854775807) : zr Go.Proofs.Try.prog 12 [gL gs] [] (B true) [] false := by
  refine z8 [2] Go.Proofs.Try.func12 rfl rfl ?_
  simp only [Go.Proofs.Try.ntmps12, List.length_cons, List.length_nil, Nat.reduceAdd, Nat.reduceSub, List.replicate_succ, List.replicate_zero, List.cons_append, List.nil_append]
  repeat' first | refine zN ?_ | refine zC ?_ | refine zS [] ?_ | (refine isA ?_; refine zg rfl ?_) | (refine isL ?_; refine zW rfl (by kernel_rfl) rfl rfl ?_) | (refine zj rfl ?_; refine zV rfl (by kernel_rfl) rfl rfl ?_) | (refine yo 79 ?_; refine zl rfl (zb rfl (wW gs _) (.cons (.same rfl) (.cons (.same rfl) .nil)) rfl) rfl ?_) | (refine yn 79 rfl ?_; refine za rfl (by kernel_rfl) rfl (zb rfl (wW gs _) (.cons (.same rfl) (.cons (.same rfl) .nil)) rfl) rfl ?_) | refine zD ?_ | refine zE _ rfl (by kernel_rfl) ?_ | refine zX rfl ?_ | refine zY rfl ?_ | refine zF ?_ | with_reducible refine zM ?_ | refine zK ?_ | refine zL ?_ | (with_reducible first | refine zP ?_ | refine zQ ?_ | refine zH ?_ | refine zJ ?_ | refine zI ?_) | refine zR ?_
  refine zo rfl (fun h => ?_) (fun h => ?_)
  · repeat' first | refine zN ?_ | refine zC ?_ | refine zS [] ?_ | (refine isA ?_; refine zg rfl ?_) | (refine isL ?_; refine zW rfl (by kernel_rfl) rfl rfl ?_) | (refine zj rfl ?_; refine zV rfl (by kernel_rfl) rfl rfl ?_) | exact tK rfl rfl rfl | refine zD ?_ | refine zE _ rfl (by kernel_rfl) ?_ | refine zX rfl ?_ | refine zY rfl ?_ | refine zF ?_ | with_reducible refine zM ?_ | refine zK ?_ | refine zL ?_ | (with_reducible first | refine zP ?_ | refine zQ ?_ | refine zH ?_ | refine zJ ?_ | refine zI ?_) | refine zR ?_
  obtain ⟨hl1, _⟩ := pe hl0 (by decide) (by decide) h
  have hl : gs.length ≤ 1048576 := by omega
  have c0 := s0 gs (by omega)
  have c1 := sw gs (by omega)
  have hgl : (zu gs).length ≤ gs.length := wS gs
  rw [tH] at c1 hgl
  generalize t7 gs = g at c0 c1 hgl
  have hneg : decide (kk 1 (5 * gs.length) < 0) = false := sE (by omega) (by omega) (by omega)
  have hnegg : decide (kk 1 (5 * g.length) < 0) = false := sE (by omega) (by omega) (by omega)
  repeat' first | refine zN ?_ | refine zC ?_ | refine zS [] ?_ | (refine isA ?_; refine zg rfl ?_) | (refine isL ?_; refine zW rfl (by kernel_rfl) rfl rfl ?_) | (refine zj rfl ?_; refine zV rfl (by kernel_rfl) rfl rfl ?_) | (refine yo 81 (x := #[.tmp 16]) ?_; refine zl rfl (zb rfl (yT gs (by omega)) (.cons (.same rfl) .nil) rfl) rfl ?_) | (refine yn 81 (x := #[.tmp 16]) rfl ?_; refine za rfl (by kernel_rfl) rfl (zb rfl (yT gs (by omega)) (.cons (.same rfl) .nil) rfl) rfl ?_) | (refine yo 80 ?_; refine zl rfl (zb rfl (c1.frozen (pgr rfl)) (.cons (.same rfl) .nil) rfl) rfl ?_) | (refine yn 80 rfl ?_; refine za rfl (by kernel_rfl) rfl (zb rfl (c1.frozen (pgr rfl)) (.cons (.same rfl) .nil) rfl) rfl ?_) | (refine yo 81 (x := #[.tmp 19]) ?_; refine zl rfl (xb rfl (xE gs (by omega)) (.cons (.same rfl) .nil) (fun q hq => by simp at hq; subst hq; exact zT _ _) rfl rfl) rfl ?_) | (refine yn 81 (x := #[.tmp 19]) rfl ?_; refine za rfl (by kernel_rfl) rfl (xb rfl (xE gs (by omega)) (.cons (.same rfl) .nil) (fun q hq => by simp at hq; subst hq; exact zT _ _) rfl rfl) rfl ?_) | (refine yo 82 (x := #[.tmp 21]) ?_; refine zl rfl (xb rfl c0 (.cons (pgr rfl) .nil) (fun q hq => by simp at hq; subst hq; exact zT _ _) rfl rfl) rfl ?_) | (refine yn 82 (x := #[.tmp 21]) rfl ?_; refine za rfl (by kernel_rfl) rfl (xb rfl c0 (.cons (pgr rfl) .nil) (fun q hq => by simp at hq; subst hq; exact zT _ _) rfl rfl) rfl ?_) | (refine yo 83 (x := #[.tmp 23, .tmp 24]) ?_; refine zl rfl (zb rfl (yH g (by omega)) (.cons (pgr rfl) (.cons (.same rfl) .nil)) rfl) rfl ?_) | (refine yn 83 (x := #[.tmp 23, .tmp 24]) rfl ?_; refine za rfl (by kernel_rfl) rfl (zb rfl (yH g (by omega)) (.cons (pgr rfl) (.cons (.same rfl) .nil)) rfl) rfl ?_) | (refine yo 81 (x := #[.tmp 28]) ?_; refine zl rfl (zb rfl (yT gs (by omega)) (.cons (.same rfl) .nil) rfl) rfl ?_) | (refine yn 81 (x := #[.tmp 28]) rfl ?_; refine za rfl (by kernel_rfl) rfl (zb rfl (yT gs (by omega)) (.cons (.same rfl) .nil) rfl) rfl ?_) | (refine yo 83 (x := #[.tmp 27, .tmp 29]) ?_; refine zl rfl (zb rfl (yH gs (by omega)) (.cons (pgr rfl) (.cons (.same rfl) .nil)) rfl) rfl ?_) | (refine yn 83 (x := #[.tmp 27, .tmp 29]) rfl ?_; refine za rfl (by kernel_rfl) rfl (zb rfl (yH gs (by omega)) (.cons (pgr rfl) (.cons (.same rfl) .nil)) rfl) rfl ?_) | (refine yo 84 (x := #[.tmp 32, .tmp 33]) ?_; refine zl rfl (zv (K := []) (Rs' := [_]) [0] (by decide) rfl (yh gs 1 (by omega)) (.cons rfl rfl rfl (zT _ _) (zT _ _) .nil) (.cons (.sl rfl) (.cons (.same rfl) .nil)) (fun q hq => by cases hq) rfl) rfl ?_) | (refine yn 84 (x := #[.tmp 32, .tmp 33]) rfl ?_; refine za rfl (by kernel_rfl) rfl (zv (K := []) (Rs' := [_]) [0] (by decide) rfl (yh gs 1 (by omega)) (.cons rfl rfl rfl (zT _ _) (zT _ _) .nil) (.cons (.sl rfl) (.cons (.same rfl) .nil)) (fun q hq => by cases hq) rfl) rfl ?_) | refine zD ?_ | refine zE _ rfl (by kernel_rfl) ?_ | refine zX rfl ?_ | refine zY rfl ?_ | refine zF ?_ | with_reducible refine zM ?_ | refine zK ?_ | refine zL ?_ | (with_reducible first | refine zP ?_ | refine zQ ?_ | refine zH ?_ | refine zJ ?_ | refine zI ?_) | refine zR ?_
  refine do_br rfl rfl (fun h => by rw [hneg] at h; cases h) (fun _ => ?_)
  repeat' first | refine zN ?_ | refine zC ?_ | refine zS [] ?_ | (refine isA ?_; refine zg rfl ?_) | (refine isL ?_; refine zW rfl (by kernel_rfl) rfl rfl ?_) | (refine zj rfl ?_; refine zV rfl (by kernel_rfl) rfl rfl ?_) | (refine yo 83 (x := #[.tmp 38, .tmp 39]) ?_; refine zl rfl (zb rfl (yH g (by omega)) (.cons (pgr rfl) (.cons (.same rfl) .nil)) rfl) rfl ?_) | (refine yn 83 (x := #[.tmp 38, .tmp 39]) rfl ?_; refine za rfl (by kernel_rfl) rfl (zb rfl (yH g (by omega)) (.cons (pgr rfl) (.cons (.same rfl) .nil)) rfl) rfl ?_) | (refine yo 84 (x := #[.tmp 43, .tmp 44]) ?_; refine zl rfl (zv (K := []) (Rs' := [_]) [1] (by decide) rfl (yh g 1 (by omega)) (.cons rfl rfl rfl (zT _ _) (zT _ _) .nil) (.cons (.sl rfl) (.cons (.same rfl) .nil)) (fun q hq => by cases hq) rfl) rfl ?_) | (refine yn 84 (x := #[.tmp 43, .tmp 44]) rfl ?_; refine za rfl (by kernel_rfl) rfl (zv (K := []) (Rs' := [_]) [1] (by decide) rfl (yh g 1 (by omega)) (.cons rfl rfl rfl (zT _ _) (zT _ _) .nil) (.cons (.sl rfl) (.cons (.same rfl) .nil)) (fun q hq => by cases hq) rfl) rfl ?_) | (refine yo 85 ?_; refine zl rfl (zb rfl (wG g (by omega)) (.cons (pmk rfl) (.cons (.same rfl) .nil)) rfl) rfl ?_) | (refine yn 85 rfl ?_; refine za rfl (by kernel_rfl) rfl (zb rfl (wG g (by omega)) (.cons (pmk rfl) (.cons (.same rfl) .nil)) rfl) rfl ?_) | refine zD ?_ | refine zE _ rfl (by kernel_rfl) ?_ | refine zX rfl ?_ | refine zY rfl ?_ | refine zF ?_ | with_reducible refine zM ?_ | refine zK ?_ | refine zL ?_ | (with_reducible first | refine zP ?_ | refine zQ ?_ | refine zH ?_ | refine zJ ?_ | refine zI ?_) | refine zR ?_
  refine zo rfl (fun h => by rw [hnegg] at h; cases h) (fun _ => ?_)
  repeat' first | (refine isA ?_; refine zl rfl (wq rfl rfl rfl) rfl ?_) | refine zN ?_ | refine zC ?_ | refine zS [] ?_ | (refine isA ?_; refine zg rfl ?_) | (refine isL ?_; refine zW rfl (by kernel_rfl) rfl rfl ?_) | (refine zj rfl ?_; refine zV rfl (by kernel_rfl) rfl rfl ?_) | (refine yo 81 ?_; refine zl rfl (zb rfl (yT gs (by omega)) (.cons (.same rfl) .nil) rfl) rfl ?_) | (refine yn 81 rfl ?_; refine za rfl (by kernel_rfl) rfl (zb rfl (yT gs (by omega)) (.cons (.same rfl) .nil) rfl) rfl ?_) | (refine yo 82 ?_; refine zl rfl (zb rfl (c0.frozen (pgr rfl)) (.cons (.same rfl) .nil) rfl) rfl ?_) | (refine yn 82 rfl ?_; refine za rfl (by kernel_rfl) rfl (zb rfl (c0.frozen (pgr rfl)) (.cons (.same rfl) .nil) rfl) rfl ?_) | (refine yo 83 ?_; refine zl rfl (zb rfl (yH g (by omega)) (.cons (.same rfl) (.cons (.same rfl) .nil)) rfl) rfl ?_) | (refine yn 83 rfl ?_; refine za rfl (by kernel_rfl) rfl (zb rfl (yH g (by omega)) (.cons (.same rfl) (.cons (.same rfl) .nil)) rfl) rfl ?_) | (refine yo 85 ?_; refine zl rfl (zb rfl (wG g (by omega)) (.cons (pmk rfl) (.cons (.same rfl) .nil)) rfl) rfl ?_) | (refine yn 85 rfl ?_; refine za rfl (by kernel_rfl) rfl (zb rfl (wG g (by omega)) (.cons (pmk rfl) (.cons (.same rfl) .nil)) rfl) rfl ?_) | refine zD ?_ | refine zE _ rfl (by kernel_rfl) ?_ | refine zX rfl ?_ | refine zY rfl ?_ | refine zF ?_ | with_reducible refine zM ?_ | refine zK ?_ | refine zL ?_ | (with_reducible first | refine zP ?_ | refine zQ ?_ | refine zH ?_ | refine zJ ?_ | refine zI ?_) | refine zR ?_
  refine zo rfl (fun h => by rw [hnegg] at h; cases h) (fun _ => ?_)
  repeat' first | (refine isA ?_; refine zl rfl (wq rfl rfl rfl) rfl ?_) | refine zN ?_ | refine zC ?_ | refine zS [] ?_ | (refine isA ?_; refine zg rfl ?_) | (refine isL ?_; refine zW rfl (by kernel_rfl) rfl rfl ?_) | (refine zj rfl ?_; refine zV rfl (by kernel_rfl) rfl rfl ?_) | exact tK rfl rfl rfl | refine zD ?_ | refine zE _ rfl (by kernel_rfl) ?_ | refine zX rfl ?_ | refine zY rfl ?_ | refine zF ?_ | with_reducible refine zM ?_ | refine zK ?_ | refine zL ?_ | (with_reducible first | refine zP ?_ | refine zQ ?_ | refine zH ?_ | refine zJ ?_ | refine zI ?_) | refine zR ?_
end Go.Proofs.Ytkcicbigpbdjpaa.Ab.Gq
namespace Go.Proofs.Ytkcicbigpbdjpaa.Ab
open Go.RowKit
section
variable {A : Nat → Prop} {W : World}
theorem tO {a : Option Addr} {len cap : Nat} {e : V} (h2 : zG A W [] [e] (fun i => (Value.slice a len cap).cells.toList[i]?)) : Rel A W [] e (.slice a len cap) := by
  obtain ⟨y, h3, h4⟩ := zk h2 (i := 0) (c := e) rfl
  have : y = .slice a len cap := by simpa [Value.cells] using h3.symm
  subst this
  exact h4
end
section
variable {P : Program} {β : Type} {off tot : Nat} {f : Field} {fs : List Field} {eb : β → List V} {okb : β → Prop}
theorem tC {α γ : Type} {t : TypeId} {ea : α → List V} {ec : γ → List V} {oka : α → Prop} {okc : γ → Prop} (h : xH P t ea oka) (f : α → γ) (he : ∀ a, ec (f a) = ea a) (ho : ∀ a, oka a → okc (f a)) : xH P t ec okc := tE f he ho h
theorem wU {k : IntKind} (ho : f.offset = off) (hc : P.cellsOf f.type = 1) (ht : P.underlying f.type = some (.int k)) (hs : xy P (off + 1) fs eb okb tot) : xy P off (f :: fs) (fun p : Int × β => .k (.int k p.1) :: eb p.2) (fun p => okI k p.1 ∧ okb p.2) (1 + tot) :=
  qP (c := 1) (ea := fun n : Int => [.k (.int k n)]) ho hc (fun _ => rfl) (tF ht) hs
end
section
variable {A : Nat → Prop} {W : World}
end
end Go.Proofs.Ytkcicbigpbdjpaa.Ab
namespace Go.Proofs.Ytkcicbigpbdjpaa.Ab.Gq
open Go.RowKit
def okGr (c : Gr) : Prop := okI .i64 c.k ∧ okI .i64 c.n ∧ okI .i64 c.s ∧ okI .i64 c.lo ∧ okI .i64 c.hi
theorem o_gr : xH Go.Proofs.Try.prog 139 gE okGr := by
  have h := w8 Go.Proofs.Try.underlying139 (by kernel_rfl) (wU rfl (by kernel_rfl) Go.Proofs.Try.underlying3 (wU rfl (by kernel_rfl) Go.Proofs.Try.underlying3 (wU rfl (by kernel_rfl) Go.Proofs.Try.underlying3 (wU rfl (by kernel_rfl) Go.Proofs.Try.underlying3 (wU rfl (by kernel_rfl) Go.Proofs.Try.underlying3 pm)))))
  exact tC h (fun p => ⟨p.1, p.2.1, p.2.2.1, p.2.2.2.1, p.2.2.2.2.1⟩) (fun _ => rfl) (fun _ h => ⟨h.1, h.2.1, h.2.2.1, h.2.2.2.1, h.2.2.2.2.1⟩)
theorem o_groups : xH Go.Proofs.Try.prog 82 (fun l : List Gr => [gL l]) (okL okGr) := vV Go.Proofs.Try.underlying82 (by kernel_rfl) o_gr
end Go.Proofs.Ytkcicbigpbdjpaa.Ab.Gq
